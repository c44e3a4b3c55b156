/- A verified symbolic executor and its contracts (part SxG). No condition. -/
import Derived.Test.YtbnplfhajafhmaaGreatSxB
import Derived.Still
import Derived.Deep.LoopGhost
import Derived.ProofKit
import Derived.OpenShut
import Derived.ChangeOld
import Derived.Below
import Derived.Carry
import Derived.Lib.SliceRun
import Derived.Deep.RegionLaw
import Derived.Lib.SlicesDelete
import Derived.Laws.Rows
set_option linter.unusedVariables false
set_option linter.unusedSimpArgs false
/- Regions. No condition. -/
namespace Go.SX
open Go.RowKit
set_option linter.unusedVariables false
set_option linter.unusedSimpArgs false
section
variable {P : Program} {T : bN} {Γ : FuncId → Option PC} {R : FuncId → Option bW} {all : Array Oper} {k : Nat} {bK : St} {E : List iL} {cK : List Nat} {c9 : St}
  {base : Nat} {M : LM} {w0 : World} {Q : Exit → Act → World → Prop}
def dn(aw:Array Bool)(j:Nat):Bool:=aw.getD j false
theorem tu{aw:Array Bool}{i:Nat}(hi:i<aw.size):dn (aw.setIfInBounds i true)=ie (dn aw) i:=by
 funext j
 unfold dn ie
 by_cases h:j=i
 ·subst h;simp[hi]
 ·rw[if_neg h]
  simp only[Array.getD_eq_getD_getElem?]
  rw[Array.getElem?_setIfInBounds_ne (fun e=>h e.symm)]
theorem mz(h:qk all k=true){i:Nat}{o:Oper}(ho:all[i]? = some o):(i<k\/∀ j,j<i->(dX all i).testBit j=true)/\∀ e∈o.after,Region.binds .any e=true->e.on<i:=by
 have hi:=(Array.getElem?_eq_some_iff.1 ho).1
 have:=List.all_eq_true.1 h i (List.mem_range.2 hi)
 rw[Bool.and_eq_true,ho] at this
 obtain⟨h1,h2⟩:=this
 refine⟨?_,fun e he hb=>?_⟩
 ·rw[Bool.or_eq_true] at h1
  rcases h1 with h1|h1
  ·exact .inl (by simpa using h1)
  ·exact .inr fun j hj=>List.all_eq_true.1 h1 j (List.mem_range.2 hj)
 ·have:=List.all_eq_true.1 h2 e (by simpa using he)
  simpa[hb] using this
theorem PQ(h:qk all k=true):∀ i j,(dX all i).testBit j=true->j<i:=by
 intro i
 induction i using Nat.strongRecOn with
 | _ i ih =>
   intro j hj
   obtain⟨o,h1,e,h2,h3,h4⟩:=wu all i j hj
   have:=(mz h h1).2 e h2 h3
   rcases h4 with rfl|⟨_,h5⟩
   ·exact this
   ·exact Nat.lt_trans (ih e.on this j h5) this
theorem yG(h:qk all k=true){aw:Array Bool}{i:Nat}{o:Oper}(ho:all[i]? = some o)(hu:aw.getD i true=false)(hb:∀ j,j<i->aw.getD j false=true):i∈Region.ready .any all aw :=
 mem_ready.2 ⟨hu,o,ho,fun e he rM=>hb _ ((mz h ho).2 e he rM)⟩
theorem u6(h:qk all k=true):∀(n i fuel:Nat) (aw:Array Bool) (a:Act) (w:World),i+n=all.size->k<=i->n<=fuel->aw.size=all.size->zF all aw →
 (∀ j,j<i->aw.getD j false=true)->(∀ j,i<=j->j<all.size->aw.getD j true=false)->wpOps P all Q (List.range' i n) a w->wpAny P .any all Q fuel aw a w
 | 0,i,fuel,aw,a,w,rQ,_,_,cv,_,hb,_,hw=>by
   have hr:Region.ready .any all aw=[]:=by
    apply List.eq_nil_iff_forall_not_mem.2
    intro j hj
    obtain⟨h1,o,h2,_⟩:=mem_ready.1 hj
    have aZ:=(Array.getElem?_eq_some_iff.1 h2).1
    have h3:=hb j (by omega)
    have E9:j<aw.size:=by omega
    simp[E9] at h1 h3
    rw[h1] at h3;cases h3
   rw[List.range'_zero] at hw
   have hq:Q .normal a w:=hw
   cases fuel with
   | zero=>exact⟨hr,hq⟩
   | succ f=>exact⟨fun _=>hq,fun j hj=>by rw[hr] at hj;cases hj⟩
 | n+1,i,fuel,aw,a,w,rQ,E4,hf,cv,gC,hb,hu,hw=>by
   obtain⟨f,rfl⟩:∃ f,fuel=f+1:=⟨fuel-1,by omega⟩
   have BE:i<all.size:=by omega
   have ho:all[i]? = some all[i]:=Array.getElem?_eq_getElem BE
   have TH:=yG h ho (hu i (Nat.le_refl _) BE) hb
   refine⟨fun h0=>by rw[h0] at TH;(cases TH),fun j hj=>?_⟩
   have gn:j=i:=by
    obtain⟨h1,o,h2,_⟩:=mem_ready.1 hj
    have Rk:=(Array.getElem?_eq_some_iff.1 h2).1
    rcases Nat.lt_trichotomy j i with h3|h3|h3
    ·have h4:=hb j h3
     have E9:j<aw.size:=by omega
     simp[E9] at h1 h4
     rw[h1] at h4;cases h4
    ·exact h3
    ·rcases (mz h h2).1 with h4|h4
     ·omega
     ·have h5:=ld gC j (.inr hj) i (h4 i h3)
      have h6:=hu i (Nat.le_refl _) BE
      have E9:i<aw.size:=by omega
      simp[E9] at h5 h6
      rw[h6] at h5;cases h5
   subst gn
   rw[List.range'_succ,wpOps_cons] at hw
   refine wpOp_mono (fun a' w' h'=>u6 h n (j+1) f _ a' w' (by omega) (by omega) (by omega) (by simp[cv]) ?_ (fun m hm=>?_) (fun m hm Wp=>?_) h') hw
   ·intro m om hm hl e he rM
    by_cases yg:j=m
    ·subst yg
     obtain⟨_,o,h2,h3⟩:=mem_ready.1 hj
     rw[hm] at h2;injection h2 with h2;subst h2
     exact getD_set_true (h3 e he rM)
    ·rw[getD_set_ne false yg] at hl
     exact getD_set_true (gC m om hm hl e he rM)
   ·by_cases yg:j=m
    ·subst yg
     have E9:j<aw.size:=by omega
     simp[E9]
    ·exact getD_set_true (hb m (by omega))
   ·rw[getD_set_ne true (by omega)]
    exact hu m (by omega) Wp
theorem KG (hT : bP P T) (hΓ : dh P Γ) (fG : gL all k = true) (rN : qk all k = true) (hk : k ≤ all.size) (hE : E.length = k) (dr : zH E)
    (hf : ∀ i, i < k → Ea T Γ all k bK E i) (fin : fR all bK E k cK c9) (hQ : ∀ a w, Sat base M w0 c9 a w → HU E → wpOps P all Q (List.range' k (all.size - k)) a w) :
    ∀ (m fuel : Nat) (l : List Nat) (aw : Array Bool) (a : Act) (w : World), l.length = m → m + (all.size - k) ≤ fuel → aw.size = all.size → zF all aw →
    (∀ j, j < k → dn aw j = false → j ∈ l) → (∀ j, k ≤ j → j < all.size → aw.getD j true = false) → Inv base M w0 all k bK E cK c9 (dn aw) a w → wpAny P .any all Q fuel aw a w := by
  intro m
  induction m with
  | zero =>
    intro fuel l aw a w hl OC cv gC v9 nt hi
    have Rn : l = [] := List.length_eq_zero_iff.1 hl
    have ir : ∀ j, j < k → dn aw j = true := fun j hj => by
      cases h : dn aw j with
      | true => rfl
      | false => have := v9 j hj h; rw [Rn] at this; cases this
    obtain ⟨h1, h2⟩ := BK ir hE fin hi
    exact u6 rN _ k fuel aw a w (by omega) (Nat.le_refl _) (by omega) cv gC ir nt (hQ a w h1 h2)
  | succ m ih =>
    intro fuel l aw a w hl OC cv gC v9 nt hi
    by_cases ir : ∀ j, j < k → dn aw j = true
    · obtain ⟨h1, h2⟩ := BK ir hE fin hi
      exact u6 rN _ k fuel aw a w (by omega) (Nat.le_refl _) (by omega) cv gC ir nt (hQ a w h1 h2)
    · obtain ⟨f, rfl⟩ : ∃ f, fuel = f + 1 := ⟨fuel - 1, by omega⟩
      obtain ⟨i0, nk, RL⟩ : ∃ i0, i0 < k ∧ dn aw i0 = false := by
        refine Classical.byContradiction fun hn => ir fun j hj => ?_
        cases h : dn aw j with
        | true => rfl
        | false => exact absurd ⟨j, hj, h⟩ hn
      -- the first that is not listed
      obtain ⟨i1, TG, Lu, dW⟩ : ∃ i1, i1 < k ∧ dn aw i1 = false ∧ ∀ j, j < i1 → dn aw j = true := by
        clear hi v9 nt
        induction i0 using Nat.strongRecOn with
        | _ n RW =>
          by_cases h : ∀ j, j < n → dn aw j = true
          · exact ⟨n, nk, RL, h⟩
          · obtain ⟨j, hj, hu⟩ : ∃ j, j < n ∧ dn aw j = false := by
              refine Classical.byContradiction fun hn => h fun j hj => ?_
              cases h' : dn aw j with
              | true => rfl
              | false => exact absurd ⟨j, hj, h'⟩ hn
            exact RW j hj (by omega) hu
      have SD : ∀ {j}, j < all.size → dn aw j = false → aw.getD j true = false := fun {j} hj h => by
        unfold dn at h
        have : j < aw.size := by omega
        simp [this] at h ⊢; exact h
      have GF : ∀ {j}, aw.getD j true = false → dn aw j = false := fun {j} h => by
        unfold dn
        rcases Nat.lt_or_ge j aw.size with h' | h'
        · simp [h'] at h ⊢; exact h
        · simp [Array.getElem?_eq_none h']
      have Rt : all[i1]? = some (all[i1]'(by omega)) := Array.getElem?_eq_getElem _
      have CU := yG rN Rt (SD (by omega) Lu) dW
      refine ⟨fun h0 => by rw [h0] at CU; (cases CU), fun i hr => ?_⟩
      obtain ⟨nu, oi, gT, K9⟩ := mem_ready.1 hr
      have BE := (Array.getElem?_eq_some_iff.1 gT).1
      have hL : ∀ j, (dX all i).testBit j = true → dn aw j = true := ld gC i (.inr hr)
      have gD : i < k := by
        rcases (mz rN gT).1 with h | h
        · exact h
        · rcases Nat.lt_or_ge i k with h' | h'
          · exact h'
          · have := hL i1 (h i1 (by omega))
            rw [Lu] at this; cases this
      obtain ⟨e, o, st, he, ho, s, RF, s1, hq⟩ := hf i gD
      rw [gT] at ho; injection ho with ho; subst ho
      obtain ⟨V, _, _, h3⟩ := hi.ex
      have hw := Dk fG gD gT RF s hi.size hL h3
      have CS := GF nu
      have next : ∀ a' w', Inv base M w0 all k bK E cK c9 (ie (dn aw) i) a' w' → wpAny P .any all Q f (aw.setIfInBounds i true) a' w' := by
        intro a' w' c7
        have rP : i ∈ l := v9 i gD CS
        refine ih f (l.erase i) _ a' w' (by rw [List.length_erase_of_mem rP]; omega) (by omega) (by simp [cv]) ?_ (fun j hj hu => ?_) (fun j hj kZ => ?_) ?_
        · intro m om hm hl e he rM
          by_cases yg : i = m
          · subst yg
            rw [hm] at gT; injection gT with gT; subst gT
            exact getD_set_true (K9 e he rM)
          · rw [getD_set_ne false yg] at hl
            exact getD_set_true (gC m om hm hl e he rM)
        · rw [tu (by omega)] at hu
          unfold ie at hu
          split at hu
          · cases hu
          · rename_i bb
            exact (List.mem_erase_of_ne bb).2 (v9 j hj hu)
        · rw [getD_set_ne true (by omega)]
          exact nt j hj kZ
        · rw [tu (by omega)]; exact c7
      unfold wpOp
      simp only [gT]
      cases k_ : e.r with
      | none =>
        rw [k_] at hw
        rw [if_neg (by rw [hw]; simp)]
        exact next _ _ (Fv fG gD he gT k_ fin hi)
      | some q =>
        rw [k_] at hw
        rw [if_pos (by rw [hw]; rfl)]
        exact .inl (LJ hT hΓ fG gD he gT k_ (dr e (List.mem_of_getElem? he) q k_) s1 fin (hq q k_) (fun j => PQ rN i j) hL CS hi (fun u w' c7 => next _ _ c7))
theorem uy(T:bN)(Γ:FuncId->Option PC):∀(l:List Oper) (ws:List Nat),lV T Γ ws l<=l.length
 | [],_=>Nat.le_refl _
 | o::l,ws=>by
   unfold lV
   split
   ·have:=uy T Γ l (Pd Γ ws o);simp only[List.length_cons];omega
   ·simp
theorem rE{l9:Nat}:∀(l:List Oper) (i:Nat) (cE:List Nat) (st:St) (E:List iL),tO T Γ all k l9 i l cE st E cK c9->E.length=l.length
 | [],i,cE,st,E,h=>by rw[h.1];rfl
 | o::l,i,cE,st,E,h=>by
   obtain⟨e,E',rfl,_,_,h⟩:=h
   cases hr:e.r with
   | none=>rw[hr] at h;simp[rE l _ _ _ _ h]
   | some q=>rw[hr] at h;simp[rE l _ _ _ _ h.2]
theorem wY{st:St}{a:Act}{w:World}(h:Sat base M w0 st a w):Sat base M w0 st a { w with drawn:=w.drawn+1 }:=by
 obtain⟨h1,V,r⟩:=h
 have x:VX V st.au w V st.au { w with drawn:=w.drawn+1 }:=⟨fun _ _=>⟨rfl,Iff.rfl,rfl⟩,fun _ h=>h,fun _ h=>h,fun _ _=>rfl,fun _ _ _=>rfl⟩
 refine⟨h1,V,⟨r.len,fun i s v hs hv=>S.ka x (r.fI i s v hs hv),?_⟩⟩
 have m:=r.mem
 refine⟨fun n=>?_,m.box,m.own,m.eK,m.fw,m.z0,m.z1,⟨m.kept.os,m.kept.tape,m.kept.output,m.kept.size,m.kept.block,m.kept.shape⟩,m.lL,m.lr,m.fL⟩
 cases hl:(st.au n).live with
 | true=>exact ax.ka x (m.ck n) (fun cs=>m.box n cs) hl
 | false =>
   cases he:st.au n with
   | dead=>trivial
   | bx cs=>rw[he] at hl;cases hl
   | row fr e xs=>rw[he] at hl;cases hl
theorem wZ{o:Oper}(h:kF o=true):o.guard=none:=by
 unfold kF at h
 split at h<;>first|assumption|cases h
theorem A5{a:Act}{w:World}(hT:bP P T){V:Vl}{hp lk:Nat->ax}{nx:Nat}{ev:Operand->S}{o:Oper}{q:QR}(hs:kF o=true)(hq:gF T Γ lk nx ev o.op=some q)(dq:∀ x,S.ok V hp w (ev x) (a.eval x)) :
 ∃ u,∀ w',(execOp a.eval o).run P w' = .ok (.value u) w':=by
 unfold kF at hs
 split at hs
 ·rename_i t x f _ k8
  rw[k8] at hq
  simp only[gF] at hq
  have hv:=dq x
  cases hc:ev x with
  | c p =>
    rw[hc] at hq hv
    obtain⟨_,_,_,u,e4,_⟩:=BT hT hq hv
    exact⟨u,fun w'=>by unfold execOp;simp only[k8,Sem.run_bind,e4 w',Result.andThen_ok,Sem.run_pure]⟩
  | _=>rw[hc] at hq;cases hq
 ·rename_i x _ k8
  exact⟨a.eval x,fun w'=>by unfold execOp;simp only[k8,Sem.run_bind,Result.andThen_ok,Sem.run_pure]⟩
 ·rename_i x _ k8
  exact⟨a.eval x,fun w'=>by unfold execOp;simp only[k8,Sem.run_bind,Result.andThen_ok,Sem.run_pure]⟩
 ·rename_i x i _ k8
  rw[k8] at hq
  simp only[gF] at hq
  have hv:=dq x
  cases hc:ev x with
  | m_ vs =>
    rw[hc] at hq hv
    obtain⟨us,e1,e2,_⟩:=hv
    simp only at hq
    rw[dH,ee] at hq
    cases hx:vs[i]? with
    | none=>rw[hx] at hq;cases hq
    | some y =>
      have aZ:i<us.size:=by have:=(List.getElem?_eq_some_iff.1 hx).1;omega
      have hu:us[i]? = some us[i]:=Array.getElem?_eq_getElem _
      exact⟨us[i],fun w'=>by unfold execOp;simp only[k8,Instr.extract,e1,hu,Sem.run_bind,Sem.run_pure,Result.andThen_ok]⟩
  | _=>rw[hc] at hq;cases hq
 ·cases hs
theorem Mw{a:Act}{w:World}(hT:bP P T){V:Vl}{hp:Nat->ax}{st:St}{o:Oper}{K:St->Prop}(hs:kF o=true)(dq:∀ x,S.ok V hp w (st.eval x) (a.eval x))(h:uZ T Γ R st.eval st.au o st K) :
 ∃ u,∀ w',(execOp a.eval o).run P w' = .ok (.value u) w':=by
 unfold uZ at h
 split at h
 ·rename_i q hq
  exact A5 hT hs hq dq
 ·exfalso
  unfold kF at hs
  split at hs
  ·rename_i k8;rw[k8] at h;exact h
  ·rename_i k8;rw[k8] at h;exact h
  ·rename_i k8;rw[k8] at h;exact h
  ·rename_i k8;rw[k8] at h;exact h
  ·cases hs
theorem yI{a:Act}{w:World}{o:Oper}{u:Value}{next:Act->World->Prop}(hu:(execOp a.eval o).run P w = .ok (.value u) w)(h:o.wp P a w next (fun _ _ _=>False)):next (a.put o.dst u) w:=by
 unfold Oper.wp at h
 rw[hu] at h
 exact h
theorem wU{all:List Oper}{aw:List Bool}:∀ {n i j:Nat},j∈qg all aw i n↔i<=j/\j<i+n/\NV all aw j=true
 | 0,i,j=>by simp[qg];omega
 | n+1,i,j=>by
   unfold qg
   split
   ·rename_i h
    rw[List.mem_cons,wU]
    constructor
    ·rintro (rfl|⟨h1,h2,h3⟩)
     ·exact⟨Nat.le_refl _,by omega,h⟩
     ·exact⟨by omega,by omega,h3⟩
    ·rintro⟨h1,h2,h3⟩
     by_cases e:j=i
     ·exact .inl e
     ·exact .inr ⟨by omega,by omega,h3⟩
   ·rename_i h
    rw[wU]
    constructor
    ·rintro⟨h1,h2,h3⟩;exact⟨by omega,by omega,h3⟩
    ·rintro⟨h1,h2,h3⟩
     by_cases e:j=i
     ·subst e;exact absurd h3 h
     ·exact⟨by omega,by omega,h3⟩
theorem JU{d:Bool}{l:List Bool}{i:Nat}:nth d l i=l.toArray.getD i d:=by
 rw[cB];simp
theorem rZ{all:Array Oper}{aw:List Bool}{j:Nat}:j∈qg all.toList aw 0 (aL all.toList)↔j∈Region.ready .any all aw.toArray:=by
 rw[wU,mem_ready,cy]
 unfold NV
 rw[dH,JU]
 simp only[Nat.zero_le,true_and,Nat.zero_add,Array.length_toList,Bool.and_eq_true,Bool.not_eq_true',Array.getElem?_toList]
 constructor
 ·rintro⟨h1,h2,h3⟩
  refine⟨h2,all[j],Array.getElem?_eq_getElem h1,fun e he hb=>?_⟩
  rw[Array.getElem?_eq_getElem h1] at h3
  simp only[dG,List.all_eq_true,Bool.or_eq_true,Bool.not_eq_true'] at h3
  rcases h3 e (by simpa using he) with h|h
  ·rw[hb] at h;cases h
  ·rw[JU] at h;exact h
 ·rintro⟨h2,o,h1,h3⟩
  refine⟨(Array.getElem?_eq_some_iff.1 h1).1,h2,?_⟩
  rw[h1]
  simp only[dG,List.all_eq_true,Bool.or_eq_true,Bool.not_eq_true']
  intro e he
  cases hb:Region.binds .any e with
  | false=>exact .inl rfl
  | true=>right;rw[JU];exact h3 e (by simpa using he) hb
theorem Cz:∀ {l:List Nat} {f:Nat->Prop},I6 l f->∀ i∈l,f i
 | [],_,_,i,h=>by cases h
 | [j],f,h,i,hi=>by rw[List.mem_singleton.1 hi];exact h
 | j::k::r,f,h,i,hi=>by
   rcases List.mem_cons.1 hi with rfl|hi
   ·exact h.1
   ·exact Cz h.2 i hi
theorem s_{all:Array Oper}{aw:List Bool}:∀ {l:List Nat} {i:Nat},rJ all aw l=some i->i∈l/\Kj all aw i=true
 | [],i,h=>by cases h
 | j::r,i,h=>by
   unfold rJ at h
   split at h
   ·rename_i ht
    injection h with h;subst h
    exact⟨List.mem_cons_self ..,ht⟩
   ·obtain⟨h1,h2⟩:=s_ h
    exact⟨List.mem_cons_of_mem _ h1,h2⟩
theorem yc{all:Array Oper}{oi:Oper}{i:Nat}{aw:List Bool}:∀ {l:List Oper} {m:Nat},An all oi i aw m l=true->∀(j:Nat) (oj:Oper),l[j]? = some oj->m+j≠i->nth true aw (m+j)=false →
 (∀ e∈oj.after,Region.binds .any e=true->e.on≠i)->oi.apart all oj=true
 | [],m,_,j,oj,h,_,_,_=>by cases h
 | o::r,m,h,j,oj,hj,bb,nu,jg=>by
   unfold An at h
   rw[Bool.and_eq_true] at h
   cases j with
   | zero =>
     simp only[List.getElem?_cons_zero,Option.some.injEq] at hj
     subst hj
     rw[Nat.add_zero] at bb nu
     have h1:=h.1
     rw[Bool.or_eq_true,Bool.or_eq_true,Bool.or_eq_true,nu,tt,List.any_eq_true] at h1
     rcases h1 with ((h1|h1)|⟨e,he,hb⟩)|h1
     ·exact absurd (by simpa using h1) bb
     ·cases h1
     ·rw[Bool.and_eq_true] at hb
      exact absurd (by simpa using hb.2) (jg e (by simpa using he) hb.1)
     ·exact h1
   | succ j =>
     have e:m+(j+1)=(m+1)+j:=by omega
     exact yc h.2 j oj (by simpa using hj) (by rw[<-e];exact bb) (by rw[<-e];exact nu) jg
theorem yn{all:Array Oper}(h:AL all.toList=true)(j:Nat)(o:Oper)(cs:Array SelectCase)(b:Bool)(ho:all[j]? = some o):o.op ≠ .select cs b:=by
 intro heq
 unfold AL at h
 rw[dG,List.all_eq_true] at h
 have:=h o (by simpa using Array.mem_of_getElem? ho)
 rw[heq] at this
 cases this
theorem G2(hT:bP P T)(hΓ:dh P Γ)(hR:cj P R){K:St->Prop}(hK:∀ aN a' w',K aN->Sat base M w0 aN a' w'->Q .normal a' w')(Q4:∀ c a b w,Q (.panic c) a w->Q (.panic c) b w) :
 ∀(n:Nat) (aw:List Bool) (st:St) (a:Act) (w:World),Sat base M w0 st a w->sf T Γ R all n aw st K->wpAny P .any all Q n aw.toArray a w:=by
 have done:∀ {aw:List Bool},qg all.toList aw 0 (aL all.toList)=[]->Region.ready .any all aw.toArray=[]:=by
  intro aw h
  apply List.eq_nil_iff_forall_not_mem.2
  intro j hj
  have:=rZ.2 hj
  rw[h] at this;cases this
 have RH:∀(aw:List Bool) (i:Nat),(bD aw i true).toArray=aw.toArray.setIfInBounds i true:=by
  intro aw i;rw[eS];simp
 intro n
 induction n with
 | zero =>
   intro aw st a w hs h
   unfold sf at h
   split at h
   ·rename_i hr
    exact⟨done hr,hK st a w h hs⟩
   ·exact h.elim
 | succ n ih =>
   intro aw st a w hs h
   unfold sf at h
   split at h
   ·rename_i hr
    exact wpAny_done (done hr) (hK st a w h hs) _
   ·rename_i j r hr
    split at h
    ·rename_i i hi
     obtain⟨h1,h2⟩:=s_ hi
     rw[<-hr] at h1
     have gp:=rZ.1 h1
     unfold Kj at h2
     split at h2
     ·rename_i oi ho
      rw[dH] at ho
      have b5:all[i]? = some oi:=by simpa using ho
      simp only[Bool.and_eq_true] at h2
      obtain⟨⟨s1,s2⟩,s3⟩:=h2
      unfold xd at h
      rw[dH,ho] at h
      simp only at h
      have hg:oi.guard=none:=wZ s1
      have lJ:jk all oi st = .go:=by unfold jk;rw[hg]
      rw[lJ] at h
      simp only at h
      obtain⟨hd,V,rr⟩:=hs
      obtain⟨u,hu⟩:=Mw hT s1 rr.eval h
      have D0:=Ci (Q:=fun _ _ _=>False) (next:=fun a' w'=>∃ aN,sf T Γ R all n (bD aw i true) aN K/\Sat base M w0 aN a' w') hT hΓ hR ⟨hd,V,rr⟩ h (fun aN v w' h1 h2=>⟨aN,h1,h2⟩)
      have lY:=yI (hu w) D0
      obtain⟨aN,k1,k2⟩:=lY
      refine wpAny_first b5 (fun j o cs b hj=>yn s2 j o cs b hj) (fun c a w h=>Q4 c _ _ w h) n aw.toArray a w (fun j oj hj bb nu jg=>?_) gp (v:=u) (.inl ⟨?_,hu⟩) ?_
      ·refine yc s3 j oj (by simpa using hj) (by omega) ?_ jg
       rw[Nat.zero_add,JU];exact nu
      ·unfold Region.wanted;rw[hg]
      ·rw[<-RH]
       exact ih _ _ _ w k2 k1
     ·cases h2
    ·rw[<-hr] at h
     refine⟨fun h0=>?_,fun i hi=>?_⟩
     ·have:j∈Region.ready .any all aw.toArray:=rZ.1 (by rw[hr];exact List.mem_cons_self ..)
      rw[h0] at this;cases this
     ·refine ML hT hΓ hR hs (Cz h i (rZ.2 hi)) (fun aN a' w' k aW=>?_)
      rw[<-RH]
      exact ih _ _ _ w' aW k
theorem pt(h:nQ all k=true){i:Nat}{o:Oper}(ho:all[i]? = some o):(i<k\/∀ j,j<k->(dX all i).testBit j=true\/D2 all j=true)/\∀ e∈o.after,Region.binds .any e=true->e.on<i:=by
 unfold nQ at h
 rw[List.all_eq_true] at h
 have hi:=(Array.getElem?_eq_some_iff.1 ho).1
 have h1:=h i (List.mem_range.2 hi)
 rw[Bool.and_eq_true,ho] at h1
 obtain⟨h2,h3⟩:=h1
 refine⟨?_,fun e he hb=>?_⟩
 ·rw[Bool.or_eq_true] at h2
  rcases h2 with h2|h2
  ·exact .inl (by simpa using h2)
  ·right
   intro j hj
   rw[List.all_eq_true] at h2
   have:=h2 j (List.mem_range.2 hj)
   rw[Bool.or_eq_true] at this
   exact this
 ·simp only[List.all_eq_true,Bool.or_eq_true,Bool.not_eq_true',decide_eq_true_eq] at h3
  rcases h3 e (by simpa using he) with h4|h4
  ·rw[hb] at h4;cases h4
  ·exact h4
theorem FC(h:nQ all k=true):∀ i j,(dX all i).testBit j=true->j<i:=by
 intro i
 induction i using Nat.strongRecOn with
 | _ i ih =>
   intro j hj
   obtain⟨o,h1,e,h2,h3,h4⟩:=wu all i j hj
   have h5:=(pt h h1).2 e h2 h3
   rcases h4 with rfl|⟨_,h6⟩
   ·exact h5
   ·have:=ih e.on h5 j h6
    omega
theorem Gd(h:nQ all k=true){aw:Array Bool}{i:Nat}{o:Oper}(ho:all[i]? = some o)(hu:aw.getD i true=false)(hb:∀ j,j<i->aw.getD j false=true):i∈Region.ready .any all aw :=
 mem_ready.2 ⟨hu,o,ho,fun e he rM=>hb _ ((pt h ho).2 e he rM)⟩
theorem vl{all:Array Oper}{oi:Oper}{i:Nat}:∀ {l:List Oper} {m:Nat},uo all oi i m l=true->∀(j:Nat) (oj:Oper),l[j]? = some oj->m+j≠i->(dX all i).testBit (m+j)=false →
 (∀ e∈oj.after,Region.binds .any e=true->e.on≠i)->oi.apart all oj=true
 | [],m,_,j,oj,h,_,_,_=>by cases h
 | o::r,m,h,j,oj,hj,bb,nu,jg=>by
   unfold uo at h
   rw[Bool.and_eq_true] at h
   cases j with
   | zero =>
     simp only[List.getElem?_cons_zero,Option.some.injEq] at hj
     subst hj
     rw[Nat.add_zero] at bb nu
     have h1:=h.1
     rw[Bool.or_eq_true,Bool.or_eq_true,Bool.or_eq_true,nu,tt,List.any_eq_true] at h1
     rcases h1 with ((h1|h1)|⟨e,he,hb⟩)|h1
     ·exact absurd (by simpa using h1) bb
     ·cases h1
     ·rw[Bool.and_eq_true] at hb
      exact absurd (by simpa using hb.2) (jg e (by simpa using he) hb.1)
     ·exact h1
   | succ j =>
     have e:m+(j+1)=(m+1)+j:=by omega
     exact vl h.2 j oj (by simpa using hj) (by rw[<-e];exact bb) (by rw[<-e];exact nu) jg
theorem LU{aw:Array Bool}(hk:k<=all.size)(cv:aw.size=all.size)(ir:∀ j,j<k->dn aw j=true)(nt:∀ j,k<=j->j<all.size->aw.getD j true=false) :
 aw=(List.replicate k true++List.replicate (all.size-k) false).toArray:=by
 apply Array.ext
 ·simp;omega
 ·intro i h1 h2
  rcases Nat.lt_or_ge i k with h|h
  ·have:=ir i h
   unfold dn at this
   simp only[Array.getD_eq_getD_getElem?,Array.getElem?_eq_getElem h1,Option.getD_some] at this
   rw[this]
   simp[List.getElem_append,h]
  ·have:=nt i h (by omega)
   simp only[Array.getD_eq_getD_getElem?,Array.getElem?_eq_getElem h1,Option.getD_some] at this
   rw[this]
   simp[List.getElem_append,show ¬i<k by omega]
theorem HT (hT : bP P T) (hΓ : dh P Γ) (fG : gL all k = true) (rN : nQ all k = true) (Q4 : ∀ c a b w, Q (.panic c) a w → Q (.panic c) b w) (hk : k ≤ all.size) (hE : E.length = k) (dr : zH E)
    (hf : ∀ i, i < k → Ea T Γ all k bK E i) (fin : fR all bK E k cK c9) (hQ : ∀ a w, Sat base M w0 c9 a w → HU E → wpAny P .any all Q (all.size - k) (List.replicate k true ++ List.replicate (all.size - k) false).toArray a w) :
    ∀ (m fuel : Nat) (l : List Nat) (aw : Array Bool) (a : Act) (w : World), l.length = m → m + (all.size - k) = fuel → l.Nodup → (∀ j ∈ l, j < k ∧ dn aw j = false) → aw.size = all.size → zF all aw →
    (∀ j, j < k → dn aw j = false → j ∈ l) → (∀ j, k ≤ j → j < all.size → aw.getD j true = false) → Inv base M w0 all k bK E cK c9 (dn aw) a w → wpAny P .any all Q fuel aw a w := by
  intro m
  induction m with
  | zero =>
    intro fuel l aw a w hl OC Nl nq cv gC v9 nt hi
    have Rn : l = [] := List.length_eq_zero_iff.1 hl
    have ir : ∀ j, j < k → dn aw j = true := fun j hj => by
      cases h : dn aw j with
      | true => rfl
      | false => have := v9 j hj h; rw [Rn] at this; cases this
    obtain ⟨h1, h2⟩ := BK ir hE fin hi
    rw [LU hk cv ir nt, ← OC, Nat.zero_add]
    exact hQ a w h1 h2
  | succ m ih =>
    intro fuel l aw a w hl OC Nl nq cv gC v9 nt hi
    by_cases ir : ∀ j, j < k → dn aw j = true
    · exfalso
      cases l with
      | nil => simp at hl
      | cons x xs =>
        obtain ⟨q1, q2⟩ := nq x (List.mem_cons_self ..)
        rw [ir x q1] at q2; cases q2
    · obtain ⟨f, rfl⟩ : ∃ f, fuel = f + 1 := ⟨fuel - 1, by omega⟩
      obtain ⟨i0, nk, RL⟩ : ∃ i0, i0 < k ∧ dn aw i0 = false := by
        refine Classical.byContradiction fun hn => ir fun j hj => ?_
        cases h : dn aw j with
        | true => rfl
        | false => exact absurd ⟨j, hj, h⟩ hn
      -- the first that is not listed
      obtain ⟨i1, TG, Lu, dW⟩ : ∃ i1, i1 < k ∧ dn aw i1 = false ∧ ∀ j, j < i1 → dn aw j = true := by
        clear hi v9 nt
        induction i0 using Nat.strongRecOn with
        | _ n RW =>
          by_cases h : ∀ j, j < n → dn aw j = true
          · exact ⟨n, nk, RL, h⟩
          · obtain ⟨j, hj, hu⟩ : ∃ j, j < n ∧ dn aw j = false := by
              refine Classical.byContradiction fun hn => h fun j hj => ?_
              cases h' : dn aw j with
              | true => rfl
              | false => exact absurd ⟨j, hj, h'⟩ hn
            exact RW j hj (by omega) hu
      have SD : ∀ {j}, j < all.size → dn aw j = false → aw.getD j true = false := fun {j} hj h => by
        unfold dn at h
        have : j < aw.size := by omega
        simp [this] at h ⊢; exact h
      have GF : ∀ {j}, aw.getD j true = false → dn aw j = false := fun {j} h => by
        unfold dn
        rcases Nat.lt_or_ge j aw.size with h' | h'
        · simp [h'] at h ⊢; exact h
        · simp [Array.getElem?_eq_none h']
      have Ma : ∀ i, i < k → i ∈ Region.ready .any all aw → ∀ a' w', Inv base M w0 all k bK E cK c9 (ie (dn aw) i) a' w' → wpAny P .any all Q f (aw.setIfInBounds i true) a' w' := by
        intro i gD hr a' w' c7
        obtain ⟨nu, oi, gT, K9⟩ := mem_ready.1 hr
        have BE := (Array.getElem?_eq_some_iff.1 gT).1
        have CS := GF nu
        have rP : i ∈ l := v9 i gD CS
        refine ih f (l.erase i) _ a' w' (by rw [List.length_erase_of_mem rP]; omega) (by omega) (Nl.erase _) (fun j hj => ?_) (by simp [cv]) ?_ (fun j hj hu => ?_) (fun j hj kZ => ?_) ?_
        · have hm := nq j (List.mem_of_mem_erase hj)
          refine ⟨hm.1, ?_⟩
          rw [tu (by omega)]
          unfold ie
          rw [if_neg (fun e => by subst e; exact absurd hj (fun h => (List.Nodup.mem_erase_iff Nl).1 h |>.1 rfl))]
          exact hm.2
        · intro m om hm hl e he rM
          by_cases yg : i = m
          · subst yg
            rw [hm] at gT; injection gT with gT; subst gT
            exact getD_set_true (K9 e he rM)
          · rw [getD_set_ne false yg] at hl
            exact getD_set_true (gC m om hm hl e he rM)
        · rw [tu (by omega)] at hu
          unfold ie at hu
          split at hu
          · cases hu
          · rename_i bb
            exact (List.mem_erase_of_ne bb).2 (v9 j hj hu)
        · rw [getD_set_ne true (by omega)]
          exact nt j hj kZ
        · rw [tu (by omega)]; exact c7
      have stepOf : ∀ i o, i < k → all[i]? = some o → i ∈ Region.ready .any all aw → ∀ (Q' : Exit → Act → World → Prop) (next : Act → World → Prop), (∀ a' w', Inv base M w0 all k bK E cK c9 (ie (dn aw) i) a' w' → next a' w') →
          (Region.wanted o (yielded all a.tmps) = false ∧ next (a.put o.dst undef) w) ∨ (Region.wanted o (yielded all a.tmps) = true ∧ o.wp P a w next Q' ∧
            ∀ (hs : kF o = true), ∃ u, ∀ w', (execOp a.eval o).run P w' = .ok (.value u) w') := by
        intro i o gD gT hr Q' next OM
        obtain ⟨nu, oi, XI, K9⟩ := mem_ready.1 hr
        have hL : ∀ j, (dX all i).testBit j = true → dn aw j = true := ld gC i (.inr hr)
        obtain ⟨e, o', st, he, ho, s, RF, s1, hq⟩ := hf i gD
        rw [gT] at ho; injection ho with ho; subst ho
        obtain ⟨V, v1, v2, h3⟩ := hi.ex
        have hw := Dk fG gD gT RF s hi.size hL h3
        have CS := GF nu
        cases k_ : e.r with
        | none =>
          rw [k_] at hw
          exact .inl ⟨by rw [hw]; rfl, OM _ _ (Fv fG gD he gT k_ fin hi)⟩
        | some q =>
          rw [k_] at hw
          refine .inr ⟨by rw [hw]; rfl, LJ hT hΓ fG gD he gT k_ (dr e (List.mem_of_getElem? he) q k_) s1 fin (hq q k_) (fun j => FC rN i j) hL CS hi (fun u w' c7 => OM _ _ c7), fun hs => ?_⟩
          exact A5 hT hs (hq q k_) (K0 (Nat.le_of_lt gD) s1 (fun j => FC rN i j) hi.size hL v2 h3)
      by_cases OG : ∃ i, i < k ∧ i ∈ Region.ready .any all aw ∧ D2 all i = true
      · obtain ⟨i, gD, hr, E7⟩ := OG
        unfold D2 at E7
        split at E7
        · rename_i oi ho
          rw [dH] at ho
          have gT : all[i]? = some oi := by simpa using ho
          simp only [Bool.and_eq_true] at E7
          obtain ⟨⟨s1, s2⟩, s3⟩ := E7
          have hg := wZ s1
          rcases stepOf i oi gD gT hr (fun _ _ _ => False) (fun a' w' => Inv base M w0 all k bK E cK c9 (ie (dn aw) i) a' w') (fun _ _ h => h) with ⟨hw, _⟩ | ⟨hw, WR, UQ⟩
          · unfold Region.wanted at hw; rw [hg] at hw; cases hw
          · obtain ⟨u, hu⟩ := UQ s1
            have hinv := yI (hu w) WR
            refine wpAny_first gT (fun j o cs b hj => yn s2 j o cs b hj) (fun c a w h => Q4 c _ _ w h) f aw a w (fun j oj hj bb nu jg => ?_) hr (v := u) (.inl ⟨hw, hu⟩) (Ma i gD hr _ _ hinv)
            refine vl s3 j oj (by simpa using hj) (by omega) ?_ jg
            rw [Nat.zero_add]
            cases hm : (dX all i).testBit j with
            | false => rfl
            | true =>
              have := ld gC i (.inr hr) j hm
              have h2 := GF nu
              unfold dn at h2
              rw [h2] at this; cases this
        · cases E7
      have Rt : all[i1]? = some (all[i1]'(by omega)) := Array.getElem?_eq_getElem _
      have CU := Gd rN Rt (SD (by omega) Lu) dW
      refine ⟨fun h0 => by rw [h0] at CU; (cases CU), fun i hr => ?_⟩
      obtain ⟨nu, oi, gT, K9⟩ := mem_ready.1 hr
      have gD : i < k := by
        rcases (pt rN gT).1 with h | h
        · exact h
        · rcases Nat.lt_or_ge i k with h' | h'
          · exact h'
          · exfalso
            rcases h i1 (by omega) with h2 | h2
            · have := ld gC i (.inr hr) i1 h2
              have RM := Lu
              unfold dn at RM
              rw [RM] at this; cases this
            · exact OG ⟨i1, TG, CU, h2⟩
      unfold wpOp
      simp only [gT]
      rcases stepOf i oi gD gT hr Q (wpAny P .any all Q f (aw.setIfInBounds i true)) (fun a' w' h => Ma i gD hr a' w' h) with ⟨hw, h⟩ | ⟨hw, h, _⟩
      · rw [if_neg (by rw [hw]; simp)]; exact h
      · rw [if_pos hw]; exact .inl h
theorem yM(hm:P.follows .mixedOrders=true)(hT:bP P T)(hΓ:dh P Γ)(hR:cj P R){id:Nat}{ops:Array Oper}{draw:Bool}{st:St}{K:St->Prop}{a:Act}{w:World}(hs:Sat base M w0 st a w)
 (h:u0 T Γ R ops draw st K) (hK:∀ aN a' w',K aN->Sat base M w0 aN a' w'->Q .normal a' w'):(Code.region id ops draw).wp P Q a w:=by
 unfold u0 at h
 split at h
 ·rename_i hd
  subst hd
  simp only at h
  split at h
  ·rename_i hc
   rw[Bool.and_eq_true] at hc
   obtain⟨fG,rN⟩:=hc
   have hk:lV T Γ [] ops.toList<=ops.size:=by have:=uy T Γ ops.toList [];simpa using this
   generalize lV T Γ [] ops.toList=k at *
   obtain⟨E,cK,c9,EW,dr,Q2⟩:=ng _ _ _ _ _ h
   rw[j8] at EW
   have Q1:E.length=k:=by rw[rE _ _ _ _ _ EW,List.length_take];simp;omega
   obtain⟨h1,h2⟩:=oF (E:=E) (bK:=st) fG (ops.toList.take k) 0 [] st E (by simp) (by simp) (by simp;omega) EW (A6 ops st E)
   refine wp_region_any hm ?_
   have aW:=wY hs
   obtain⟨td,V,r⟩:=aW
   refine KG (E:=E) (c9:=c9) (cK:=cK) (bK:=st) (base:=base) (M:=M) (w0:=w0) hT hΓ fG rN hk Q1 dr (fun i hi=>h1 i (Nat.zero_le _) hi) h2 (fun a' w' q1 q2=>?_) k ops.size (List.range k) _ a _ (by simp) (by omega) (by simp) ?_ (fun j hj _=>List.mem_range.2 hj) (fun j _ hj=>?_) ?_
   ·have hv:=Q2 q2
    rw[j7] at hv
    have:=u3 (Q:=Q) hT hΓ hR hK (ops.toList.drop k) k rfl c9 a' w' q1 hv
    simpa using this
   ·intro j oj hj hl
    simp only[Array.getD_eq_getD_getElem?,Array.getElem?_replicate] at hl
    split at hl<;>cases hl
   ·simp[hj]
   ·have Q3:dn (Array.replicate ops.size false)=fun _=>false:=by
     funext j
     unfold dn
     simp only[Array.getD_eq_getD_getElem?,Array.getElem?_replicate]
     split<;>rfl
    rw[Q3]
    have mU:jR st cK c9 (fun _=>false)=st.au:=by
     funext n
     unfold jR
     split
     ·rfl
     ·rename_i hn
      have:st.au n = .dead:=by
       show nth .dead st.hp n=_
       rw[cB,List.getElem?_eq_none (by rw[<-cy];omega)]
       rfl
      rw[this]
      split<;>rfl
    refine⟨td,r.len,⟨V,by rw[mU];exact r.mem,fun t s v _ hs hv=>by rw[mU];exact r.fI t s v hs hv,fun j o d v _ hL=>by cases hL⟩,fun j e q _ hL=>by cases hL⟩
  split at h
  ·rename_i hc
   rw[Bool.and_eq_true] at hc
   obtain⟨fG,rN⟩:=hc
   have hk:lV T Γ [] ops.toList<=ops.size:=by have:=uy T Γ ops.toList [];simpa using this
   generalize lV T Γ [] ops.toList=k at *
   obtain⟨E,cK,c9,EW,dr,Q2⟩:=ng _ _ _ _ _ h
   rw[j8] at EW
   have Q1:E.length=k:=by rw[rE _ _ _ _ _ EW,List.length_take];simp;omega
   obtain⟨h1,h2⟩:=oF (E:=E) (bK:=st) fG (ops.toList.take k) 0 [] st E (by simp) (by simp) (by simp;omega) EW (A6 ops st E)
   refine wp_mono (Q:=fun e a w=>match e with | .panic _=>False|e=>Q e a w) ?_ (fun e a w h=>by cases e<;>first|exact h|exact h.elim)
   refine wp_region_any hm ?_
   have aW:=wY hs
   obtain⟨td,V,r⟩:=aW
   refine HT (E:=E) (c9:=c9) (cK:=cK) (bK:=st) (base:=base) (M:=M) (w0:=w0) hT hΓ fG rN (fun c a b w h=>h.elim) hk Q1 dr (fun i hi=>h1 i (Nat.zero_le _) hi) h2 (fun a' w' q1 q2=>?_) k ops.size (List.range k) _ a _ (by simp) (by omega) List.nodup_range (fun j hj=>⟨List.mem_range.1 hj,?_⟩) (by simp) ?_ (fun j hj _=>List.mem_range.2 hj) (fun j _ hj=>?_) ?_
   ·have hv:=Q2 q2
    rw[j7,cy,iy,iy,bT] at hv
    have Wn:(ops.toList.drop k).length=ops.size-k:=by simp
    rw[Wn] at hv
    exact G2 (Q:=fun e a w=>match e with | .panic _=>False|e=>Q e a w) hT hΓ hR (fun aN a' w' k aW=>hK aN a' w' k aW) (fun c a b w h=>h.elim) _ _ c9 a' w' q1 hv
   ·unfold dn
    simp only[Array.getD_eq_getD_getElem?,Array.getElem?_replicate]
    split<;>rfl
   ·intro j oj hj hl
    simp only[Array.getD_eq_getD_getElem?,Array.getElem?_replicate] at hl
    split at hl<;>cases hl
   ·simp[hj]
   ·have Q3:dn (Array.replicate ops.size false)=fun _=>false:=by
     funext j
     unfold dn
     simp only[Array.getD_eq_getD_getElem?,Array.getElem?_replicate]
     split<;>rfl
    rw[Q3]
    have mU:jR st cK c9 (fun _=>false)=st.au:=by
     funext n
     unfold jR
     split
     ·rfl
     ·rename_i hn
      have:st.au n = .dead:=by
       show nth .dead st.hp n=_
       rw[cB,List.getElem?_eq_none (by rw[<-cy];omega)]
       rfl
      rw[this]
      split<;>rfl
    refine⟨td,r.len,⟨V,by rw[mU];exact r.mem,fun t s v _ hs hv=>by rw[mU];exact r.fI t s v hs hv,fun j o d v _ hL=>by cases hL⟩,fun j e q _ hL=>by cases hL⟩
  ·refine wp_mono (Q:=fun e a w=>match e with | .panic _=>False|e=>Q e a w) ?_ (fun e a w h=>by cases e<;>first|exact h|exact h.elim)
   refine wp_region_any hm ?_
   rw[cy,iy] at h
   have hl:(List.replicate ops.toList.length false).toArray=Array.replicate ops.size false:=by simp
   have:=G2 (Q:=fun e a w=>match e with | .panic _=>False|e=>Q e a w) hT hΓ hR (fun aN a' w' k aW=>hK aN a' w' k aW) (fun c a b w h=>h.elim) ops.toList.length _ st a _ (wY hs) h
   rw[hl] at this
   simpa using this
 ·rename_i hd
  have cS:draw=false:=by simpa using hd
  subst cS
  refine wp_region ?_
  have:=u3 (Q:=Q) hT hΓ hR hK ops.toList 0 rfl st a w hs h
  rw[List.range_eq_range']
  simpa using this
end
end Go.SX
/- States that a loop meets again. No condition. -/
namespace Go.SX
open Go.RowKit
set_option linter.unusedVariables false
set_option linter.unusedSimpArgs false
theorem dB{p q:Option Prop}:cT (eM p q)↔cT p/\cT q:=by
 cases p<;>cases q<;>simp[eM,cT]
theorem mg{b:Bool}:cT (yp b)↔b=true:=by
 cases b<;>simp[yp,cT]
def cW(bf:List Src)(m:Nat):Src:=match bf[m]? with|some s=>s|none=>.no
def Vl.bf(V:Vl)(bf:List Src):Vl where
 aE m:=match cW bf m with | .nm n=>V.aE n|_=>0
 has m:=match cW bf m with | .nm n=>V.has n|_=>False
 Z0:=V.Z0
 Z1:=V.Z1
theorem kD{V:Vl}{bf:List Src}{m n:Nat}(h:cW bf m = .nm n):(V.bf bf).aE m=V.aE n:=by unfold Vl.bf;simp only[h]
theorem kE{V:Vl}{bf:List Src}{m n:Nat}(h:cW bf m = .nm n):(V.bf bf).has m↔V.has n:=by unfold Vl.bf;simp only[h]
theorem BZ{V:Vl}{bf:List Src}{m:Nat}(h:cW bf m = .nil):¬(V.bf bf).has m:=by unfold Vl.bf;simp only[h];exact id
def Conv{e' e:Ty}(ys:List e'.den)(xs:List e.den):Prop :=
 e'.size=e.size/\ys.length=xs.length/\(∀(Z:Nat->Prop) (w:World) (es:List Value) (i:Nat) (h1:i<ys.length) (h2:i<xs.length),aF Z w e' es ys[i]->aF Z w e es xs[i]) ∧
  ∀ i∈(ax.row false e xs).fL,i∈(ax.row false e' ys).fL
theorem Conv.refl{e:Ty}(xs:List e.den):Conv xs xs:=⟨rfl,rfl,fun _ _ _ _ _ _ h=>h,fun _ h=>h⟩
theorem rT:∀(t:Ty) (d:t.cc.den),ids t (fJ t d)=[]
 | .gs _ _,_=>rfl
 | .sl _,_=>rfl
 | .st t,d=>rT t d
 | .pr a b,d=>by show ids a (fJ a d.1)++ids b (fJ b d.2)=[];rw[rT a,rT b];rfl
 | .int _,_=>rfl
 | .bool,_=>rfl
 | .str,_=>rfl
 | .ptr _,_=>rfl
 | .bZ _ _,_=>rfl
theorem Conv.fJ{e:Ty}{ys:List e.cc.den}(hn:∀ y∈ys,wv e y):Conv ys (ys.map (SX.fJ e)):=by
 refine⟨bJ e,by simp,fun Z w es i h1 h2 h=>?_,fun i hi=>?_⟩
 ·rw[List.getElem_map]
  exact aF.fJ e h (hn _ (List.getElem_mem h1))
 ·exfalso
  have c7:i∈(if e.bU then bV e (ys.map (SX.fJ e)) else []):=hi
  split at c7
  ·unfold bV at c7
   obtain⟨x,hx,OD⟩:=List.mem_flatMap.1 c7
   obtain⟨y,_,rfl⟩:=List.mem_map.1 hx
   rw[rT] at OD
   cases OD
  ·cases c7
theorem At{V:Vl}{w:World}{bf:List Src}{m n h:Nat}{e' e:Ty}{v:Value}(hs:cW bf m = .nm n)(cv:e'.size=e.size)(k:cR V w n e' h v):cR (V.bf bf) w m e h v:=by
 rcases k with ⟨a1,a2⟩|⟨a1,cap,aq,el,b1,b2,b3,b4⟩
 ·exact .inl ⟨fun h=>a1 ((kE hs).1 h),a2⟩
 ·exact .inr ⟨(kE hs).2 a1,cap,aq,el,by rw[kD hs];exact b1,by rw[kD hs];exact b2,by rw[<-cv];exact b3,b4⟩
def sO(es:Nat->ax)(r:Src)(t:ax)(bf:List Src):Prop :=
 match t with
 | .dead=>True
 | .bx cs=>∃ n cp,r = .nm n/\es n = .bx cp/\cT (LW bf cp cs)
 | .row fr e xs=>(∃ n aV,∃(e':Ty) (ys:List e'.den),r = .nm n/\es n = .row aV e' ys/\(fr=true->aV=true)/\(fr=false->(e'.flat||e'.bU)=(e.flat||e.bU))/\Conv ys xs)\/(r = .nil/\xs=[])
theorem S5{bf:List Src}{es:Nat->ax}{r:Src}{t:ax}(h:cT (mE bf es r t)):sO es r t bf/\(t = .dead->r = .no):=by
 unfold mE at h
 cases t with
 | dead =>
   refine⟨trivial,fun _=>?_⟩
   cases r<;>first|rfl|exact h.elim
 | bx cs =>
   refine⟨?_,fun h=>by cases h⟩
   cases r with
   | nm n =>
     simp only at h
     split at h
     ·rename_i cp eH
      exact⟨n,cp,rfl,eH,h⟩
     ·exact h.elim
   | nil=>exact h.elim
   | no=>exact h.elim
 | row fr e xs =>
   refine⟨?_,fun h=>by cases h⟩
   cases r with
   | nm n =>
     simp only at h
     split at h
     ·rename_i aV e' ys Ij
      split at h
      ·rename_i he
       subst he
       split at h
       ·exact h.elim
       ·rename_i qX
        have:ys=xs:=h
        subst this
        refine .inl ⟨n,aV,_,_,rfl,Ij,fun hf=>?_,fun _=>rfl,Conv.refl _⟩
        subst hf
        cases aV<;>simp_all
      ·split at h
       ·rename_i he
        subst he
        split at h
        ·rename_i qX
         rw[Bool.and_eq_true] at qX
         obtain⟨h1,h2⟩:=h
         have h1:∀ y∈ys,wv e y:=h1
         have h2:xs=ys.map (fJ e):=h2
         subst h2
         exact .inl ⟨n,aV,_,ys,rfl,Ij,fun _=>qX.2,fun hf=>by rw[hf] at qX;exact absurd qX.1 (by simp),Conv.fJ h1⟩
        ·exact h.elim
       ·exact h.elim
     ·exact h.elim
   | nil=>exact .inr ⟨rfl,h⟩
   | no=>exact h.elim
theorem LX{bf:List Src}{es:Nat->ax}:∀ {rs:List Src} {ts:List ax},cT (R7 bf es rs ts)->rs.length=ts.length/\∀(m:Nat) r t,rs[m]? = some r->ts[m]? = some t->cT (mE bf es r t)
 | [],[],_=>⟨rfl,fun m r t h=>by cases h⟩
 | [],_::_,h=>h.elim
 | _::_,[],h=>h.elim
 | r::rs,t::ts,h=>by
   obtain⟨h1,h2⟩:=dB.1 h
   obtain⟨h3,h4⟩:=LX h2
   refine⟨by simp[h3],fun m r' t' hr ht=>?_⟩
   cases m with
   | zero=>simp at hr ht;subst hr;subst ht;exact h1
   | succ m=>exact h4 m r' t' (by simpa using hr) (by simpa using ht)
theorem uC{es:Nat->ax}:∀ {k:Nat} {rs:List Src} {ts:List ax},AH es k rs ts=true->∀ {j n:Nat} {e:Ty} {xs:List e.den},rs[j]? = some (.nm n)->ts[j]? = some (.row false e xs) →
 (e.flat||e.bU)=true->n=k+j/\∃ e' a_,es n = .row false e' a_
 | k,[],_,_,j,n,e,xs,h,_=>by cases h
 | k,_::_,[],_,j,n,e,xs,_,h=>by cases h
 | k,r::rs,t::ts,h,j,n,e,xs,h1,h2=>by
   intro gb
   unfold AH at h
   rw[Bool.and_eq_true] at h
   obtain⟨g1,g2⟩:=h
   cases j with
   | zero =>
     simp only[List.getElem?_cons_zero,Option.some.injEq] at h1 h2
     subst h1;subst h2
     simp only[gb,Bool.not_true,Bool.false_or,Bool.and_eq_true,beq_iff_eq] at g1
     obtain⟨g3,g4⟩:=g1
     refine⟨g3,?_⟩
     split at g4
     ·rename_i fr e' a_ he
      cases fr with
      | false=>exact⟨e',a_,he⟩
      | true=>cases g4
     ·cases g4
   | succ j =>
     obtain⟨a1,a2⟩:=uC g2 (j:=j) (by simpa using h1) (by simpa using h2) gb
     exact⟨by omega,a2⟩
theorem Nx{e:ax}{bf:List Src}{ts:List ax}(h:JN e bf ts=true)(he:e.lK=true):∃ r cs l,bf = .nm 0::r/\ts = .bx cs::l:=by
 cases e with
 | bx cs =>
   unfold JN at h
   split at h
   ·exact⟨_,_,_,rfl,rfl⟩
   ·cases h
   ·rename_i h1 h2
    first
     | exact absurd rfl (h2 cs)
     | exact (h2 cs rfl).elim
     | (exfalso;simp_all)
 | dead=>cases he
 | row fr e xs=>cases he
theorem yo:∀ {bf:List Src},lN bf=true->∀ {m m' n:Nat},bf[m]? = some (.nm n)->bf[m']? = some (.nm n)->m=m'
 | [],_,m,m',n,h,_=>by cases h
 | r::rs,h,m,m',n,h1,h2=>by
   have SW:lN rs=true:=by
    cases r with
    | nm k=>simp only[lN,Bool.and_eq_true] at h;exact h.2
    | nil=>exact h
    | no=>exact h
   have Rr:∀ {j:Nat},r = .nm n->rs[j]? = some (.nm n)->False:=by
    intro j hr hj
    subst hr
    simp only[lN,Bool.and_eq_true,tt,Bool.not_eq_true',List.any_eq_false] at h
    have:=h.1 (.nm n) (List.mem_of_getElem? hj)
    simp at this
   cases m with
   | zero =>
     cases m' with
     | zero=>rfl
     | succ m' =>
       simp only[List.getElem?_cons_zero,Option.some.injEq] at h1
       exact (Rr (j:=m') h1 (by simpa using h2)).elim
   | succ m =>
     cases m' with
     | zero =>
       simp only[List.getElem?_cons_zero,Option.some.injEq] at h2
       exact (Rr (j:=m) h2 (by simpa using h1)).elim
     | succ m' =>
       rw[yo SW (m:=m) (m':=m') (by simpa using h1) (by simpa using h2)]
section
variable {V : Vl} {hp : Nat → ax} {w : World}
theorem C.ok_one:∀ {c:C} {v:Value},C.ok V hp w c v->v.oneCell'=true:=by
 intro c v h
 cases c with
 | val u =>
   rw[h.1]
   have:=h.2
   cases u<;>first|rfl|exact this.elim
 | gi=>rw[show v=_ from h];rfl
 | ga=>rw[show v=_ from h];rfl
 | rd fr e xs=>exact aF.cO h v (List.mem_singleton.2 rfl)
 | own n =>
   obtain⟨fr,e,xs,_,h2⟩:=h
   rcases h2 with ⟨_,h2,_⟩|⟨_,cap,aq,el,h2,_⟩<;>rw[h2]<;>rfl
 | pre n k =>
   obtain⟨fr,e,xs,_,_,h2⟩:=h
   rcases h2 with ⟨_,h2,_⟩|⟨_,cap,aq,el,h2,_⟩<;>rw[h2]<;>rfl
 | eE n e xs=>exact aF.cO h.2 v (List.mem_singleton.2 rfl)
 | box n off=>rw[h.1];rfl
 | iY n len=>obtain⟨cap,h1,_⟩:=h;rw[h1.1];rfl
 | at_ fr t d off=>obtain⟨b,o,h1,_⟩:=h;rw[h1];rfl
 | dL n i off=>obtain⟨_,fr,e,xs,_,_,h3⟩:=h;rw[h3];rfl
 | fn f di=>rw[h.1];rfl
 | bZ fr f t d=>exact aF.cO (t:=.bZ f t) h v (List.mem_singleton.2 rfl)
 | rg fr wh e b xs=>exact aF.cO (t:=.gs wh e) h v (List.mem_singleton.2 rfl)
 | any=>exact h
variable {aH : Nat → ax} {bf : List Src}
theorem O0(hE:∀ m,sO hp (cW bf m) (aH m) bf/\(aH m = .dead->cW bf m = .no)){x y:C}{v:Value}(h:cT (mC bf x y))(ho:C.ok V hp w x v):C.ok (V.bf bf) aH w y v:=by
 have Sc:∀ {n m:Nat},cW bf m = .nm n->C.ok V hp w (.own n) v->C.ok (V.bf bf) aH w (.own m) v:=by
  intro n m hs ho
  obtain⟨fr,e,xs,h1,h2⟩:=ho
  obtain⟨k1,k2⟩:=hE m
  cases ht:aH m with
  | dead=>rw[k2 ht] at hs;cases hs
  | bx cs =>
    rw[ht] at k1
    obtain⟨n',cp,e1,e2,_⟩:=k1
    rw[hs] at e1;injection e1 with e1;subst e1
    rw[h1] at e2;cases e2
  | row aV e' ys =>
    rw[ht] at k1
    rcases k1 with ⟨n',ta,QG,IT,e1,e2,_,_,c1,c2,_⟩|⟨e1,_⟩
    ·rw[hs] at e1;injection e1 with e1;subst e1
     rw[h1] at e2;injection e2 with q1 q2 q3
     subst q1;subst q2;cases q3
     refine⟨aV,e',ys,ht,?_⟩
     rw[<-c2]
     exact At hs c1 h2
    ·rw[hs] at e1;cases e1
 unfold mC at h
 split at h
 ·exact C.ok_one ho
 ·split at h
  ·rename_i hk
   subst hk
   rw[show _=_ from h] at ho
   exact ho
  ·exact h.elim
 ·rw[show _=_ from h] at ho;exact ho
 ·rw[show _=_ from h];exact⟨ho,trivial⟩
 ·rw[show _=_ from h];exact⟨ho,trivial⟩
 ·exact ho
 ·exact ho
 ·rw[show _=_ from h] at ho;exact ho
 ·rename_i fr e xs aV e' ys
  split at h
  ·rename_i he
   subst he
   split at h
   ·exact h.elim
   ·rename_i qX
    have:xs=ys:=h
    subst this
    exact aF.mono (t:=.sl e) (fun b hb=>by
     cases aV with
     | false=>exact Vl.cN (V:=V) hb
     | true=>have:fr=true:=by cases fr<;>simp_all
             subst this;exact hb) (fun _ _=>rfl) ho
  ·exact h.elim
 ·rename_i fr e ys
  have:ys=[]:=h
  subst this
  rw[ho.1]
  exact aF.zero (.sl e) rfl
 ·rename_i n m
  rw[dH] at h
  split at h
  ·rename_i n' hr
   have hn:n'=n:=by simpa using mg.1 h
   subst hn
   exact Sc (by unfold cW;rw[hr]) ho
  ·exact h.elim
 ·rename_i m
  rw[dH] at h
  split at h
  ·rename_i hr
   have hs:cW bf m = .nil:=by unfold cW;rw[hr]
   obtain⟨k1,k2⟩:=hE m
   cases ht:aH m with
   | dead=>rw[k2 ht] at hs;cases hs
   | bx cs=>rw[ht] at k1;obtain⟨n',cp,e1,_⟩:=k1;rw[hs] at e1;cases e1
   | row aV e' ys =>
     rw[ht] at k1
     rcases k1 with ⟨n',ta,_,_,e1,_⟩|⟨_,e2⟩
     ·rw[hs] at e1;cases e1
     ·subst e2
      exact⟨aV,e',[],ht,.inl ⟨BZ hs,ho.1,rfl⟩⟩
  ·exact h.elim
 ·rename_i n k m k'
  rw[dH] at h
  split at h
  ·rename_i n' hr
   obtain⟨hn,hk⟩:=dB.1 h
   have hn:n'=n:=by simpa using mg.1 hn
   have hk:k=k':=hk
   subst hn;subst hk
   have hs:cW bf m = .nm n':=by unfold cW;rw[hr]
   obtain⟨fr,e,xs,h1,h2,h3⟩:=ho
   obtain⟨k1,k2⟩:=hE m
   cases ht:aH m with
   | dead=>rw[k2 ht] at hs;cases hs
   | bx cs =>
     rw[ht] at k1
     obtain⟨n2,cp,e1,e2,_⟩:=k1
     rw[hs] at e1;injection e1 with e1;subst e1
     rw[h1] at e2;cases e2
   | row aV e' ys =>
     rw[ht] at k1
     rcases k1 with ⟨n2,ta,QG,IT,e1,e2,_,_,c1,c2,_⟩|⟨e1,_⟩
     ·rw[hs] at e1;injection e1 with e1;subst e1
      rw[h1] at e2;injection e2 with q1 q2 q3
      subst q1;subst q2;cases q3
      exact⟨aV,e',ys,ht,by rw[<-c2];exact h2,At hs c1 h3⟩
     ·rw[hs] at e1;cases e1
  ·exact h.elim
 ·rename_i n o m o'
  rw[dH] at h
  split at h
  ·rename_i n' hr
   have hh:=mg.1 h
   simp only[Bool.and_eq_true,beq_iff_eq] at hh
   obtain⟨rfl,rfl⟩:=hh
   have hs:cW bf m = .nm n':=by unfold cW;rw[hr]
   obtain⟨h1,h2,cs,h3⟩:=ho
   obtain⟨k1,k2⟩:=hE m
   cases ht:aH m with
   | dead=>rw[k2 ht] at hs;cases hs
   | bx cp=>exact⟨by rw[kD hs];exact h1,(kE hs).2 h2,cp,ht⟩
   | row aV e' ys =>
     rw[ht] at k1
     rcases k1 with ⟨n',ta,_,_,e1,e2,_⟩|⟨e1,_⟩
     ·rw[hs] at e1;injection e1 with e1;subst e1
      rw[h3] at e2;cases e2
     ·rw[hs] at e1;cases e1
  ·exact h.elim
 ·rename_i n o m o'
  rw[dH] at h
  split at h
  ·rename_i n' hr
   have hh:=mg.1 h
   simp only[Bool.and_eq_true,beq_iff_eq] at hh
   obtain⟨rfl,rfl⟩:=hh
   have hs:cW bf m = .nm n':=by unfold cW;rw[hr]
   obtain⟨cap,h1,h2,cs,h3⟩:=ho
   obtain⟨k1,k2⟩:=hE m
   cases ht:aH m with
   | dead=>rw[k2 ht] at hs;cases hs
   | bx cp=>exact⟨cap,by rw[kD hs];exact h1,(kE hs).2 h2,cp,ht⟩
   | row aV e' ys =>
     rw[ht] at k1
     rcases k1 with ⟨n',ta,_,_,e1,e2,_⟩|⟨e1,_⟩
     ·rw[hs] at e1;injection e1 with e1;subst e1
      rw[h3] at e2;cases e2
     ·rw[hs] at e1;cases e1
  ·exact h.elim
 ·rename_i fr wh e b xs aV sg e' b' ys
  split at h
  ·rename_i he
   subst he
   split at h
   ·exact h.elim
   ·rename_i qX
    obtain⟨h1,h2⟩:b=b'/\xs=ys:=h
    subst h1;subst h2
    have b5:aF (V.Z fr) w (.gs wh e) [v] (b,xs):=ho
    refine Oy (sg:=wh) (fun hw=>by cases wh<;>simp_all) ?_
    exact b5.mono (fun b hb=>by
     cases aV with
     | false=>exact Vl.cN (V:=V) hb
     | true=>have:fr=true:=by cases fr<;>simp_all
             subst this;exact hb) (fun _ _=>rfl)
  ·exact h.elim
 ·rename_i fr wh e b ys
  have:ys=[]:=h
  subst this
  rw[ho.1]
  exact⟨⟨none,0,rfl,Nat.le_refl _,Nat.zero_le _,fun i hi=>absurd hi (Nat.not_lt_zero _)⟩,fun hp=>absurd hp (Nat.lt_irrefl _),fun _ hp=>absurd hp (Nat.lt_irrefl _)⟩
 ·rename_i fr wh e b xs aV e' ys
  split at h
  ·rename_i he
   subst he
   split at h
   ·exact h.elim
   ·rename_i qX
    have:xs=ys:=h
    subst this
    have b5:aF (V.Z fr) w (.gs wh e) [v] (b,xs):=ho
    exact aF.mono (t:=.sl e) (fun b hb=>by
     cases aV with
     | false=>exact Vl.cN (V:=V) hb
     | true=>have:fr=true:=by cases fr<;>simp_all
             subst this;exact hb) (fun _ _=>rfl) (xo b5)
  ·exact h.elim
 ·rename_i fr t d o aV t' d' o'
  split at h
  ·rename_i he
   subst he
   split at h
   ·exact h.elim
   ·rename_i qX
    obtain⟨h1,h2⟩:=dB.1 h
    have e1:o=o':=by simpa using mg.1 h1
    have e2:d=d':=h2
    subst e1;subst e2
    have hz:∀ b,V.Z fr b->(V.bf bf).Z aV b:=fun b hb=>by
     cases aV with
     | false=>exact Vl.cN (V:=V) hb
     | true=>have:fr=true:=by cases fr<;>simp_all
             subst this;exact hb
    obtain⟨b,o2,k1,k2,es,k3,k4,k5⟩:=ho
    exact⟨b,o2,k1,hz b k2,es,k3,k4,k5.mono hz (fun _ _=>rfl)⟩
  ·exact h.elim
 ·rename_i fr f t d aV f' t' d'
  split at h
  ·rename_i he
   subst he
   split at h
   ·exact h.elim
   ·rename_i qX
    obtain⟨h1,h2⟩:=dB.1 h
    have e1:f=f':=by simpa using mg.1 h1
    have e2:d=d':=h2
    subst e1;subst e2
    have hz:∀ b,V.Z fr b->(V.bf bf).Z aV b:=fun b hb=>by
     cases aV with
     | false=>exact Vl.cN (V:=V) hb
     | true=>have:fr=true:=by cases fr<;>simp_all
             subst this;exact hb
    have h':aF (V.Z fr) w (.bZ f t) [v] d:=ho
    exact h'.mono hz (fun _ _=>rfl)
  ·exact h.elim
 ·rename_i n i o m i' o'
  rw[dH] at h
  split at h
  ·rename_i n' hr
   obtain⟨h1,h2⟩:=dB.1 h
   have hh:=mg.1 h1
   simp only[Bool.and_eq_true,beq_iff_eq] at hh
   obtain⟨rfl,rfl⟩:=hh
   have hi:i=i':=h2
   subst hi
   have hs:cW bf m = .nm n':=by unfold cW;rw[hr]
   obtain⟨a1,fr,e,xs,a2,a3,a4⟩:=ho
   obtain⟨k1,k2⟩:=hE m
   cases ht:aH m with
   | dead=>rw[k2 ht] at hs;cases hs
   | bx cp =>
     rw[ht] at k1
     obtain⟨n',cp,e1,e2,_⟩:=k1
     rw[hs] at e1;injection e1 with e1;subst e1
     rw[a2] at e2;cases e2
   | row aV e' ys =>
     rw[ht] at k1
     rcases k1 with ⟨n',ta,QG,IT,e1,e2,_,_,c1,c2,_⟩|⟨e1,_⟩
     ·rw[hs] at e1;injection e1 with e1;subst e1
      rw[a2] at e2;injection e2 with q1 q2 q3
      subst q1;subst q2;cases q3
      exact⟨(kE hs).2 a1,aV,e',ys,ht,by rw[<-c2];exact a3,by rw[kD hs,<-c1];exact a4⟩
     ·rw[hs] at e1;cases e1
  ·exact h.elim
 ·exact h.elim
theorem FB(hE:∀ m,sO hp (cW bf m) (aH m) bf/\(aH m = .dead->cW bf m = .no)):∀ {xs ys:List C} {vs:List Value},cT (LW bf xs ys)->bz V hp w xs vs->bz (V.bf bf) aH w ys vs
 | [],[],vs,_,ho=>⟨ho.1,fun j c v h=>by cases h⟩
 | [],_::_,vs,h,_=>h.elim
 | _::_,[],vs,h,_=>h.elim
 | x::xs,y::ys,vs,h,ho=>by
   obtain⟨h1,h2⟩:=dB.1 h
   cases vs with
   | nil=>have:=ho.1;cases this
   | cons v vs =>
     have h3:=FB (vs:=vs) hE h2 ⟨by simpa using ho.1,fun j c u hc hu=>ho.2 (j+1) c u (by simpa using hc) (by simpa using hu)⟩
     refine⟨by simpa using h3.1,fun j c u hc hu=>?_⟩
     cases j with
     | zero =>
       simp only[List.getElem?_cons_zero,Option.some.injEq] at hc hu
       subst hc;subst hu
       exact O0 hE h1 (ho.2 0 x v rfl rfl)
     | succ j=>exact h3.2 j c u (by simpa using hc) (by simpa using hu)
theorem S6(hE:∀ m,sO hp (cW bf m) (aH m) bf/\(aH m = .dead->cW bf m = .no)){x y:S}{v:Value}(h:cT (mS bf x y))(ho:S.ok V hp w x v):S.ok (V.bf bf) aH w y v:=by
 unfold mS at h
 split at h
 ·trivial
 ·exact O0 hE h ho
 ·obtain⟨vs,h1,h2⟩:=ho
  exact⟨vs,h1,FB hE h h2⟩
 ·exact ho
 ·exact h.elim
theorem LY(hE:∀ m,sO hp (cW bf m) (aH m) bf/\(aH m = .dead->cW bf m = .no)):∀ {xs ys:List S},cT (R8 bf xs ys)->xs.length=ys.length/\∀(j:Nat) x y,xs[j]? = some x->ys[j]? = some y->cT (mS bf x y)
 | [],[],_=>⟨rfl,fun j x y h=>by cases h⟩
 | [],_::_,h=>h.elim
 | _::_,[],h=>h.elim
 | x::xs,y::ys,h=>by
   obtain⟨h1,h2⟩:=dB.1 h
   obtain⟨h3,h4⟩:=LY hE h2
   refine⟨by simp[h3],fun j x' y' hx hy=>?_⟩
   cases j with
   | zero=>simp at hx hy;subst hx;subst hy;exact h1
   | succ j=>exact h4 j x' y' (by simpa using hx) (by simpa using hy)
end
theorem zg{base:Nat}{M:LM}{w0 w:World}{s t:St}{a:Act}{bf:List Src}(h:Match bf s t)(hs:Sat base M w0 s a w):Sat base M w0 t a w:=by
 obtain⟨hd,V,r⟩:=hs
 obtain⟨h1,h2⟩:=dB.1 h
 obtain⟨h2,h3⟩:=dB.1 h2
 have gE:=mg.1 h1
 rw[Bool.and_eq_true,Bool.and_eq_true] at gE
 obtain⟨⟨gE,yf⟩,TL⟩:=gE
 obtain⟨e1,e2⟩:=LX h3
 have hE:∀ m,sO s.au (cW bf m) (t.au m) bf/\(t.au m = .dead->cW bf m = .no):=by
  intro m
  cases hr:bf[m]? with
  | none =>
    have lW:=List.getElem?_eq_none_iff.1 hr
    have:t.au m = .dead:=by
     show nth .dead t.hp m=_
     rw[cB,List.getElem?_eq_none (by omega)]
     rfl
    rw[this]
    exact⟨trivial,fun _=>by unfold cW;rw[hr]⟩
  | some sr =>
    have aZ:=(List.getElem?_eq_some_iff.1 hr).1
    have ht:t.hp[m]? = some (t.hp[m]'(by omega)):=List.getElem?_eq_getElem _
    have l5:t.au m=t.hp[m]'(by omega):=by
     show nth .dead t.hp m=_
     rw[cB,ht];rfl
    have tj:cW bf m=sr:=by unfold cW;rw[hr]
    rw[l5,tj]
    exact S5 (e2 m sr _ hr ht)
 obtain⟨f1,f2⟩:=LY hE h2
 have nm:∀ m,(t.au m).live=true->(V.bf bf).has m->∃ n,cW bf m = .nm n/\bf[m]? = some (.nm n)/\(s.au n).live=true/\V.has n/\(V.bf bf).aE m=V.aE n:=by
  intro m hl hh
  cases tj:cW bf m with
  | no=>unfold Vl.bf at hh;simp only[tj] at hh
  | nil=>exact absurd hh (BZ tj)
  | nm n =>
    refine⟨n,rfl,?_,?_,(kE tj).1 hh,kD tj⟩
    ·unfold cW at tj
     split at tj
     ·rename_i lX;rw[lX,tj]
     ·cases tj
    ·have:=(hE m).1
     cases l5:t.au m with
     | dead=>rw[l5] at hl;cases hl
     | bx cs=>rw[l5] at this;obtain⟨n',cp,k1,k2,_⟩:=this;rw[tj] at k1;injection k1 with k1;subst k1;rw[k2];rfl
     | row fr e xs =>
       rw[l5] at this
       rcases this with ⟨n',aV,_,_,k1,k2,_⟩|⟨k1,_⟩
       ·rw[tj] at k1;injection k1 with k1;subst k1;rw[k2];rfl
       ·rw[tj] at k1;cases k1
 have m:=r.mem
 refine⟨hd,V.bf bf,⟨by rw[<-f1];exact r.len,fun i y v hy hv=>?_,?_⟩⟩
 ·have aZ:=(List.getElem?_eq_some_iff.1 hy).1
  have hx:s.ts[i]? = some (s.ts[i]'(by omega)):=List.getElem?_eq_getElem _
  exact S6 hE (f2 i _ y hx hy) (r.fI i _ v hx hv)
 ·refine⟨fun k=>?_,fun k cs hk=>?_,fun k hl hh=>?_,fun k e xs hk hh=>?_,fun k k' hl dm hh lX hb=>?_,m.z0,m.z1,m.kept,fun k hl hh=>?_,fun b hb=>?_,fun k hh i hi=>?_⟩
  ·have:=(hE k).1
   cases l5:t.au k with
   | dead=>trivial
   | bx cs =>
     rw[l5] at this
     obtain⟨n,cp,k1,k2,k3⟩:=this
     have h0:=m.ck n
     rw[k2] at h0
     obtain⟨aq,el,a1,a2⟩:=h0
     exact⟨aq,el,by rw[kD k1];exact a1,FB hE k3 a2⟩
   | row fr e xs =>
     rw[l5] at this
     rcases this with ⟨n,aV,e',ys,k1,k2,k3,_,c1,c2,c3,c4⟩|⟨k1,k2⟩
     ·have h0:=m.ck n
      rw[k2] at h0
      rcases h0 with ⟨a1,a2⟩|⟨a1,aq,el,a2,a3,a4⟩
      ·exact .inl ⟨fun hh=>a1 ((kE k1).1 hh),by subst a2;exact List.length_eq_zero_iff.1 c2.symm⟩
      ·refine .inr ⟨(kE k1).2 a1,aq,el,by rw[kD k1];exact a2,by rw[<-c2];exact a3,fun i hi=>?_⟩
       obtain⟨es,b1,b2,b3⟩:=a4 i (by rw[c2];exact hi)
       refine⟨es,by rw[<-c1];exact b1,by rw[<-c1];exact b2,c3 _ _ _ i (by rw[c2];exact hi) hi (b3.mono (fun b hb=>?_) (fun _ _=>rfl))⟩
       cases fr with
       | false=>exact Vl.cN (V:=V) hb
       | true=>rw[k3 rfl] at hb;exact hb
     ·exact .inl ⟨BZ k1,k2⟩
  ·have:=(hE k).1
   rw[hk] at this
   obtain⟨n,cp,k1,k2,_⟩:=this
   exact (kE k1).2 (m.box n cp k2)
  ·obtain⟨n,_,_,k1,k2,k3⟩:=nm k hl hh
   rw[k3]
   exact m.own n k1 k2
  ·obtain⟨n,k0,_,_,k2,k3⟩:=nm k (by rw[hk];rfl) hh
   rw[k3]
   have:=(hE k).1
   rw[hk] at this
   rcases this with ⟨n',aV,e',ys,e1,e2,e3,_⟩|⟨e1,_⟩
   ·rw[k0] at e1;injection e1 with e1;subst e1
    rw[e3 rfl] at e2
    exact m.eK n e' ys e2 k2
   ·rw[k0] at e1;cases e1
  ·obtain⟨n,_,k0,k1,k2,k3⟩:=nm k hl hh
   obtain⟨n',_,W6,W7,W9,W_⟩:=nm k' dm lX
   have:n=n':=m.fw n n' k1 W7 k2 W9 (by rw[<-k3,<-W_];exact hb)
   subst this
   exact yo gE k0 W6
  ·obtain⟨n,k0,k4,_,k2,k3⟩:=nm k (mX hl) hh
   rw[k3]
   have hE:=(hE k).1
   cases l5:t.au k with
   | dead=>rw[l5] at hl;exact hl.elim
   | bx cs=>rw[l5] at hl;exact hl.elim
   | row fr e xs =>
     rw[l5] at hE hl
     cases fr with
     | true=>exact hl.elim
     | false =>
       have gb:(e.flat||e.bU)=true:=hl
       have Fh:t.hp[k]? = some (.row false e xs):=by
        have h':nth .dead t.hp k = .row false e xs:=l5
        rw[cB] at h'
        cases hx:t.hp[k]? with
        | none=>rw[hx] at h';cases h'
        | some y=>rw[hx] at h';exact congrArg some h'
       have h9:=uC yf k4 Fh
       rw[Nat.zero_add] at h9
       obtain⟨e1,e9⟩:=h9 gb
       rcases hE with ⟨n',aV,e',ys,q1,q2,q3,q4,c1,c2,c3,c4⟩|⟨q1,_⟩
       ·rw[k0] at q1
        injection q1 with q1
        subst q1
        obtain⟨e3,SK,e9⟩:=e9
        rw[q2] at e9
        injection e9 with e9 _ _
        subst e9
        have:=m.lL n (by rw[q2];exact (q4 rfl).trans gb) k2
        rw[e1] at this ⊢
        exact this
       ·rw[k0] at q1;cases q1
  ·obtain⟨q1,q2⟩:=m.lr b hb
   obtain⟨rr,cs,l,e1,e2⟩:=Nx TL q1
   refine⟨?_,?_⟩
   ·show (nth .dead t.hp 0).lK=true
    rw[e2];rfl
   ·rw[kD (n:=0) (by rw[e1];rfl)]
    exact q2
  ·cases l5:t.au k with
   | dead=>rw[l5] at hi;cases hi
   | bx cs=>rw[l5] at hi;cases hi
   | row fr e xs =>
     rw[l5] at hi
     cases fr with
     | true=>cases hi
     | false =>
       have gb:(e.flat||e.bU)=true:=by
        have c7:i∈(if e.bU then bV e xs else []):=hi
        split at c7
        ·rename_i hg;rw[hg,Bool.or_true]
        ·cases c7
       obtain⟨n,k0,k4,_,k2,k3⟩:=nm k (by rw[l5];rfl) hh
       have hE:=(hE k).1
       rw[l5] at hE
       have Fh:t.hp[k]? = some (.row false e xs):=by
        have h':nth .dead t.hp k = .row false e xs:=l5
        rw[cB] at h'
        cases hx:t.hp[k]? with
        | none=>rw[hx] at h';cases h'
        | some y=>rw[hx] at h';exact congrArg some h'
       have h9:=uC yf k4 Fh
       rw[Nat.zero_add] at h9
       obtain⟨e1,e3,SK,e9⟩:=h9 gb
       rcases hE with ⟨n',aV,e',ys,q1,q2,q3,q4,c1,c2,c3,c4⟩|⟨q1,_⟩
       ·rw[k0] at q1
        injection q1 with q1
        subst q1
        rw[q2] at e9
        injection e9 with e9 _ _
        subst e9
        exact fun e0=>m.fL n k2 i (by rw[q2];exact c4 i hi) (by omega)
       ·rw[k0] at q1;cases q1
end Go.SX
/- From what is to be shown of a function's code to its contract. No condition. -/
namespace Go.SX
open Go.RowKit
set_option linter.unusedVariables false
set_option linter.unusedSimpArgs false
def Ex.to:Ex->Exit
 | .normal=>.normal
 | .exit i=>.exit i
 | .ret=>.ret
section
variable {P : Program} {T : bN} {Γ : FuncId → Option PC} {R : FuncId → Option bW} {base : Nat} {M : LM} {w0 : World}
theorem u4(hm:P.follows .mixedOrders=true)(hT:bP P T)(hΓ:dh P Γ)(hR:cj P R):∀(c:Code) (A:Nat->Option bq) (st:St) (Qs:Ex->(Nat->Option bq)->St->Prop) (Q:Exit->Act->World->Prop) (a:Act) (w:World),
 Sat base M w0 st a w->vc T Γ R c A st Qs->(∀ e A' aN a' w',Qs e A' aN->Sat base M w0 aN a' w'->Q e.to a' w')->c.wp P Q a w:=by
 intro c
 induction c with
 | skip=>intro A st Qs Q a w hs h hQ;exact wp_skip (hQ .normal A st a w h hs)
 | region id ops draw =>
   intro A st Qs Q a w hs h hQ
   unfold vc at h
   split at h
   ·rename_i X J I m x0 inner _
    obtain⟨hd,V,r⟩:=hs
    obtain⟨V',r',_⟩:=r.qT [m x0]
    exact yM hm hT hΓ hR (⟨hd,V',r'⟩:Sat base M w0 (st.freeze (m x0)) a w) h (fun aN a' w' k aW=>hQ .normal A aN a' w' k aW)
   ·exact yM hm hT hΓ hR hs h (fun aN a' w' k aW=>hQ .normal A aN a' w' k aW)
 | seq x y LC LD =>
   intro A st Qs Q a w hs h hQ
   unfold vc at h
   split at h
   ·rename_i X J I m x0 inner _
    obtain⟨h1,h2⟩:=h
    refine wp_seq (LC A st _ _ a w hs h1 (fun e A' aN a' w' hk aW=>?_))
    cases e with
    | normal =>
      obtain⟨x',k1,k2⟩:=hk
      exact LD (inner x') _ Qs Q a' w' (zg k2 aW) (h2 x' k1) hQ
    | exit i=>exact hQ (.exit i) A' aN a' w' hk aW
    | ret=>exact hQ .ret A' aN a' w' hk aW
   ·refine wp_seq (LC A st _ _ a w hs h (fun e A' aN a' w' hk aW=>?_))
    cases e with
    | normal=>exact LD A' aN Qs Q a' w' aW hk hQ
    | exit i=>exact hQ (.exit i) A' aN a' w' hk aW
    | ret=>exact hQ .ret A' aN a' w' hk aW
 | cond c x y LC LD =>
   intro A st Qs Q a w hs h hQ
   have dq:S.ok (Classical.choose hs.2) st.au w (st.eval c) (a.eval c):=(Classical.choose_spec hs.2).eval c
   unfold vc at h
   split at h
   ·rename_i e
    rw[e] at dq
    exact wp_cond_true dq (LC A st Qs Q a w hs h hQ)
   ·rename_i e
    rw[e] at dq
    exact wp_cond_false dq (LD A st Qs Q a w hs h hQ)
   ·rename_i b e
    rw[e] at dq
    exact wp_cond_split dq.1 (fun hb=>LC A st Qs Q a w hs (h.1 hb) hQ) (fun hb=>LD A st Qs Q a w hs (h.2 hb) hQ)
   ·exact h.elim
 | block id x ih =>
   intro A st Qs Q a w hs h hQ
   refine wp_block (ih A st _ _ a w hs h (fun e A' aN a' w' hk aW=>?_))
   cases e with
   | normal=>exact hQ .normal A' aN a' w' hk aW
   | exit i =>
     show Exit.inBlock id Q (.exit i) a' w'
     unfold Exit.inBlock
     simp only at hk ⊢
     split
     ·rename_i e
      rw[if_pos e] at hk
      exact hQ .normal A' aN a' w' hk aW
     ·rename_i e
      rw[if_neg e] at hk
      exact hQ (.exit i) A' aN a' w' hk aW
   | ret=>exact hQ .ret A' aN a' w' hk aW
 | loop x ih =>
   intro A st Qs Q a w hs h hQ
   unfold vc at h
   split at h
   ·rename_i X J I m x0 inner _
    obtain⟨h1,h2,h3⟩:=h
    refine wp_loop_ghost (fun n a w=>∃ y,J y/\m y=n/\Sat base M w0 (I (st.head x) y) a w) (m x0) ⟨x0,h1,rfl,zg h2 hs⟩ (fun n a w hI=>?_)
    obtain⟨y,hy,rfl,WJ⟩:=hI
    refine ih (inner y) _ _ _ a w WJ (h3 y hy) (fun e A' aN a' w' hk aW=>?_)
    cases e with
    | normal =>
      obtain⟨y',k1,k2,k3⟩:=hk
      exact⟨m y',k2,y',k1,rfl,zg k3 aW⟩
    | exit i=>exact hQ (.exit i) A' aN a' w' hk aW
    | ret=>exact hQ .ret A' aN a' w' hk aW
   ·exact h.elim
 | exit id=>intro A st Qs Q a w hs h hQ;exact wp_exit (hQ (.exit id) A st a w h hs)
 | ret=>intro A st Qs Q a w hs h hQ;exact wp_ret (hQ .ret A st a w h hs)
 | rangeFunc f ps x y=>intro A st Qs Q a w hs h hQ;exact h.elim
 | scope x=>intro A st Qs Q a w hs h hQ;exact h.elim
 | label l=>intro A st Qs Q a w hs h hQ;exact h.elim
 | goto l=>intro A st Qs Q a w hs h hQ;exact h.elim
 | refuse l=>intro A st Qs Q a w hs h hQ;exact h.elim
theorem aF.below{Z:Nat->Prop}{w:World}:∀ {t:Ty} {cs:List Value} {d:t.den},aF Z w t cs d->aF (fun b=>b<w.heap.size) w t cs d:=by
 intro t
 induction t with
 | int k=>exact fun h=>h
 | bool=>exact fun h=>h
 | str=>exact fun h=>h
 | sl e ih =>
   intro cs xs h
   obtain⟨a,cap,h1,h2,h3,h4⟩:=h
   refine⟨a,cap,h1,h2,h3,fun i hi=>?_⟩
   obtain⟨ad,e1,e2,e3,es,e4,e5,e6⟩:=h4 i hi
   refine⟨ad,e1,e2,?_,es,e4,e5,ih e6⟩
   have hp:=e.size_pos
   have:=e5 0 (by omega)
   unfold World.cell? at this
   cases hb:w.heap[ad.block]? with
   | none=>rw[hb] at this;cases this
   | some o=>exact (Array.getElem?_eq_some_iff.1 hb).1
 | st t ih=>exact fun h=>ih h
 | pr a b fy fA =>
   intro cs d h
   obtain⟨c1,c2,h1,h2,h3⟩:=h
   exact⟨c1,c2,h1,fy h2,fA h3⟩
 | ptr t ih =>
   intro cs d h
   obtain⟨b,o,h1,h2,es,h3,h4,h5⟩:=h
   refine⟨b,o,h1,?_,es,h3,h4,ih h5⟩
   have hp:=t.size_pos
   have:=h4 0 (by omega)
   unfold World.cell? at this
   cases hb:w.heap[b]? with
   | none=>rw[hb] at this;cases this
   | some o=>exact (Array.getElem?_eq_some_iff.1 hb).1
 | bZ f t ih =>
   intro cs d h
   obtain⟨di,h1,h2⟩:=h
   exact⟨di,h1,ih h2⟩
 | gs wh e ih =>
   intro cs d h
   obtain⟨⟨a,cap,h1,h2,h3,h4⟩,k⟩:=h
   refine⟨⟨a,cap,h1,h2,h3,fun i hi=>?_⟩,k⟩
   obtain⟨ad,e1,e2,e3,es,e4,e5,e6⟩:=h4 i hi
   refine⟨ad,e1,e2,?_,es,e4,e5,ih e6⟩
   have hp:=e.size_pos
   have:=e5 0 (by omega)
   unfold World.cell? at this
   cases hb:w.heap[ad.block]? with
   | none=>rw[hb] at this;cases this
   | some o=>exact (Array.getElem?_eq_some_iff.1 hb).1
def Vl.start(w:World):Vl:=⟨fun _=>0,fun _=>False,fun b=>b<w.heap.size,fun _=>False⟩
theorem P_{w:World}{b:Nat}(h:b<w.heap.size):(Vl.start w).Z false b:=.inr ⟨rfl,h⟩
theorem HW{w:World}{hp:Nat->ax}{t:Ty}{v:Value}{d:t.den}(h:pW gH w t v d):S.ok (Vl.start w) hp w (Bq t d) v:=by
 obtain⟨cs,h1,h2⟩:=h
 have hr:aF ((Vl.start w).Z false) w t cs d:=h2.below.mono (fun b hb=>P_ hb) (fun _ _=>rfl)
 have ho:=gg (V:=Vl.start w) (hp:=hp) false t hr
 unfold Bq kR
 unfold iW at h1
 cases gf:jt t with
 | true =>
   rw[gf] at h1
   simp only[if_true] at h1 ⊢
   exact⟨cs.toArray,h1,by simpa using ho⟩
 | false =>
   rw[gf] at h1
   simp only[Bool.false_eq_true,if_false] at h1 ⊢
   subst h1
   have hl:=ho.1
   split
   ·rename_i c hc
    rw[hc] at ho
    exact ho.2 0 c v rfl rfl
   ·rename_i hc
    exfalso
    match hx:expand false t d with
    | []=>rw[hx] at hl;cases hl
    | [c]=>exact hc c hx
    | _::_::_=>rw[hx] at hl;simp at hl
theorem Eh{w:World}{hp:Nat->ax}:∀ {ts:List Ty} {vs:List Value} {d:aY ts},cG gH w ts vs d->(eV ts d).length=vs.length/\vs.length=ts.length ∧
 ∀(i:Nat) s v,(eV ts d)[i]? = some s->vs[i]? = some v->S.ok (Vl.start w) hp w s v
 | [],vs,d,h=>by rw[show vs=[] from h];exact⟨rfl,rfl,fun i s v h=>by cases h⟩
 | [t],vs,d,h=>by
   obtain⟨v,rfl,h2⟩:=h
   refine⟨rfl,rfl,fun i s u hs hu=>?_⟩
   cases i with
   | zero =>
     simp only[eV,List.getElem?_cons_zero,Option.some.injEq] at hs hu
     subst hs;subst hu
     exact HW h2
   | succ i=>simp[eV] at hs
 | t::u::r,vs,d,h=>by
   obtain⟨v,bO,rfl,h2,h3⟩:=h
   obtain⟨k1,k2,k3⟩:=Eh (hp:=hp) h3
   refine⟨by simp[eV,k1],by simp[k2],fun i s x hs hx=>?_⟩
   cases i with
   | zero =>
     simp only[eV,List.getElem?_cons_zero,Option.some.injEq] at hs hx
     subst hs;subst hx
     exact HW h2
   | succ i=>exact k3 i s x (by simpa[eV] using hs) (by simpa using hx)
theorem sW{w:World}:∀ {ts:List Ty} {vs:List Value} {d:aY ts},cG gH w ts vs d->gB ts d
 | [],_,_,_=>trivial
 | [t],vs,d,h=>by obtain⟨v,_,cs,_,h2⟩:=h;exact h2.wf
 | t::u::r,vs,d,h=>by
   obtain⟨v,bO,_,⟨cs,_,h2⟩,h3⟩:=h
   exact⟨h2.wf,sW h3⟩
theorem L3(w:World):Mem w.heap.size pa w (Vl.start w) (fun _=>.dead) w :=
 ⟨fun _=>trivial,(fun n cs h=>by cases h),(fun n h=>by cases h),(fun n e xs h=>by cases h),(fun n m h=>by cases h),fun b h=>⟨h,trivial⟩,fun b (h:False)=>h.elim,⟨rfl,rfl,rfl,Nat.le_refl _,fun _ _ _=>rfl,fun _ _ _ _ h _=>h.elim⟩,fun n h=>h.elim,fun b (h:False)=>h.elim,fun n (h:False)=>h.elim⟩
theorem r_{w:World}{ts:List Ty}{vs:List Value}{d:aY ts}(h:cG gH w ts vs d)(n:Nat) :
 Sat w.heap.size pa w (St.start ts d n) { tmps:=vs.toArray++Array.replicate (n-vs.toArray.size) undef,defers:=[] } w:=by
 obtain⟨h1,h2,h3⟩:=Eh (hp:=fun _=>.dead) h
 have he:(St.start ts d n).au=fun _=>.dead:=by
  funext k
  show nth .dead ([]:List ax) k=_
  rw[cB];rfl
 have hl:(St.start ts d n).ts=eV ts d++List.replicate (n-vs.length) .ew:=by
  show cM _ (kQ _ _)=_
  rw[bT,iy,cy,h2]
 refine⟨rfl,Vl.start w,⟨by rw[hl];simp[h1],fun i s v hs hv=>?_,by rw[he];exact L3 w⟩⟩
 rw[he]
 rw[hl] at hs
 have cd:(vs++List.replicate (n-vs.length) undef)[i]? = some v:=by
  rw[<-hv]
  simp only[Array.getElem?_append,List.getElem?_append,List.getElem?_toArray,List.size_toArray,Array.getElem?_replicate,List.getElem?_replicate]
 rcases Nat.lt_or_ge i vs.length with hi|hi
 ·rw[List.getElem?_append_left (by omega)] at hs
  rw[List.getElem?_append_left hi] at cd
  exact h3 i s v hs cd
 ·rw[List.getElem?_append_right (by omega),List.getElem?_replicate] at hs
  rw[List.getElem?_append_right hi,List.getElem?_replicate] at cd
  split at hs
  ·injection hs with hs;subst hs
   split at cd
   ·injection cd with cd;exact cd.symm
   ·cases cd
  ·cases hs
end
end Go.SX
/- What a function hands back. No condition. -/
namespace Go.SX
open Go.RowKit
set_option linter.unusedVariables false
set_option linter.unusedSimpArgs false
section
variable {P : Program} {T : bN} {Γ : FuncId → Option PC} {R : FuncId → Option bW} {V : Vl} {hp : Nat → ax} {w : World}
open Classical in
noncomputable def fu(V:Vl):List Nat->List Nat
 | []=>[]
 | n::r=>if V.has n then V.aE n::fu V r else fu V r
theorem vh(a b:List Nat):fu V (a++b)=fu V a++fu V b:=by
 induction a with
 | nil=>rfl
 | cons n a ih =>
   simp only[List.cons_append,fu]
   split<;>simp[ih]
theorem iQ{ns:List Nat}{b:Nat}(h:b∈fu V ns):∃ n∈ns,V.has n/\V.aE n=b:=by
 induction ns with
 | nil=>cases h
 | cons n ns ih =>
   unfold fu at h
   split at h
   ·rename_i hh
    rcases List.mem_cons.1 h with rfl|h
    ·exact⟨n,List.mem_cons_self ..,hh,rfl⟩
    ·obtain⟨m,h1,h2⟩:=ih h
     exact⟨m,List.mem_cons_of_mem _ h1,h2⟩
   ·obtain⟨m,h1,h2⟩:=ih h
    exact⟨m,List.mem_cons_of_mem _ h1,h2⟩
def Eb(hp:Nat->ax)(n:Nat):Prop:=∃ e xs,hp n = .row true e xs
theorem IG{n h:Nat}{e:Ty}{xs:List e.den}{v:Value}(he:(ax.row true e xs).ok V hp w n)(hr:cR V w n e h v)(hh:h<=xs.length) :
 ∃ bs,fQ (V.Z true) w (.sl e) [v] (xs.take h) bs/\bs.filterMap id=fu V [n]:=by
 have hlen:(xs.take h).length=h:=by rw[List.length_take];omega
 rcases hr with ⟨h1,rfl,rfl⟩|⟨h1,cap,aq,el,rfl,h3,h4,h5⟩
 ·exact⟨[none],.inl ⟨rfl,by simp,rfl⟩,by simp[fu,h1]⟩
 ·rcases he with ⟨k1,_⟩|⟨_,bn,eg,k2,k3,k4⟩
  ·exact absurd h1 k1
  ·rw[k2] at h3
   injection h3 with h3
   injection h3 with e1 e2 e3
   subst e1
   refine⟨[some (V.aE n)],.inr ⟨V.aE n,cap,bn,eg,by rw[hlen],rfl,k2,h4,by rw[hlen];exact h5,by rw[hlen];omega,fun i hi=>?_⟩,by simp[fu,h1]⟩
   rw[hlen] at hi
   obtain⟨es,k5,k6,k7⟩:=k4 i (by omega)
   exact⟨es,k5,k6,by rw[List.getElem_take];exact k7⟩
theorem IA{Z:Nat->Prop}{e' e:Ty}{cs:List Value}{xs:List e'.den}{ys:List e.den}{bs:List (Option Nat)}(h:fQ Z w (.sl e') cs xs bs)(k:kS e' e xs=some ys):fQ Z w (.sl e) cs ys bs:=by
 have hl:=nP k
 rcases h with ⟨h1,h2,h3⟩|⟨b,cap,aq,el,h1,h2,h3,h4,h5,h6,h7⟩
 ·exact .inl ⟨h1,by rw[h2] at hl;exact List.length_eq_zero_iff.1 hl,h3⟩
 ·refine .inr ⟨b,cap,aq,el,by rw[hl];exact h1,h2,h3,by rw[<-(tT k).1];exact h4,by rw[hl];exact h5,by rw[hl];exact h6,fun i hi=>?_⟩
  obtain⟨es,k5,k6,k7⟩:=h7 i (by rw[<-hl];exact hi)
  exact⟨es,by rw[<-(tT k).1];exact k5,by rw[<-(tT k).1];exact k6,KN k hi k7⟩
theorem NM(he:∀ n,(hp n).ok V hp w n){e:Ty}{c:C}{xs:List e.den}{ns:List Nat}{v:Value}(h:JX hp e c=some (xs,ns))(ho:C.ok V hp w c v) :
 ∃ bs,fQ (V.Z true) w (.sl e) [v] xs bs/\bs.filterMap id=fu V ns/\∀ n∈ns,Eb hp n:=by
 unfold JX at h
 split at h
 ·rename_i n
  split at h
  ·rename_i e' a_ hn
   rw[ee] at h
   obtain⟨ys,hk,h⟩:=Option.map_eq_some_iff.1 h
   injection h with h1 h2;subst h1;subst h2
   obtain⟨fr,e2,kK,h3,h4⟩:=ho
   rw[hn] at h3
   injection h3 with e1 e2 e3
   subst e1;subst e2;cases e3
   have h2:=he n
   rw[hn] at h2
   obtain⟨bs,k1,k2⟩:=IG h2 h4 (Nat.le_refl _)
   rw[List.take_length] at k1
   exact⟨bs,IA k1 hk,k2,fun m hm=>by rw[List.mem_singleton.1 hm];exact⟨_,_,hn⟩⟩
  ·cases h
 ·rename_i n m
  split at h
  ·rename_i e' a_ hn
   rw[ee] at h
   obtain⟨ys,hk,h⟩:=Option.map_eq_some_iff.1 h
   injection h with h1 h2;subst h1;subst h2
   obtain⟨fr,e2,kK,h3,h5,h4⟩:=ho
   rw[hn] at h3
   injection h3 with e1 e2 e3
   subst e1;subst e2;cases e3
   have h2:=he n
   rw[hn] at h2
   obtain⟨bs,k1,k2⟩:=IG h2 h4 h5
   exact⟨bs,IA k1 hk,k2,fun m hm=>by rw[List.mem_singleton.1 hm];exact⟨_,_,hn⟩⟩
  ·cases h
 ·injection h with h;injection h with h1 h2;subst h1;subst h2
  exact⟨[none],.inl ⟨by rw[ho.1],rfl,rfl⟩,rfl,fun n hn=>by cases hn⟩
 ·cases h
theorem oT{c:C}{r:List C}{vs:List Value}(h:bz V hp w (c::r) vs):∃ v bO,vs=v::bO/\C.ok V hp w c v/\bz V hp w r bO:=by
 cases vs with
 | nil=>have:=h.1;cases this
 | cons v vs=>exact⟨v,vs,rfl,h.2 0 c v rfl rfl,by simpa using h.1,fun j c u hc hu=>h.2 (j+1) c u (by simpa using hc) (by simpa using hu)⟩
theorem tC(he:∀ n,(hp n).ok V hp w n):∀(t:Ty) {cs:List C} {d:t.den} {ns:List Nat} {rest:List C} {vs:List Value},rh hp t cs=some (d,ns,rest)->bz V hp w cs vs →
 ∃ v1 v2 bs,vs=v1++v2/\fQ (V.Z true) w t v1 d bs/\bs.filterMap id=fu V ns/\(∀ n∈ns,Eb hp n)/\bz V hp w rest v2
 | .int k,cs,d,ns,rest,vs,h,ho=>by
   unfold rh at h
   split at h
   ·rename_i x r hh
    injection h with h;injection h with h1 h2;injection h2 with h2 h3;subst h1;subst h2;subst h3
    obtain⟨c,rfl,hc⟩:=bX hh
    obtain⟨v,bO,rfl,h1,h2⟩:=oT ho
    exact⟨[v],bO,[],rfl,⟨by rw[(uO hc h1).1];exact⟨rfl,(uO hc h1).2⟩,rfl⟩,rfl,(fun n hn=>by cases hn),h2⟩
   ·cases h
 | .bool,cs,d,ns,rest,vs,h,ho=>by
   unfold rh at h
   split at h
   ·rename_i x r hh
    injection h with h;injection h with h1 h2;injection h2 with h2 h3;subst h1;subst h2;subst h3
    obtain⟨c,rfl,hc⟩:=bX hh
    obtain⟨v,bO,rfl,h1,h2⟩:=oT ho
    exact⟨[v],bO,[],rfl,⟨by rw[wT hc h1];rfl,rfl⟩,rfl,(fun n hn=>by cases hn),h2⟩
   ·cases h
 | .str,cs,d,ns,rest,vs,h,ho=>by
   unfold rh at h
   split at h
   ·rename_i x r hh
    injection h with h;injection h with h1 h2;injection h2 with h2 h3;subst h1;subst h2;subst h3
    obtain⟨c,rfl,hc⟩:=bX hh
    obtain⟨v,bO,rfl,h1,h2⟩:=oT ho
    exact⟨[v],bO,[],rfl,⟨by rw[(kc hc h1).1];exact⟨rfl,(kc hc h1).2⟩,rfl⟩,rfl,(fun n hn=>by cases hn),h2⟩
   ·cases h
 | .sl e,cs,d,ns,rest,vs,h,ho=>by
   unfold rh at h
   split at h
   ·rename_i x T9 r hh
    injection h with h;injection h with h1 h2;injection h2 with h2 h3;subst h1;subst h2;subst h3
    obtain⟨c,rfl,hc⟩:=bX hh
    obtain⟨v,bO,rfl,h1,h2⟩:=oT ho
    obtain⟨bs,k1,k2,k3⟩:=NM he hc h1
    exact⟨[v],bO,bs,rfl,k1,k2,k3,h2⟩
   ·cases h
 | .st t,cs,d,ns,rest,vs,h,ho=>tC he t h ho
 | .ptr t,cs,d,ns,rest,vs,h,ho=>by cases h
 | .bZ f t,cs,d,ns,rest,vs,h,ho=>by cases h
 | .pr a b,cs,d,ns,rest,vs,h,ho=>by
   unfold rh at h
   split at h
   ·rename_i x Xg r h1
    split at h
    ·rename_i y ms r' h2
     injection h with h;injection h with e1 e2;injection e2 with e2 e3;subst e1;subst e2;subst e3
     obtain⟨v1,v2,b1,rfl,k2,k3,k4,k5⟩:=tC he a h1 ho
     obtain⟨u1,u2,b2,rfl,j2,j3,j4,j5⟩:=tC he b h2 k5
     refine⟨v1++u1,u2,b1++b2,by rw[List.append_assoc],⟨v1,u1,b1,b2,rfl,rfl,k2,j2⟩,?_,fun n hn=>?_,j5⟩
     ·rw[List.filterMap_append,k3,j3,bT,vh]
     ·rw[bT] at hn
      rcases List.mem_append.1 hn with hn|hn
      ·exact k4 n hn
      ·exact j4 n hn
    ·cases h
   ·cases h
theorem AP{vs:List Value}(h:bz V hp w [] vs):vs=[]:=by
 have:=h.1
 cases vs with
 | nil=>rfl
 | cons _ _=>cases this
theorem Iz(he:∀ n,(hp n).ok V hp w n){t:Ty}{s:S}{d:t.den}{ns:List Nat}{v:Value}(h:JW hp t s=some (d,ns))(ho:S.ok V hp w s v) :
 ∃ bs,zI (V.Z true) w t v d bs/\bs.filterMap id=fu V ns/\∀ n∈ns,Eb hp n:=by
 unfold JW at h
 split at h
 ·rename_i x
  split at h
  ·cases h
  ·rename_i gf
   split at h
   ·rename_i d' T9 hh
    injection h with h;injection h with h1 h2;subst h1;subst h2
    obtain⟨v1,v2,bs,k1,k2,k3,k4,k5⟩:=tC he t (vs:=[v]) hh ⟨rfl,fun j c u hc hu=>by
     cases j with
     | zero=>simp only[List.getElem?_cons_zero,Option.some.injEq] at hc hu;subst hc;subst hu;exact ho
     | succ j=>simp at hc⟩
    rw[AP k5,List.append_nil] at k1
    refine⟨bs,⟨v1,?_,k2⟩,k3,k4⟩
    unfold iW
    rw[if_neg gf,k1]
   ·cases h
 ·rename_i cs
  split at h
  ·rename_i gf
   split at h
   ·rename_i d' T9 hh
    injection h with h;injection h with h1 h2;subst h1;subst h2
    obtain⟨vs,e1,e2⟩:=ho
    obtain⟨v1,v2,bs,k1,k2,k3,k4,k5⟩:=tC he t hh e2
    rw[AP k5,List.append_nil] at k1
    refine⟨bs,⟨v1,?_,k2⟩,k3,k4⟩
    unfold iW
    rw[if_pos gf,e1,<-k1]
   ·cases h
  ·cases h
 ·cases h
theorem mb(he:∀ n,(hp n).ok V hp w n):∀ {ts:List Ty} {ss:List S} {d:aY ts} {ns:List Nat} {vs:List Value},pd hp ts ss=some (d,ns)->ss.length=vs.length →
 (∀(i:Nat) s v,ss[i]? = some s->vs[i]? = some v->S.ok V hp w s v)->∃ bs,dw (V.Z true) w ts vs d bs/\bs.filterMap id=fu V ns/\∀ n∈ns,Eb hp n
 | [],[],d,ns,vs,h,hl,ho=>by
   injection h with h;injection h with h1 h2;subst h2
   have:vs=[]:=by cases vs with|nil=>rfl|cons _ _=>cases hl
   exact⟨[],⟨this,rfl⟩,rfl,fun n hn=>by cases hn⟩
 | [],_::_,d,ns,vs,h,hl,ho=>by cases h
 | [t],[s],d,ns,vs,h,hl,ho=>by
   match vs,hl with
   | [v],_ =>
     obtain⟨bs,k1,k2,k3⟩:=Iz he h (ho 0 s v rfl rfl)
     exact⟨bs,⟨v,rfl,k1⟩,k2,k3⟩
 | [t],[],d,ns,vs,h,hl,ho=>by cases h
 | [t],_::_::_,d,ns,vs,h,hl,ho=>by cases h
 | t::u::r,[],d,ns,vs,h,hl,ho=>by cases h
 | t::u::r,s::ss,d,ns,vs,h,hl,ho=>by
   unfold pd at h
   split at h
   ·rename_i x Xg h1
    split at h
    ·rename_i y ms h2
     injection h with h;injection h with e1 e2;subst e1;subst e2
     match vs,hl with
     | v::bO,hl =>
       obtain⟨b1,k1,k2,k3⟩:=Iz he h1 (ho 0 s v rfl rfl)
       obtain⟨b2,j1,j2,j3⟩:=mb he h2 (vs:=bO) (by simpa using hl) (fun i s u hs hu=>ho (i+1) s u (by simpa using hs) (by simpa using hu))
       refine⟨b1++b2,⟨v,bO,b1,b2,rfl,rfl,k1,j1⟩,?_,fun n hn=>?_⟩
       ·rw[List.filterMap_append,k2,j2,bT,vh]
       ·rw[bT] at hn
        rcases List.mem_append.1 hn with hn|hn
        ·exact k3 n hn
        ·exact j3 n hn
    ·cases h
   ·cases h
theorem l8:∀ {ns:List Nat},pb ns=true->ns.Nodup
 | [],_=>List.nodup_nil
 | n::r,h=>by
   simp only[pb,Bool.and_eq_true,tt,Bool.not_eq_true',List.any_eq_false] at h
   refine List.nodup_cons.2 ⟨fun hn=>?_,l8 h.2⟩
   have:=h.1 n hn
   simp at this
theorem kt{base:Nat}{M:LM}{w0:World}(m:Mem base M w0 V hp w):∀ {ns:List Nat},ns.Nodup->(∀ n∈ns,Eb hp n)->(fu V ns).Nodup
 | [],_,_=>List.nodup_nil
 | n::r,h,hr=>by
   obtain⟨h1,h2⟩:=List.nodup_cons.1 h
   have ih:=kt m h2 (fun k hk=>hr k (List.mem_cons_of_mem _ hk))
   unfold fu
   split
   ·rename_i hh
    refine List.nodup_cons.2 ⟨fun hm=>?_,ih⟩
    obtain⟨k,k1,k2,k3⟩:=iQ hm
    obtain⟨_,_,e1⟩:=hr n (List.mem_cons_self ..)
    obtain⟨_,_,e2⟩:=hr k (List.mem_cons_of_mem _ k1)
    have:=m.fw k n (by rw[e2];rfl) (by rw[e1];rfl) k2 hh k3
    subst this
    exact h1 k1
   ·exact ih
theorem gU{base:Nat}{M:LM}{w0:World}(hT:bP P T){st:St}{a:Act}(r:Rel base M w0 V st a.tmps w):∀ {l:List ResultVar} {ss:List S},lh T st l=some ss →
 ∃ vs:List Value,ss.length=vs.length/\(∀(i:Nat) s v,ss[i]? = some s->vs[i]? = some v->S.ok V st.au w s v) ∧
  ∀ f:ResultVar->Sem Value,(∀ t,f (.tmp t)=pure (a.tmps.getD t undef))->(∀ b t,f (.cell b t)=do loadVar t (<-asAddr (a.tmps.getD b undef)))->(l.mapM f).run P w = .ok vs w
 | [],ss,h=>by injection h with h;subst h;exact⟨[],rfl,(fun i s v h=>by cases h),fun f _ _=>by simp⟩
 | x::xs,ss,h=>by
   unfold lh at h
   split at h
   ·rename_i s Ym h1 h2
    injection h with h;subst h
    obtain⟨vs,k1,k2,k3⟩:=gU hT r h2
    have one:∃ v,S.ok V st.au w s v/\∀ f:ResultVar->Sem Value,(∀ t,f (.tmp t)=pure (a.tmps.getD t undef))->(∀ b t,f (.cell b t)=do loadVar t (<-asAddr (a.tmps.getD b undef)))->(f x).run P w = .ok v w:=by
     cases x with
     | tmp t =>
       injection h1 with h1;subst h1
       exact⟨_,r.eval (.tmp t),fun f hf _=>by rw[hf,Sem.run_pure];rfl⟩
     | cell b t =>
       simp only[Sn] at h1
       split at h1
       ·rename_i m o hb
        have hv:=r.eval (.tmp b)
        rw[hb] at hv
        rw[ee] at h1
        cases hq:A2 T st.au t (.box m o) with
        | none=>rw[hq] at h1;cases h1
        | some q =>
          rw[hq] at h1
          injection h1 with h1;subst h1
          obtain⟨_,_,v,e1,e2⟩:=Da (v:=a.tmps.getD b undef) hT (gW.ck r) hq hv
          refine⟨v,e2,fun f _ hf=>?_⟩
          have hp:a.tmps.getD b undef = .pointer (some ⟨V.aE m,o,none⟩):=hv.1
          rw[hf]
          rw[hp] at e1 ⊢
          rw[<-e1]
          unfold Instr.loadAt Instr.sureAddr asAddr
          simp
       ·cases h1
    obtain⟨v,j1,j2⟩:=one
    refine⟨v::vs,by simp[k1],fun i s' u hs hu=>?_,fun f hf hc=>?_⟩
    ·cases i with
     | zero=>simp only[List.getElem?_cons_zero,Option.some.injEq] at hs hu;subst hs;subst hu;exact j1
     | succ i=>exact k2 i s' u (by simpa using hs) (by simpa using hu)
    ·rw[List.mapM_cons,Sem.run_bind,j2 f hf hc,Result.andThen_ok,Sem.run_bind,k3 f hf hc,Result.andThen_ok,Sem.run_pure]
   ·cases h
theorem hU{fn:Func}{tmps:Array Value}{w:World}{vs:List Value}(h:∀ f:ResultVar->Sem Value,(∀ t,f (.tmp t)=pure (tmps.getD t undef))->(∀ b t,f (.cell b t)=do loadVar t (<-asAddr (tmps.getD b undef)))->(fn.results.toList.mapM f).run P w = .ok vs w) :
 (results fn tmps).run P w = .ok (e_ vs) w:=by
 have hr:fn.results=fn.results.toList.toArray:=by simp
 unfold results
 rw[hr,List.mapM_toArray]
 simp only[Sem.run_bind,map_eq_pure_bind]
 rw[h _ (fun t=>rfl) (fun b t=>rfl)]
 simp only[Result.andThen_ok,Sem.run_pure]
 congr 1
 match vs with
 | []=>rfl
 | [t]=>rfl
 | t::u::r=>simp[e_]
theorem HS(hm:P.follows .mixedOrders=true)(hT:bP P T)(hΓ:dh P Γ)(hR:cj P R){f:FuncId}{fn:Func}(hf:P.funcs[f]? = some fn){c:PC}{A:aY c.ts->Nat->Option bq}
 (h:aR T Γ R fn c A):rq P f c:=by
 intro w args d hargs dD
 unfold aR at h
 split at h
 ·rename_i code hb
  have hv:=h d (sW hargs) dD
  refine calls_of_wp hf hb (u4 hm hT hΓ hR code (A d) _ _ _ _ w (r_ hargs fn.ntmps) hv (fun e A' aN a' w' hk aW=>?_))
  obtain⟨hd,V,r⟩:=aW
  have key:e ≠ .normal\/e = .normal->G3 T fn c.rs (c.F d) e aN->(∃ i,e = .exit i)\/∃ v,(results fn a'.tmps).run P w' = .ok v w'/\oD w w' c.rs v (c.F d):=by
   intro _ hp
   unfold G3 at hp
   split at hp
   ·exact hp.elim
   ·right
    split at hp
    ·rename_i ss iv
     split at hp
     ·rename_i x ns ho
      split at hp
      ·rename_i gE
       obtain⟨vs,e1,e2,e3⟩:=gU hT r iv
       refine⟨_,hU e3,?_⟩
       obtain⟨bs,k1,k2,k3⟩:=mb (vs:=vs) r.mem.ck ho e1 e2
       rw[<-hp]
       refine⟨⟨V.Z true,bs,_,rfl,k1,by rw[k2];exact kt r.mem (l8 gE) k3,fun b hb=>?_,fun b hb=>?_⟩,r.mem.kept⟩
       ·have et:b∈bs.filterMap id:=List.mem_filterMap.2 ⟨some b,hb,rfl⟩
        rw[k2] at et
        obtain⟨n,h1,h2,rfl⟩:=iQ et
        obtain⟨e,xs,h3⟩:=k3 n h1
        obtain⟨_,h4,h5⟩:=r.mem.own n (by rw[h3];rfl) h2
        exact⟨r.mem.eK n e xs h3 h2,h4,fun hz=>h5 (Vl.cN hz)⟩
       ·rcases hb with hb|⟨hb,_⟩
        ·exact r.mem.z1 b hb
        ·cases hb
      ·exact hp.elim
     ·exact hp.elim
    ·exact hp.elim
  have gS:=key (Classical.em _ |>.symm) hk
  cases e with
  | normal =>
    rcases gS with ⟨i,h⟩|⟨v,h1,h2⟩
    ·cases h
    ·exact⟨hd,v,h1,v,rfl,h2⟩
  | exit i=>exact hk.elim
  | ret =>
    rcases gS with ⟨i,h⟩|⟨v,h1,h2⟩
    ·cases h
    ·exact⟨hd,v,h1,v,rfl,h2⟩
 ·exact h.elim
end
end Go.SX
/- From a statement's arguments to data; from a contract to a statement. No condition. -/
namespace Go.SX
open Go.RowKit Go.WideShapes Go.ChangeShapes
set_option linter.unusedVariables false
set_option linter.unusedSimpArgs false
def EK(P:Program)(Qy:Ty->TypeId->Bool):Ty->List Field->Nat->Bool
 | .pr a b,f::g::r,o=>f.offset == o&&P.cellsOf f.type == a.size&&Qy a f.type&&EK P Qy b (g::r) (o+a.size)
 | t,[f],o=>f.offset == o&&P.cellsOf f.type == t.size&&Qy t f.type
 | _,_,_=>false
def yL(P:Program):Nat->Ty->TypeId->Bool
 | 0,_,_=>false
 | n+1,ty,t =>
   match ty,P.underlying t with
   | .int k,some (.int k')=>decide (k'=k)
   | .bool,some .bool=>true
   | .str,some .string=>true
   | .sl e,some (.slice te)=>P.cellsOf te == e.size&&yL P n e te
   | .st yK,some (.struct fs)=>P.cellsOf t == yK.size&&EK P (yL P n) yK fs.toList 0
   | _,_=>false
section
variable {H : Type} {enc : TypeId × Value → H} {P : Program} {w : World} {base : Nat} {spare : Nat → Bool} {held : Bool}
theorem LV{k:IntKind}{n:Int}(h:(Lit.int k n).wf=true):k.min<=n/\n<=k.max:=by
 simpa[Lit.wf] using h
theorem xZ{a:Addr}{n:Nat}{cs:List Value}(h:w.cells? base a n=some cs):cs.length=n/\∀ j,j<n->w.cell? (a.add j)=cs[j]? := by
 unfold World.cells? at h
 split at h
 ·exact⟨by simpa using mapM_some_length h,fun j hj=>mapM_some_get h j j (by simp[hj])⟩
 ·cases h
theorem Eg(b off n:Nat):(Addr.mk b off none).add n=⟨b,off+n,none⟩:=by
 unfold Addr.add
 split
 ·rename_i h;subst h;rfl
 ·rfl
theorem Qb:∀(m:Nat) (ty:Ty) (t:TypeId) (fuel:Nat) (cs:List Value) (x:DataW H×List MemPlace),yL P m ty t=true->DataW.trod enc P w base spare held fuel t cs=some x->∃ d,aF gH w ty cs d:=by
 intro m
 induction m with
 | zero=>intro ty t fuel cs x h;cases h
 | succ m ih =>
   intro ty t fuel cs x h hx
   unfold yL at h
   split at h
   ·rename_i k k' hu
    have:=of_decide_eq_true h
    subst this
    obtain⟨n,rfl,_,hw⟩:=DataW.trod_int hu hx
    exact⟨n,rfl,LV hw⟩
   ·rename_i hu
    obtain⟨b,rfl,_⟩:=DataW.trod_bool hu hx
    exact⟨b,rfl⟩
   ·rename_i hu
    obtain⟨s,rfl,_,hs⟩:=DataW.trod_string hu hx
    exact⟨s,rfl,hs⟩
   ·rename_i e te hu
    simp only[Bool.and_eq_true,beq_iff_eq] at h
    obtain⟨hc,he⟩:=h
    rcases DataW.trod_slice hu hx with ⟨rfl,_⟩|⟨a,len,cap,elems,rest,n,_,rfl,_,_,h2,h3,h4,h5,_,_⟩
    ·exact⟨[],none,0,rfl,Nat.le_refl _,Nat.zero_le _,fun i hi=>by simp at hi⟩
    ·have each:∀ i,i<len->∃ es d,w.cells? base (a.add (i*P.cellsOf te)) (P.cellsOf te)=some es/\aF gH w e es d:=by
      intro i hi
      have:=h5 i hi
      rw[List.getElem?_eq_getElem (by omega)] at this
      obtain⟨es,k1,k2⟩:=Option.bind_eq_some_iff.1 this
      obtain⟨d,hd⟩:=ih e te n es _ he k2
      exact⟨es,d,k1,hd⟩
     have list:∀ l,l<=len->∃ xs:List e.den,xs.length=l/\∀ i (hi:i<xs.length),∃ es,w.cells? base (a.add (i*P.cellsOf te)) (P.cellsOf te)=some es/\aF gH w e es xs[i]:=by
      intro l
      induction l with
      | zero=>intro _;exact⟨[],rfl,fun i hi=>by simp at hi⟩
      | succ l W5 =>
        intro hl
        obtain⟨xs,k1,k2⟩:=W5 (by omega)
        obtain⟨es,d,k3,k4⟩:=each l (by omega)
        refine⟨xs++[d],by simp[k1],fun i hi=>?_⟩
        rcases Nat.lt_or_ge i xs.length with c7|c7
        ·rw[List.getElem_append_left c7];exact k2 i c7
        ·have:i=l:=by simp at hi;omega
         subst this
         rw[List.getElem_append_right c7]
         simp only[k1,Nat.sub_self,List.getElem_cons_zero]
         exact⟨es,k3,k4⟩
     obtain⟨xs,k1,k2⟩:=list len (Nat.le_refl _)
     refine⟨xs,some a,cap,by rw[k1],by omega,by unfold cX;unfold maxLen at h3;omega,fun i hi=>?_⟩
     obtain⟨es,k3,k4⟩:=k2 i hi
     obtain⟨k5,k6⟩:=xZ k3
     have hp:=e.size_pos
     have vp:a.spot=none:=by
      obtain⟨XV,Xa,_⟩:=k2 0 (by omega)
      obtain⟨Yb,Xb⟩:=xZ Xa
      have h0:=Xb 0 (by omega)
      rw[List.getElem?_eq_getElem (by omega)] at h0
      simpa[Addr.add] using World.cell?_spot h0
     refine⟨a,rfl,vp,trivial,es,by omega,fun j hj=>?_,k4⟩
     have:=k6 j (by omega)
     rw[List.getElem?_eq_getElem hj] at this
     obtain⟨b,off,spot⟩:=a
     simp only at vp
     subst vp
     rw[<-this]
     rw[Eg,Eg,hc]
   ·rename_i yK fs hu
    simp only[Bool.and_eq_true,beq_iff_eq] at h
    obtain⟨hc,hf⟩:=h
    obtain⟨xs,n,_,_,hl,qY,UE⟩:=DataW.trod_struct hu hx
    rw[hc] at hl
    have key:∀(fl:List Field) (ty:Ty) (o:Nat),EK P (yL P m) ty fl o=true->o+ty.size<=cs.length →
     (∀ f∈fl,∃ y,DataW.trod enc P w base spare held n f.type ((cs.drop f.offset).take (P.cellsOf f.type))=some y)->∃ d,aF gH w ty ((cs.drop o).take ty.size) d:=by
     intro fl
     induction fl with
     | nil=>intro ty o h;unfold EK at h;split at h<;>first|cases h|(rename_i h0;cases h0)|(rename_i h0 _;cases h0)
     | cons f fl W4 =>
       intro ty o h ho hy
       have one:∀ {ty:Ty},(f.offset == o&&P.cellsOf f.type == ty.size&&yL P m ty f.type)=true->∃ d,aF gH w ty ((cs.drop o).take ty.size) d:=by
        intro ty h
        simp only[Bool.and_eq_true,beq_iff_eq] at h
        obtain⟨⟨h1,h2⟩,h3⟩:=h
        obtain⟨y,hy⟩:=hy f (List.mem_cons_self ..)
        rw[h1,h2] at hy
        exact ih ty f.type n _ y h3 hy
       cases fl with
       | nil=>exact one (by cases ty<;>exact h)
       | cons g r =>
         cases ty with
         | pr a b =>
           have h':(f.offset == o&&P.cellsOf f.type == a.size&&yL P m a f.type&&EK P (yL P m) b (g::r) (o+a.size))=true:=h
           rw[Bool.and_eq_true] at h'
           obtain⟨h1,h2⟩:=h'
           have cv:(Ty.pr a b).size=a.size+b.size:=rfl
           obtain⟨d1,k1⟩:=one h1
           obtain⟨d2,k2⟩:=W4 b (o+a.size) h2 (by rw[cv] at ho;omega) (fun f' Lg=>hy f' (List.mem_cons_of_mem _ Lg))
           refine⟨(d1,d2),_,_,?_,k1,k2⟩
           rw[cv,<-List.drop_drop,List.take_add]
         | _=>cases h
    obtain⟨d,hd⟩:=key fs.toList yK 0 hf (by omega) (fun f hf=>by
     obtain⟨i,hi,rfl⟩:=List.getElem_of_mem hf
     have c7:i<fs.size:=by simpa using hi
     have:=UE i (fs[i]) (Array.getElem?_eq_getElem c7)
     rw[List.getElem?_eq_getElem (by omega)] at this
     exact⟨_,by simpa using this⟩)
    rw[List.drop_zero,<-hl,List.take_length] at hd
    exact⟨d,hd⟩
   ·cases h
theorem Sm{m:Nat}{ty:Ty}{t:TypeId}{v:Value}{d:DataW H}{ps:List MemPlace}{r:Reach}{b0:Nat}(h:yL P m ty t=true)(hv:Value.okWide P w r b0 t v)(hd:DataW.Trod enc P w base spare held t v d ps) :
 ∃ x,pW gH w ty v x:=by
 obtain⟨fuel,hf⟩:=hd
 obtain⟨x,hx⟩:=Qb m ty t fuel _ _ h hf
 refine⟨x,v.cells.toList,?_,hx⟩
 unfold iW
 cases m with
 | zero=>cases h
 | succ m =>
   unfold yL at h
   split at h
   ·rename_i k k' hu
    obtain⟨n,rfl⟩:=okWide_int hu hv
    rfl
   ·rename_i hu
    obtain⟨n,rfl⟩:=okWide_bool hu hv
    rfl
   ·rename_i hu
    obtain⟨n,rfl⟩:=okWide_string hu hv
    rfl
   ·rename_i e te hu
    obtain⟨a,len,cap,rfl⟩:=okWide_slice hu hv
    rfl
   ·rename_i yK fs hu
    obtain⟨cs,rfl,_⟩:=okWide_struct hu hv
    rfl
   ·cases h
theorem Du{W W':World}(h:Kept W.heap.size pa W W'):Below W.heap.size W W' :=
 ⟨h.os,h.tape,h.output,h.size,fun k hk=>h.block k hk (fun h=>h)⟩
def Nz(ts:List Ty):PC:={ ts:=ts,rs:=[.bool],pre:=fun _=>True,F:=fun _=>true }
theorem LP{f:FuncId}{ts:List Ty}(h:rq P f (Nz ts)){W:World}{args:List Value}{d:aY ts}(ha:cG gH W ts args d) :
 Calls P f args.toArray W fun e W'=>e = .returned (.bool true)/\Below W.heap.size W W' :=
 (h W args d ha trivial).mono fun e W' hr=>by
   obtain⟨v,rfl,⟨⟨Z1,bs,vs,rfl,hv,_⟩,hk⟩⟩:=hr
   obtain⟨u,rfl,cs,h1,h2,h3⟩:=hv
   have je:cs=[u]:=h1
   have vm:cs=[.bool true]:=h2
   rw[je] at vm
   injection vm with vm _
   exact⟨by rw[vm];rfl,Du hk⟩
end
end Go.SX
/- Functions that write into the rows that their first argument holds. No condition. -/
namespace Go.SX
open Go.RowKit
set_option linter.unusedVariables false
set_option linter.unusedSimpArgs false
structure MC where
 t:Ty
 pre:t.den->Int->Prop
 F:t.den->Int->Int
 G:t.den->Int->t.den
def ax.AQ:ax->ax
 | .row _ e xs=>.row false e xs
 | e=>e
def qt(lk:Nat->ax):Nat->List ax->Option Prop
 | _,[]=>none
 | k,.row _ e ys::r=>eM (match lk k with | .row false e' xs=>(if h:e'=e then some (eW h xs=ys) else some False)|_=>some False) (qt lk (k+1) r)
 | _,_::_=>some False
section
variable {P : Program} {T : bN} {Γ : FuncId → Option PC} {R : FuncId → Option bW} {base : Nat} {M : LM} {w0 : World} {V : Vl} {hp : Nat → ax} {w w' : World}
structure Xu (p:Ty->Bool) (V:Vl) (hp:Nat->ax) (ns:List (Option Nat)) (es:List ax):Prop where
 len:ns.length=es.length
 row:∀(j n:Nat),ns[j]? = some (some n)->∃ fr e xs,hp n = .row fr e xs/\p e=true/\es[j]? = some (.row true e xs)
 nil:∀(j:Nat),ns[j]? = some none->∃ e,p e=true/\es[j]? = some (.row true e [])
structure Xv (V:Vl) (ns:List (Option Nat)) (es:List ax) (nx:Nat) (V':Vl) (aH:Nat->ax):Prop where
 au:∀(j:Nat) e xs,es[j]? = some (.row true e xs)->aH (nx+j) = .row false e xs
 row:∀(j n:Nat),ns[j]? = some (some n)->(V'.has (nx+j)↔V.has n)/\V'.aE (nx+j)=V.aE n
 nil:∀(j:Nat),ns[j]? = some none->¬V'.has (nx+j)
theorem yH{lk:Nat->ax}:∀ {es:List ax} {k:Nat},cT (qt lk k es)->∀(j:Nat) (f:Bool) (e:Ty) (ys:List e.den),es[j]? = some (.row f e ys)->lk (k+j) = .row false e ys
 | [],k,_,j,f,e,ys,h=>by cases h
 | .dead::es,k,h,_,_,_,_,_=>h.elim
 | .bx cs::es,k,h,_,_,_,_,_=>h.elim
 | .row f0 e0 Um::es,k,h,j,f,e,ys,hj=>by
   unfold qt at h
   obtain⟨h1,h2⟩:=dB.1 h
   cases j with
   | zero =>
     simp only[List.getElem?_cons_zero,Option.some.injEq,ax.row.injEq] at hj
     obtain⟨q1,q2,q3⟩:=hj
     subst q2;cases q3
     split at h1
     ·rename_i e' xs nq
      split at h1
      ·rename_i he
       subst he
       have h1:xs=Um:=h1
       rw[Nat.add_zero,nq,h1]
      ·exact h1.elim
     ·exact h1.elim
   | succ j =>
     have:=yH h2 j f e ys (by simpa using hj)
     rw[<-this];congr 1;omega
end
end Go.SX
/- slices.Delete on a row that the caller owns: the rule, and what a walk of its body must show. No condition. -/
namespace Go.SX
open Go.RowKit Go.Lib
set_option linter.unusedVariables false
set_option linter.unusedSimpArgs false
variable {P : Program}
theorem B1(w:World)(t e ty:TypeId)(z:Value)(ht:P.underlying t=some (.slice e))(hv:∀ w,(zeroValue e).run P w = .ok z w)(h1:∀ u∈z.cells,u.oneCell'=true)(fx:0<z.cells.size)(b o n c:Nat)(hn:0<n)
 (hc:∀ j,j<n*z.cells.size->(w.cell? ⟨b,o+j,none⟩).isSome=true) (hf:∀ j,j<n*z.cells.size->w.frozen? ⟨b,o+j,none⟩=false) :
 (Builtin.clear_ #[t] ty #[.slice (some ⟨b,o,none⟩) n c]).run P w = .ok (.tuple #[]) (w.setCells b o (Builtin.zeroCells z.cells n).toList):=by
 have hl:(Builtin.zeroCells z.cells n).toList.length=n*z.cells.size:=by simp[Builtin.zeroCells]
 have gf:=run_storeCells_cells (P:=P) b o (Builtin.zeroCells z.cells n).toList 0 w (by rw[hl];simpa using hc) (by rw[hl];simpa using hf) (by
  intro v cd
  simp only[Builtin.zeroCells,Array.toList_map,List.mem_map] at cd
  obtain⟨i,_,rfl⟩:=cd
  have:i%z.cells.size<z.cells.size:=Nat.mod_lt _ fx
  rw[getElem!_pos z.cells _ this]
  exact h1 _ (Array.getElem_mem this))
 simp only[Nat.add_zero] at gf
 obtain⟨m,rfl⟩:∃ m,n=m+1:=⟨n-1,by omega⟩
 simp[Builtin.clear_,run_underlying ht,hv,gf]
theorem fj(g:Nat):∀(vs:List Value) (o:Nat) (w:World),(w.setCells g o vs).heap.size=w.heap.size/\(∀ b,b≠g->(w.setCells g o vs).heap[b]? = w.heap[b]?) ∧
 (w.setCells g o vs).os=w.os/\(w.setCells g o vs).tape=w.tape/\(w.setCells g o vs).output=w.output
 | [],_,_=>⟨rfl,fun _ _=>rfl,rfl,rfl,rfl⟩
 | v::r,o,w=>by
   obtain⟨h1,h2,h3,h4,h5⟩:=fj g r (o+1) (w.setCell ⟨g,o,none⟩ v)
   refine⟨h1.trans (World.size_setCell ..),fun b hb=>(h2 b hb).trans ?_,h3,h4,h5⟩
   exact heap_setCell_other w ⟨g,o,none⟩ b v hb
theorem fi(g:Nat)(el:TypeId):∀(vs:List Value) (o:Nat) (w:World) (aq:Array Value),w.heap[g]? = some (.cells aq el (0,0))->o+vs.length<=aq.size →
 ∃ bn,(w.setCells g o vs).heap[g]? = some (.cells bn el (0,0))/\bn.size=aq.size/\∀ k,bn[k]? = if o<=k/\k<o+vs.length then vs[k-o]? else aq[k]?
 | [],o,w,aq,h,_=>⟨aq,h,rfl,fun k=>by rw[if_neg (by rw[List.length_nil];omega)]⟩
 | v::r,o,w,aq,h,hl=>by
   rw[List.length_cons] at hl
   have h1:=heap_setCell_same w g o aq el v h
   obtain⟨bn,k1,k2,k3⟩:=fi g el r (o+1) _ _ h1 (by rw[Array.size_setIfInBounds];omega)
   refine⟨bn,k1,by rw[k2];simp,fun k=>?_⟩
   rw[k3 k,List.length_cons]
   by_cases hk:o=k
   ·subst hk
    rw[if_neg (by omega),if_pos (by omega)]
    rw[Array.getElem?_setIfInBounds_self_of_lt (by omega)];simp
   ·by_cases mW:o+1<=k/\k<o+1+r.length
    ·rw[if_pos mW,if_pos (by omega),show k-o=(k-(o+1))+1 by omega]
     simp
    ·rw[if_neg mW,if_neg (by omega)]
     simp[Array.getElem?_setIfInBounds,hk]
structure Ql (P:Program) (f:FuncId) (sz:Nat):Prop where
 same:∀(v:Value) (i:Nat) (w:World),(v = .slice none 0 0/\i=0\/∃ aE n cap,v = .slice (some ⟨aE,0,none⟩) n cap/\n<=cap/\i<=n) →
  Calls P f #[v,.int .i64 i,.int .i64 i] w fun e w'=>e = .returned v/\w'=w
 cut:∀(aE n cap i j:Nat) (news:List Value) (w:World),n<=cap->i<j->j<=n->news.length=(n-j)*sz →
  (∀ t u,news[t]? = some u->w.cell? ⟨aE,j*sz+t,none⟩=some u)->(∀ u∈news,u.oneCell'=true) →
  (∀ t,t<n*sz->(w.cell? ⟨aE,t,none⟩).isSome=true/\w.frozen? ⟨aE,t,none⟩=false) →
  Calls P f #[.slice (some ⟨aE,0,none⟩) n cap,.int .i64 i,.int .i64 j] w fun e w'=>e = .returned (.slice (some ⟨aE,0,none⟩) (i+(n-j)) cap) ∧
   ∃ zs:List Value,zs.length=(n-(i+(n-j)))*sz/\w'=(w.drew.setCells aE (i*sz) news).setCells aE ((i+(n-j))*sz) zs
def s5(e:Ty):bW:=fun ss st K =>
 match ss with
 | [.c (.own m),.c (.val (.int .i64 i)),.c (.val (.int .i64 j))] =>
   match st.au m with
   | .row true e' xs =>
     if e'.cc=e.cc then
      (0<=i/\i<=j/\j<=(xs.length:Nat)) ∧
        K (.c (.own m)) { (st.map (bB m)) with hp:=bD (st.map (bB m)).hp m (.row true e' (xs.take i.toNat++xs.drop j.toNat)) }
     else False
   | _=>False
 | _=>False
theorem fS{w:World}{g:Nat}{aq:Array Value}{el:TypeId}(h:w.heap[g]? = some (.cells aq el (0,0)))(j:Nat):w.cell? ⟨g,j,none⟩=aq[j]? ∧ w.frozen? ⟨g,j,none⟩=false:=by
 constructor
 ·simp[World.cell?,h]
 ·simp[World.frozen?,h]
theorem MZ {f : FuncId} {e : Ty} (D : Ql P f e.size) : fO P f (s5 e) := by
  intro base M w0 V st ts w ss vs K r hlen iv hr
  unfold s5 at hr
  split at hr
  case h_2 => exact hr.elim
  rename_i m i j
  split at hr
  case h_2 => exact hr.elim
  rename_i e' xs hm
  split at hr
  case isFalse => exact hr.elim
  rename_i he
  have Nn : e.size = e'.size := by rw [← bJ e, ← he, bJ e']
  rw [Nn] at D
  obtain ⟨⟨nk, Ik, E3⟩, hK⟩ := hr
  obtain ⟨v0, v1, v2, rfl⟩ : ∃ v0 v1 v2, vs = [v0, v1, v2] := by
    match vs, hlen with
    | [a, b, c], _ => exact ⟨a, b, c, rfl⟩
  have k0 := iv 0 _ _ rfl rfl
  have k1 := iv 1 _ _ rfl rfl
  have k2 := iv 2 _ _ rfl rfl
  obtain ⟨rfl, _⟩ := (k1 : v1 = .int .i64 i ∧ _)
  obtain ⟨rfl, _⟩ := (k2 : v2 = .int .i64 j ∧ _)
  obtain ⟨Vi, e9, Pe, Aw, cY⟩ := k0
  rw [hm] at Aw
  injection Aw with q1 q2 q3
  subst q1; subst q2
  have q3 := eq_of_heq q3
  subst q3
  obtain ⟨i, rfl⟩ := Int.eq_ofNat_of_zero_le nk
  obtain ⟨j, rfl⟩ := Int.eq_ofNat_of_zero_le (show 0 ≤ j by omega)
  simp only [Int.toNat_natCast] at hK
  have XF : i ≤ j := by omega
  have Rj : j ≤ xs.length := by omega
  have CV := r.mem.ck m
  rw [hm] at CV
  have hl : (st.au m).live = true := by rw [hm]; rfl
  have aZ : m < st.hp.length := gP hl
  have dS : (St.mk (st.map (bB m)).ts (bD (st.map (bB m)).hp m (.row true e' (xs.take i ++ xs.drop j)))).au m = .row true e' (xs.take i ++ xs.drop j) := by
    rw [gj (by show m < (lmap _ _).length; rw [bt, List.length_map]; exact aZ)]
    simp only [az, if_true]
  have nr : (xs.take i ++ xs.drop j).length = i + (xs.length - j) := by rw [List.length_append, List.length_take, List.length_drop]; omega
  by_cases heq : i = j
  · subst heq
    have jY : xs.take i ++ xs.drop i = xs := List.take_append_drop i xs
    rw [jY] at hK dS
    refine (D.same v0 i w ?_).mono ?_
    · rcases cY with ⟨h1, h2, h3⟩ | ⟨h1, cap, aq, el, h2, h3, h4, h5⟩
      · exact .inl ⟨h2, by omega⟩
      · exact .inr ⟨_, _, _, h2, h5, Rj⟩
    · rintro e1 w1 ⟨rfl, rfl⟩
      refine ⟨v0, rfl, V, _, _, hK, ?_, ⟨true, e', xs, dS, cY⟩⟩
      refine qq r hm r.mem.kept (Nat.le_refl _) (fun _ _ _ => rfl) (fun _ _ => ⟨rfl, Iff.rfl⟩) rfl rfl (fun aH _ => CV) (fun hh => ?_) (fun _ hh => r.mem.eK m e' xs hm hh) (fun h _ => False.elim h) (fun _ q hq => by cases hq)
      obtain ⟨q1, q2, _⟩ := r.mem.own m hl hh
      exact ⟨q1, q2, .inr ⟨hh, rfl⟩⟩
  · have uz : i < j := by omega
    rcases cY with ⟨h1, h2, h3⟩ | ⟨h1, cap, aq, el, h2, h3, h4, h5⟩
    · omega
    rcases CV with ⟨g1, _⟩ | ⟨_, de, jP, g2, g3, g4⟩
    · exact absurd h1 g1
    rw [h3] at g2
    injection g2 with g2
    injection g2 with QV QW _
    subst QV; subst QW
    have cv : ∀ a, a ≤ xs.length → a * e'.size ≤ aq.size := fun a ha => by rw [h4]; exact Nat.mul_le_mul_right _ (by omega)
    -- the cells that move
    obtain ⟨news, xq⟩ : ∃ news, news = (aq.toList.drop (j * e'.size)).take ((xs.length - j) * e'.size) := ⟨_, rfl⟩
    have X5 : j * e'.size + (xs.length - j) * e'.size = xs.length * e'.size := by rw [← Nat.add_mul]; congr 1; omega
    have kr : news.length = (xs.length - j) * e'.size := by
      have vq : aq.toList.length = aq.size := Array.length_toList
      rw [xq, List.length_take, List.length_drop, vq]
      have := cv xs.length (Nat.le_refl _)
      omega
    have Jw : ∀ t, t < (xs.length - j) * e'.size → news[t]? = aq[j * e'.size + t]? := by
      intro t ht
      rw [xq, List.getElem?_take, if_pos ht, List.getElem?_drop, Array.getElem?_toList]
    have kO : ∀ u ∈ news, u.oneCell' = true := by
      intro u hu
      obtain ⟨t, hu⟩ := List.mem_iff_getElem?.1 hu
      have ht := (List.getElem?_eq_some_iff.1 hu).1
      rw [kr] at ht
      rw [Jw t ht] at hu
      have fx := e'.size_pos
      have hx : j + t / e'.size < xs.length := by
        have := (Nat.div_lt_iff_lt_mul fx).2 ht
        omega
      obtain ⟨es, p1, p2, p3⟩ := g4 (j + t / e'.size) hx
      have sC : t % e'.size < es.length := by rw [p1]; exact Nat.mod_lt _ fx
      have := p2 (t % e'.size) _ (List.getElem?_eq_getElem sC)
      rw [show (j + t / e'.size) * e'.size + t % e'.size = j * e'.size + t by rw [Nat.add_mul, Nat.add_assoc, Nat.div_add_mod']] at this
      rw [this] at hu
      injection hu with hu
      subst hu
      exact p3.cO _ (List.getElem_mem sC)
    rw [h2]
    refine (D.cut (V.aE m) xs.length cap i j news w h5 uz Rj kr (fun t u hu => ?_) kO (fun t ht => ?_)).mono ?_
    · have ht := (List.getElem?_eq_some_iff.1 hu).1
      rw [kr] at ht
      rw [(fS h3 _).1, ← Jw t ht]; exact hu
    · have := cv xs.length (Nat.le_refl _)
      refine ⟨?_, (fS h3 _).2⟩
      rw [(fS h3 _).1, Array.getElem?_eq_getElem (by omega)]; rfl
    · rintro e1 w1 ⟨rfl, zs, W3, rfl⟩
      have rQ : i * e'.size + news.length ≤ aq.size := by
        rw [kr, ← Nat.add_mul]; exact cv _ (by omega)
      obtain ⟨va, a1, a2, a3⟩ := fi (V.aE m) el news (i * e'.size) w.drew aq h3 rQ
      obtain ⟨vb, b1, b2, b3⟩ := fi (V.aE m) el zs ((i + (xs.length - j)) * e'.size) _ va a1 (by rw [W3, a2, ← Nat.add_mul]; exact cv _ (by omega))
      obtain ⟨c1, c2, c3, c4, c5⟩ := fj (V.aE m) news (i * e'.size) w.drew
      obtain ⟨d1, d2, d3, d4, d5⟩ := fj (V.aE m) zs ((i + (xs.length - j)) * e'.size) (w.drew.setCells (V.aE m) (i * e'.size) news)
      have Ay : ∀ b, b ≠ V.aE m → ((w.drew.setCells (V.aE m) (i * e'.size) news).setCells (V.aE m) ((i + (xs.length - j)) * e'.size) zs).heap[b]? = w.heap[b]? := fun b hb => (d2 b hb).trans (c2 b hb)
      obtain ⟨o1, o2, o3⟩ := r.mem.own m hl h1
      refine ⟨_, rfl, V, _, _, hK, ?_, ⟨true, e', _, dS, .inr ⟨h1, cap, vb, el, by rw [nr], b1, by rw [b2, a2, h4], by rw [nr]; omega⟩⟩⟩
      refine qq r hm ?_ (by rw [d1, c1]; exact Nat.le_refl _) (fun b _ hb => Ay b (hb h1)) (fun _ _ => ⟨rfl, Iff.rfl⟩) rfl rfl (fun aH _ => ?_) (fun hh => ⟨o1, by rw [d1, c1]; exact o2, .inr ⟨hh, rfl⟩⟩) (fun _ hh => r.mem.eK m e' xs hm hh) (fun h _ => False.elim h) (fun _ q hq => by cases hq)
      · refine ⟨d3.trans (c3.trans r.mem.kept.os), d4.trans (c4.trans r.mem.kept.tape), d5.trans (c5.trans r.mem.kept.output), by rw [d1, c1]; exact r.mem.kept.size, fun b hb hM => ?_, fun b se CF hb hM Il => ?_⟩
        · rw [Ay b (fun e => by subst e; rcases o1 with h | h; omega; exact hM h)]
          exact r.mem.kept.block b hb hM
        · obtain ⟨xE, x7, j1, j2⟩ := r.mem.kept.shape b se CF hb hM Il
          by_cases v5 : b = V.aE m
          · subst v5
            rw [h3] at j1
            injection j1 with j1
            injection j1 with j1 _ _
            subst j1
            exact ⟨vb, el, b1, by rw [b2, a2]; exact j2⟩
          · exact ⟨xE, x7, by rw [Ay b v5]; exact j1, j2⟩
      · refine .inr ⟨h1, vb, el, b1, by rw [nr]; omega, fun x hx => ?_⟩
        rw [nr] at hx
        have CQ : ∀ {f : Bool} {b : Nat}, V.Z f b → ((w.drew.setCells (V.aE m) (i * e'.size) news).setCells (V.aE m) ((i + (xs.length - j)) * e'.size) zs).heap[b]? = w.heap[b]? := fun hb => Ay _ (fun e => by subst e; exact o3 (Vl.cN hb))
        have DX : ∀ k, k < e'.size → vb[x * e'.size + k]? = aq[(if x < i then x else x + (j - i)) * e'.size + k]? := by
          intro k hk
          have Ya : x * e'.size + k < (i + (xs.length - j)) * e'.size := by
            have : (x + 1) * e'.size ≤ (i + (xs.length - j)) * e'.size := Nat.mul_le_mul_right _ (by omega)
            rw [Nat.add_mul, Nat.one_mul] at this
            omega
          rw [b3, if_neg (by omega), a3]
          by_cases Fk : x < i
          · have : (x + 1) * e'.size ≤ i * e'.size := Nat.mul_le_mul_right _ (by omega)
            rw [Nat.add_mul, Nat.one_mul] at this
            rw [if_neg (by omega), if_pos Fk]
          · have h6 : i * e'.size ≤ x * e'.size := Nat.mul_le_mul_right _ (by omega)
            have h7 : (i + (xs.length - j)) * e'.size = i * e'.size + news.length := by rw [kr, Nat.add_mul]
            rw [if_pos (by omega), if_neg Fk, Jw _ (by omega)]
            congr 1
            rw [show x + (j - i) = j + (x - i) by omega, Nat.add_mul, show x * e'.size = i * e'.size + (x - i) * e'.size by rw [← Nat.add_mul]; congr 1; omega]
            omega
        obtain ⟨es, p1, p2, p3⟩ := g4 (if x < i then x else x + (j - i)) (by split <;> omega)
        refine ⟨es, p1, fun k u hu => ?_, ?_⟩
        · have hk := (List.getElem?_eq_some_iff.1 hu).1
          rw [DX k (by omega)]
          exact p2 k u hu
        · have RO : (xs.take i ++ xs.drop j)[x]'(by omega) = xs[if x < i then x else x + (j - i)]'(by split <;> omega) := by
            rw [List.getElem_append]
            by_cases Fk : x < i
            · simp only [List.length_take, Fk]
              rw [dif_pos (by omega)]
              simp
            · rw [dif_neg (by rw [List.length_take]; omega)]
              simp only [List.getElem_drop, Fk, if_false]
              congr 1
              rw [List.length_take]
              omega
          rw [RO]
          exact p3.mono (fun b hb => hb) (fun b hb => CQ hb)
end Go.SX
/- A function that cuts places off the end of a row that its caller owns: the rule, and what is owed of its code. No condition. -/
namespace Go.SX
open Go.RowKit
set_option linter.unusedVariables false
set_option linter.unusedSimpArgs false
structure CC where
 e:Ty
 F:List e.den->Nat
section
variable {P : Program} {T : bN} {Γ : FuncId → Option PC} {R : FuncId → Option bW} {base : Nat} {M : LM} {w0 : World} {V : Vl} {hp : Nat → ax} {w w' : World}
end
end Go.SX
/- Functions that write the box behind their first argument, or hand back the address of a new one. No condition. -/
namespace Go.SX
open Go.RowKit
set_option linter.unusedVariables false
set_option linter.unusedSimpArgs false
structure BC where
 t:Ty
 ts:List Ty
 rs:List Ty
 pre:t.den->aY ts->Prop
 F:t.den->aY ts->aY rs
 G:t.den->aY ts->t.den
 drop:Bool
structure NC where
 t:Ty
 ts:List Ty
 rs:List Ty
 pre:aY ts->Prop
 F:aY ts->aY rs
 G:aY ts->t.den
def lO(t:Ty)(d:t.den)(ts:List Ty)(x:aY ts)(ntmps:Nat):St :=
 { ts:=.c (.box 0 0)::cM (eV ts x) (kQ .ew (ntmps-(aL ts+1))),hp:=[.bx (expand false t d)] }
def cg:List S->List Nat
 | []=>[]
 | .c x::r=>cM (ji [x]) (cg r)
 | .agg cs::r=>cM (ji cs) (cg r)
 | _::r=>cg r
def z8(nx:Nat):List (Bool×List C)->S
 | []=>.c (.box nx 0)
 | l=>.m_ ((false,[.box nx 0])::l)
section
variable {P : Program} {T : bN} {Γ : FuncId → Option PC} {R : FuncId → Option bW} {base : Nat} {M : LM} {w0 : World} {V : Vl} {hp : Nat → ax} {w w' : World}
theorem Cv{hp:Nat->ax}{t:Ty}{v:Value}{d:t.den}(h:pW (V.Z false) w t v d):S.ok V hp w (Bq t d) v:=by
 obtain⟨cs,h1,hr⟩:=h
 have ho:=gg (V:=V) (hp:=hp) false t hr
 unfold Bq kR
 unfold iW at h1
 cases gf:jt t with
 | true =>
   rw[gf] at h1
   simp only[if_true] at h1 ⊢
   exact⟨cs.toArray,h1,by simpa using ho⟩
 | false =>
   rw[gf] at h1
   simp only[Bool.false_eq_true,if_false] at h1 ⊢
   subst h1
   have hl:=ho.1
   split
   ·rename_i c hc
    rw[hc] at ho
    exact ho.2 0 c v rfl rfl
   ·rename_i hc
    exfalso
    match hx:expand false t d with
    | []=>rw[hx] at hl;cases hl
    | [c]=>exact hc c hx
    | _::_::_=>rw[hx] at hl;simp at hl
theorem tR{hp:Nat->ax}:∀ {ts:List Ty} {vs:List Value} {d:aY ts},cG (V.Z false) w ts vs d->(eV ts d).length=vs.length/\vs.length=ts.length ∧
 ∀(i:Nat) s v,(eV ts d)[i]? = some s->vs[i]? = some v->S.ok V hp w s v
 | [],vs,d,h=>by rw[show vs=[] from h];exact⟨rfl,rfl,fun i s v h=>by cases h⟩
 | [t],vs,d,h=>by
   obtain⟨v,rfl,h2⟩:=h
   refine⟨rfl,rfl,fun i s u hs hu=>?_⟩
   cases i with
   | zero =>
     simp only[eV,List.getElem?_cons_zero,Option.some.injEq] at hs hu
     subst hs;subst hu
     exact Cv h2
   | succ i=>simp[eV] at hs
 | t::u::r,vs,d,h=>by
   obtain⟨v,bO,rfl,h2,h3⟩:=h
   obtain⟨k1,k2,k3⟩:=tR (hp:=hp) h3
   refine⟨by simp[eV,k1],by simp[k2],fun i s x hs hx=>?_⟩
   cases i with
   | zero =>
     simp only[eV,List.getElem?_cons_zero,Option.some.injEq] at hs hx
     subst hs;subst hx
     exact Cv h2
   | succ i=>exact k3 i s x (by simpa[eV] using hs) (by simpa using hx)
theorem yQ{Z:Nat->Prop}:∀ {ts:List Ty} {vs:List Value} {d:aY ts},cG Z w ts vs d->gB ts d
 | [],_,_,_=>trivial
 | [t],vs,d,h=>by obtain⟨v,_,cs,_,h2⟩:=h;exact h2.wf
 | t::u::r,vs,d,h=>by
   obtain⟨v,bO,_,⟨cs,_,h2⟩,h3⟩:=h
   exact⟨h2.wf,yQ h3⟩
theorem Dc{lk:Nat->ax}{t:Ty}{s:S}{d:t.den}{v:Value}(h:lu lk t s=some d)(ho:S.ok V hp w s v)(h1:s.dI=true):pW (V.Z false) w t v d:=by
 unfold lu at h
 split at h
 ·rename_i x
  split at h
  ·cases h
  ·rename_i gf
   refine⟨[v],by unfold iW;rw[if_neg gf],eP h (bd ho ca) (fun c hc=>?_)⟩
   simp at hc;subst hc
   exact⟨h1,fun h=>by cases h⟩
 ·rename_i cs
  split at h
  ·rename_i gf
   obtain⟨vs,e1,e2⟩:=ho
   refine⟨vs.toList,by unfold iW;rw[if_pos gf,e1],eP h e2 (fun c hc=>⟨?_,fun h=>by cases h⟩)⟩
   have je:df C.dI cs=true:=h1
   rw[dG,List.all_eq_true] at je
   exact je c hc
  ·cases h
 ·cases h
theorem pN{lk:Nat->ax}:∀(ts:List Ty) {ss:List S} {d:aY ts} {vs:List Value},dP lk ts ss=some d->ss.length=vs.length →
 (∀(i:Nat) s v,ss[i]? = some s->vs[i]? = some v->S.ok V hp w s v)->(∀ s∈ss,s.dI=true)->cG (V.Z false) w ts vs d
 | [],[],d,vs,_,hl,_,_=>by cases vs with|nil=>rfl|cons _ _=>cases hl
 | [],_::_,d,vs,h,_,_,_=>by cases h
 | [t],[s],d,vs,h,hl,ho,hn=>by
   match vs,hl with
   | [v],_=>exact⟨v,rfl,Dc h (ho 0 s v rfl rfl) (hn s (List.mem_cons_self ..))⟩
 | [t],[],d,vs,h,_,_,_=>by cases h
 | [t],_::_::_,d,vs,h,_,_,_=>by cases h
 | t::u::r,[],d,vs,h,_,_,_=>by cases h
 | t::u::r,s::ss,d,vs,h,hl,ho,hn=>by
   unfold dP at h
   split at h
   ·rename_i x h1
    split at h
    ·rename_i y h2
     injection h with h;subst h
     match vs,hl with
     | v::bO,hl =>
       exact⟨v,bO,rfl,Dc h1 (ho 0 s v rfl rfl) (hn s (List.mem_cons_self ..)),
        pN (u::r) h2 (by simpa using hl) (fun i s v hs hv=>ho (i+1) s v (by simpa using hs) (by simpa using hv)) (fun s hs=>hn s (List.mem_cons_of_mem _ hs))⟩
    ·cases h
   ·cases h
theorem xB{a b:List S}{h:List ax}{ts:Array Value}{us:List Value}(r:Rel base M w0 V ⟨a,h⟩ ts w)(hl:b.length=us.length)(ho:∀(i:Nat) s v,b[i]? = some s->us[i]? = some v->S.ok V (St.mk a h).au w s v) :
 Rel base M w0 V ⟨a++b,h⟩ (ts++us.toArray) w:=by
 have hlen:a.length=ts.size:=r.len
 refine⟨by show (a++b).length=_;simp[hlen,hl],fun i s v hs hv=>?_,r.mem⟩
 have aW:(a++b)[i]? = some s:=hs
 rcases Nat.lt_or_ge i a.length with hi|hi
 ·rw[List.getElem?_append_left hi] at aW
  rw[Array.getElem?_append_left (by omega)] at hv
  exact r.fI i s v aW hv
 ·rw[List.getElem?_append_right hi] at aW
  rw[Array.getElem?_append_right (by omega),<-hlen] at hv
  exact ho _ s v aW (by simpa using hv)
theorem r7{a b:List S}{h:List ax}{ts:Array Value}{us:List Value}(r:Rel base M w0 V ⟨a++b,h⟩ (ts++us.toArray) w)(hlen:a.length=ts.size) :
 Rel base M w0 V ⟨a,h⟩ ts w/\b.length=us.length/\∀(i:Nat) s v,b[i]? = some s->us[i]? = some v->S.ok V (St.mk a h).au w s v:=by
 have hl:(a++b).length=(ts++us.toArray).size:=r.len
 refine⟨⟨hlen,fun i s v hs hv=>?_,r.mem⟩,by simp at hl;omega,fun i s v hs hv=>?_⟩
 ·have aW:a[i]? = some s:=hs
  have hi:=(List.getElem?_eq_some_iff.1 aW).1
  exact r.fI i s v (by show (a++b)[i]? = _;rw[List.getElem?_append_left hi];exact aW) (by rw[Array.getElem?_append_left (by omega)];exact hv)
 ·refine r.fI (a.length+i) s v ?_ ?_
  ·show (a++b)[a.length+i]? = _
   rw[List.getElem?_append_right (by omega)]
   simpa using hs
  ·rw[Array.getElem?_append_right (by omega),<-hlen]
   simpa using hv
theorem Jn(a b:List S)(h:List ax)(m:Nat):(St.mk (a++b) h).freeze m=⟨((St.mk a h).freeze m).ts++((St.mk b h).freeze m).ts,((St.mk a h).freeze m).hp⟩/\((St.mk b h).freeze m).hp=((St.mk a h).freeze m).hp:=by
 have e1:(St.mk (a++b) h).au m=(St.mk a h).au m:=rfl
 have e2:(St.mk b h).au m=(St.mk a h).au m:=rfl
 unfold St.freeze
 rw[e1,e2]
 cases (St.mk a h).au m with
 | dead=>exact⟨rfl,rfl⟩
 | bx cs=>exact⟨rfl,rfl⟩
 | row fr e xs =>
   refine⟨?_,rfl⟩
   show St.mk (lmap _ (a++b)) _=St.mk (lmap _ a++lmap _ b) _
   rw[bt,bt,bt,List.map_append]
   rfl
theorem oP:∀(ns:List Nat) (a b:List S) (h:List ax),(St.mk (a++b) h).ba ns=⟨((St.mk a h).ba ns).ts++((St.mk b h).ba ns).ts,((St.mk a h).ba ns).hp⟩/\((St.mk b h).ba ns).hp=((St.mk a h).ba ns).hp
 | [],a,b,h=>⟨rfl,rfl⟩
 | n::ns,a,b,h=>by
   obtain⟨h1,h2⟩:=Jn a b h n
   show ((St.mk (a++b) h).freeze n).ba ns=⟨(((St.mk a h).freeze n).ba ns).ts++(((St.mk b h).freeze n).ba ns).ts,(((St.mk a h).freeze n).ba ns).hp⟩/\(((St.mk b h).freeze n).ba ns).hp=(((St.mk a h).freeze n).ba ns).hp
   rw[h1]
   generalize hx:(St.mk a h).freeze n=x at h2
   generalize hy:(St.mk b h).freeze n=y at h2
   obtain⟨xa,xh⟩:=x
   obtain⟨yb,yh⟩:=y
   simp only at h2
   subst h2
   exact oP ns xa yb yh
theorem Jo(st:St)(m:Nat):(st.freeze m).ts.length=st.ts.length/\(st.freeze m).hp.length=st.hp.length:=by
 unfold St.freeze
 split
 ·refine⟨?_,?_⟩
  ·show (lmap _ _).length=_;rw[bt,List.length_map]
  ·show (bD (lmap _ _) _ _).length=_;rw[eS,List.length_set,bt,List.length_map]
 ·exact⟨rfl,rfl⟩
theorem g_:∀(ns:List Nat) (st:St),(st.ba ns).ts.length=st.ts.length/\(st.ba ns).hp.length=st.hp.length
 | [],st=>⟨rfl,rfl⟩
 | n::ns,st=>by
   obtain⟨h1,h2⟩:=g_ ns (st.freeze n)
   obtain⟨g1,g2⟩:=Jo st n
   exact⟨h1.trans g1,h2.trans g2⟩
theorem K4(st:St)(n:Nat){m:Nat}(h:(st.au m).lK=true):((st.freeze n).au m).lK=true:=by
 unfold St.freeze
 split
 ·rename_i fr e xs hn
  have bb:m≠n:=fun e=>by subst e;rw[hn] at h;cases h
  rw[gj (by show n<(lmap _ _).length;rw[bt,List.length_map];exact gP (by rw[hn];rfl))]
  simp only[az,if_neg bb]
  show ((st.map (cV n fr e xs)).au m).lK=true
  rw[il]
  show ((st.au m).map _).lK=true
  rw[n7];exact h
 ·exact h
theorem Ao:∀(ns:List Nat) (st:St) {m:Nat},(st.au m).lK=true->((st.ba ns).au m).lK=true
 | [],st,m,h=>h
 | n::ns,st,m,h=>Ao ns (st.freeze n) (K4 st n h)
theorem C6{Z:Nat->Prop}:∀ {t:Ty} {cs:List Value} {d:t.den} {bs:List (Option Nat)},fQ Z w t cs d bs->(∀ b,Z b->w'.heap[b]? = w.heap[b]?)->(∀ b,some b∈bs->w'.heap[b]? = w.heap[b]?)->fQ Z w' t cs d bs:=by
 intro t
 induction t with
 | int k=>intro cs d bs h hz hb;exact⟨h.1.mono (fun _ h=>h) hz,h.2⟩
 | bool=>intro cs d bs h hz hb;exact⟨h.1.mono (fun _ h=>h) hz,h.2⟩
 | str=>intro cs d bs h hz hb;exact⟨h.1.mono (fun _ h=>h) hz,h.2⟩
 | sl e ih =>
   intro cs xs bs h hz hb
   rcases h with h|⟨b,cap,aq,el,h1,h2,h3,h4,h5,h6,h7⟩
   ·exact .inl h
   ·refine .inr ⟨b,cap,aq,el,h1,h2,by rw[hb b (by rw[h2];simp)];exact h3,h4,h5,h6,fun i hi=>?_⟩
    obtain⟨es,k1,k2,k3⟩:=h7 i hi
    exact⟨es,k1,k2,k3.mono (fun _ h=>h) hz⟩
 | st t ih=>exact fun h=>ih h
 | pr a b fy fA =>
   intro cs d bs h hz hb
   obtain⟨c1,c2,b1,b2,h1,h2,h3,h4⟩:=h
   exact⟨c1,c2,b1,b2,h1,h2,fy h3 hz (fun b et=>hb b (by rw[h2];exact List.mem_append_left _ et)),fA h4 hz (fun b et=>hb b (by rw[h2];exact List.mem_append_right _ et))⟩
 | ptr t ih=>intro cs d bs h;exact h.elim
 | bZ f t ih=>intro cs d bs h;exact h.elim
 | gs wh e ih=>intro cs d bs h;exact h.elim
theorem wA{Z:Nat->Prop}:∀ {ts:List Ty} {vs:List Value} {d:aY ts} {bs:List (Option Nat)},dw Z w ts vs d bs->(∀ b,Z b->w'.heap[b]? = w.heap[b]?)->(∀ b,some b∈bs->w'.heap[b]? = w.heap[b]?)->dw Z w' ts vs d bs
 | [],_,_,_,h,_,_=>h
 | [t],vs,d,bs,h,hz,hb=>by obtain⟨v,h1,cs,h2,h3⟩:=h;exact⟨v,h1,cs,h2,C6 h3 hz hb⟩
 | t::u::r,vs,d,bs,h,hz,hb=>by
   obtain⟨v,bO,b1,b2,h1,h2,⟨cs,h3,h4⟩,h5⟩:=h
   exact⟨v,bO,b1,b2,h1,h2,⟨cs,h3,C6 h4 hz (fun b et=>hb b (by rw[h2];exact List.mem_append_left _ et))⟩,wA h5 hz (fun b et=>hb b (by rw[h2];exact List.mem_append_right _ et))⟩
theorem uv(m:Mem base M w0 V hp w){nx:Nat}{rs:List Ty}{d:aY rs}{Z1:Nat->Prop}{bs:List (Option Nat)}{vs:List Value}(h1:dw Z1 w' rs vs d bs)(h2:(bs.filterMap id).Nodup)
 (h3:∀ b,some b∈bs->w.heap.size<=b/\b<w'.heap.size/\¬Z1 b) (h4:∀ b,Z1 b->w.heap.size<=b/\b<w'.heap.size) (hk:Kept w.heap.size pa w w') (hd:∀ j,j<(bR rs d nx).2.length->hp (nx+j) = .dead) :
 Good base M w0 V hp w nx (bR rs d nx).1 (bR rs d nx).2 (pI rs d) (e_ vs) w' (V.ext nx bs Z1):=by
 have hlen:=Ap nx h1
 have x:=VX.l_ m hk (nx:=nx) (es:=(bR rs d nx).2) (bs:=bs) (Z:=Z1) hlen.symm hd
 have hl:lA (V.ext nx bs Z1) (db hp nx (bR rs d nx).2) Z1 nx (bR rs d nx).2 bs:=⟨fun j b hb=>Vl.fY hb,fun j b hb=>Vl.g9 hb,fun j e he=>jZ he,fun b hb=>.inr hb⟩
 obtain⟨g1,g2⟩:=CL h1 hl
 refine⟨m.grow hk hlen.symm hd h2 h3 h4 (fun j cs hj=>?_) (fun j e he=>g2 j e he) (sA rs d nx),x,g1,fun p aH=>?_⟩
 ·exact (ur rs d nx _ (List.mem_of_getElem? hj) cs rfl).elim
 ·unfold pI at aH
  split at aH
  ·injection aH with aH;subst aH;exact fX h1
  ·cases aH
structure IV (w w':World) (B n:Nat) (Z:Nat->Prop) (t:Ty) (rs:List Ty) (v:Value) (out:aY rs) (g:t.den):Prop where
 ex:∃(Z1:Nat->Prop) (bs:List (Option Nat)) (vs:List Value),v=e_ vs/\dw Z1 w' rs vs out bs/\(bs.filterMap id).Nodup ∧
  (∀ b,some b∈bs->w.heap.size<=b/\b<w'.heap.size/\¬Z1 b)/\(∀ b,Z1 b->w.heap.size<=b/\b<w'.heap.size) ∧
  ∃ bn eg,w'.heap[B]? = some (.cells bn eg (0,0))/\bn.size=n/\aF (fun b=>Z b\/Z1 b) w' t bn.toList g
 os:w'.os=w.os/\w'.tape=w.tape/\w'.output=w.output
 size:w.heap.size<=w'.heap.size
 block:∀ b,b<w.heap.size->b≠B->w'.heap[b]? = w.heap[b]?
end
end Go.SX
/- Functions that write the box behind their first argument: the rule. No condition. -/
namespace Go.SX
open Go.RowKit
set_option linter.unusedVariables false
set_option linter.unusedSimpArgs false
section
variable {P : Program} {T : bN} {Γ : FuncId → Option PC} {R : FuncId → Option bW} {base : Nat} {M : LM} {w0 : World} {V : Vl} {hp : Nat → ax} {w w' : World}
theorem MP{st:St}{ts:Array Value}(r:Rel base M w0 V st ts w){m:Nat}{cs:List C}(hm:st.au m = .bx cs){aq:Array Value}{el:TypeId}(hB:w.heap[V.aE m]? = some (.cells aq el (0,0)))
 {Z:Nat->Prop} {t:Ty} {rs:List Ty} {v:Value} {out:aY rs} {g:t.den} (ok:IV w w' (V.aE m) aq.size Z t rs v out g) {cp:List C}
 (eH:∀(V':Vl) (aH:Nat->ax) (w1:World) (bO:List Value) (Z1:Nat->Prop),(∀ b,Z1 b->V'.Z false b)->(∀ b,V.Z false b->V'.Z false b)->aF (fun b=>Z b\/Z1 b) w' t bO g->bO.length=aq.size->(∀ b,Z b\/Z1 b->b≠V.aE m->w1.heap[b]? = w'.heap[b]?)->(∀ b,Z1 b->b≠V.aE m)->bz V' aH w1 cp bO) :
 ∃ V',(∀ p,pI rs out=some p->p)/\Rel base M w0 V' { (st.alloc (bR rs out (aL st.hp)).2) with hp:=bD (st.alloc (bR rs out (aL st.hp)).2).hp m (.bx cp) } ts w' ∧
  S.ok V' (St.mk st.ts (bD (st.alloc (bR rs out (aL st.hp)).2).hp m (.bx cp))).au w' (bR rs out (aL st.hp)).1 v:=by
 have mm:=r.mem
 have sB:=mm.box m cs hm
 obtain⟨o1,o2,o3⟩:=mm.own m (by rw[hm];rfl) sB
 obtain⟨⟨Z1,bs,vs,rfl,h1,h2,h3,h4,bn,eg,h5,h6,h7⟩,Rw,cv,iN⟩:=ok
 generalize Vo:V.aE m=B at *
 let w1:World:={ w' with heap:=w'.heap.setIfInBounds B (.cells aq el (0,0)) }
 have eI:∀ b,b≠B->w1.heap[b]? = w'.heap[b]? := fun b hb=>by
  show (w'.heap.setIfInBounds B _)[b]? = _
  rw[Array.getElem?_setIfInBounds,if_neg (fun e=>hb e.symm)]
 have RN:w1.heap[B]? = some (.cells aq el (0,0)):=by
  show (w'.heap.setIfInBounds B _)[B]? = _
  rw[Array.getElem?_setIfInBounds,if_pos rfl,if_pos (by omega)]
 have Fj:w1.heap.size=w'.heap.size:=by show (w'.heap.setIfInBounds B _).size=_;simp
 have np:Kept w.heap.size pa w w1:=by
  refine⟨Rw.1,Rw.2.1,Rw.2.2,by rw[Fj];exact cv,fun b hb _=>?_,fun _ _ _ _ h _=>h.elim⟩
  by_cases e:b=B
  ·subst e;rw[RN,hB]
  ·rw[eI b e];exact iN b hb e
 have qZ:∀ b,Z1 b->b≠B:=fun b hb e=>by have:=(h4 b hb).1;omega
 have g:=uv mm (nx:=aL st.hp) (wA (w':=w1) h1 (fun b hb=>eI b (qZ b hb)) (fun b hb=>eI b (fun e=>by have:=(h3 b hb).1;omega))) h2
  (fun b hb=>by rw[Fj];exact h3 b hb) (fun b hb=>by rw[Fj];exact h4 b hb) np (fun j _=>lE st j)
 obtain⟨r1,Fe⟩:=iU r g
 generalize vn:V.ext (aL st.hp) bs Z1=V' at *
 generalize Ij:(bR rs out (aL st.hp)).2=es at *
 have ON:m<st.hp.length:=gP (by rw[hm];rfl)
 have vo:(st.alloc es).au m = .bx cs:=by
  rw[o4]
  rcases fo st.au (aL st.hp) es m with ⟨j,e,h0,_⟩|⟨_,h0⟩
  ·rw[cy] at h0;omega
  ·rw[h0];exact hm
 have dW:V'.aE m=B:=by
  rw[<-vn,Vl.kU (by rw[cy];omega)];exact Vo
 have r2:Rel base M w0 V' ⟨st.ts++[(bR rs out (aL st.hp)).1],cM st.hp es⟩ (ts++[e_ vs].toArray) w1 :=
  xB (a:=st.ts) (h:=cM st.hp es) r1 rfl (fun i s v hs hv=>by
   cases i with
   | zero =>
     simp only[List.getElem?_cons_zero,Option.some.injEq] at hs hv
     subst hs;subst hv;exact Fe
   | succ i=>simp at hs)
 have Wk:Kept base M w0 w':=by
  have k:=r1.mem.kept
  refine⟨k.os,k.tape,k.output,by rw[<-Fj];exact k.size,fun b hb hM=>?_,fun b v2 e2 hb hM hv=>?_⟩
  ·rw[<-eI b (fun e=>by subst e;rcases o1 with h|h;omega;exact hM h)]
   exact k.block b hb hM
  ·obtain⟨v3,e3,j1,j2⟩:=k.shape b v2 e2 hb hM hv
   by_cases e:b=B
   ·subst e
    rw[RN] at j1
    injection j1 with j1
    injection j1 with j1 _ _
    subst j1
    exact⟨bn,eg,h5,by rw[h6];exact j2⟩
   ·exact⟨v3,e3,by rw[<-eI b e];exact j1,j2⟩
 have Uu:∀ b,Z1 b->V'.Z false b:=fun b hb=>by rw[<-vn];exact Vl.Ah.2 (.inr hb)
 have Vw:∀ b,V.Z false b->V'.Z false b:=fun b hb=>by rw[<-vn];exact Vl.Ah.2 (.inl hb)
 have eB:=eH V' (st.alloc es).au w1 bn.toList Z1 Uu Vw h7 (by simpa using h6) (fun b _ hb=>eI b hb) qZ
 have r3:=vv (cp:=cp) r2 (m:=m) (cs:=cs) vo (w':=w') (fun b hb=>(eI b (by rw[<-dW];exact hb)).symm) Wk Fj.symm (by rw[dW];exact h5) eB
 obtain⟨r4,_,r5⟩:=r7 (a:=st.ts) (b:=[(bR rs out (aL st.hp)).1]) (h:=bD (cM st.hp es) m (.bx cp)) (us:=[e_ vs]) r3 r.len
 exact⟨V',g.hy,r4,r5 0 _ _ rfl rfl⟩
end
end Go.SX
/- Functions that hand back the address of a new box: the rule. No condition. -/
namespace Go.SX
open Go.RowKit
set_option linter.unusedVariables false
set_option linter.unusedSimpArgs false
section
variable {P : Program} {T : bN} {Γ : FuncId → Option PC} {R : FuncId → Option bW} {base : Nat} {M : LM} {w0 : World} {V : Vl} {hp : Nat → ax} {w w' : World}
structure Od (w w':World) (Z:Nat->Prop) (t:Ty) (rs:List Ty) (v:Value) (out:aY rs) (g:t.den):Prop where
 ex:∃(B:Nat) (Z1:Nat->Prop) (bs:List (Option Nat)) (vs:List Value),v=e_ (.pointer (some ⟨B,0,none⟩)::vs)/\dw Z1 w' rs vs out bs/\((some B::bs).filterMap id).Nodup ∧
  (∀ b,some b∈some B::bs->w.heap.size<=b/\b<w'.heap.size/\¬Z1 b)/\(∀ b,Z1 b->w.heap.size<=b/\b<w'.heap.size) ∧
  ∃ bn eg,w'.heap[B]? = some (.cells bn eg (0,0))/\aF (fun b=>Z b\/Z1 b) w' t bn.toList g
 kept:Kept w.heap.size pa w w'
theorem KO{l:List (Bool×List C)}{vs:List Value}{nx:Nat}{u:Value}(h0:C.ok V hp w (.box nx 0) u)(hl:l.length=vs.length)(h:∀(j:Nat) x v,l[j]? = some x->vs[j]? = some v->eZ V hp w x v) :
 S.ok V hp w (z8 nx l) (e_ (u::vs)):=by
 unfold z8
 split
 ·have:vs=[]:=List.length_eq_zero_iff.1 hl.symm
  subst this
  exact h0
 ·rename_i bb
  have hv:e_ (u::vs) = .tuple (u::vs).toArray:=by
   match vs,hl with
   | [],hl=>exact absurd (List.length_eq_zero_iff.1 hl) bb
   | v::vs,_=>rfl
  rw[hv]
  refine⟨_,rfl,by simp[hl],fun j x v hx hv=>?_⟩
  cases j with
  | zero =>
    simp only[List.getElem?_cons_zero,Option.some.injEq] at hx
    subst hx
    have:v=u:=by simpa using hv.symm
    subst this
    show eZ V hp w (false,[C.box nx 0]) v
    unfold eZ
    exact bd h0 ca
  | succ j=>exact h j x v (by simpa using hx) (by simpa using hv)
theorem He(ts:List Ty)(d:aY ts)(nx:Nat):(bG ts d nx).2=(bR ts d nx).2:=by unfold bR;split<;>rename_i h<;>rw[h]
end
end Go.SX
