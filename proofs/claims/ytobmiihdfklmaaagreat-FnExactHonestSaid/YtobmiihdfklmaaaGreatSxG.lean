/- A verified symbolic executor and its contracts (part SxG). No condition. -/
import Derived.Test.YtobmiihdfklmaaaGreatSxB
import Derived.Still
import Derived.Deep.LoopGhost
import Derived.ProofKit
import Derived.OpenShut
import Derived.ChangeOld
import Derived.Below
import Derived.Carry
import Derived.Lib.SliceRun
import Derived.Deep.RegionLaw
import Derived.Lib.SlicesDelete
import Derived.Laws.Rows
set_option linter.unusedVariables false
set_option linter.unusedSimpArgs false
/- Regions. No condition. -/
namespace Go.SX
open Go.RowKit
set_option linter.unusedVariables false
set_option linter.unusedSimpArgs false
section
variable {P : Program} {T : bT} {Γ : FuncId → Option PC} {R : FuncId → Option dk} {all : Array Oper} {k : Nat} {bA : St} {E : List gV} {cf : List Nat} {cH : St}
  {base : Nat} {M : LM} {w0 : World} {Q : Exit → Act → World → Prop}
def cL(aq:Array Bool)(j:Nat):Bool:=aq.getD j false
theorem rE{aq:Array Bool}{i:Nat}(hi:i<aq.size):cL (aq.setIfInBounds i true)=gy (cL aq) i:=by
 funext j
 unfold cL gy
 by_cases h:j=i
 ·subst h;simp[hi]
 ·rw[if_neg h]
  simp only[Array.getD_eq_getD_getElem?]
  rw[Array.getElem?_setIfInBounds_ne (fun e=>h e.symm)]
theorem kS(h:oE all k=true){i:Nat}{o:Oper}(ho:all[i]? = some o):(i<k\/∀ j,j<i->(du all i).testBit j=true)/\∀ e∈o.after,Region.binds .any e=true->e.on<i:=by
 have hi:=(Array.getElem?_eq_some_iff.1 ho).1
 have:=List.all_eq_true.1 h i (List.mem_range.2 hi)
 rw[Bool.and_eq_true,ho] at this
 obtain⟨h1,h2⟩:=this
 refine⟨?_,fun e he hb=>?_⟩
 ·rw[Bool.or_eq_true] at h1
  rcases h1 with h1|h1
  ·exact .inl (by simpa using h1)
  ·exact .inr fun j hj=>List.all_eq_true.1 h1 j (List.mem_range.2 hj)
 ·have:=List.all_eq_true.1 h2 e (by simpa using he)
  simpa[hb] using this
theorem O2(h:oE all k=true):∀ i j,(du all i).testBit j=true->j<i:=by
 intro i
 induction i using Nat.strongRecOn with
 | _ i ih =>
   intro j hj
   obtain⟨o,h1,e,h2,h3,h4⟩:=uM all i j hj
   have:=(kS h h1).2 e h2 h3
   rcases h4 with rfl|⟨_,h5⟩
   ·exact this
   ·exact Nat.lt_trans (ih e.on this j h5) this
theorem wV(h:oE all k=true){aq:Array Bool}{i:Nat}{o:Oper}(ho:all[i]? = some o)(hu:aq.getD i true=false)(hb:∀ j,j<i->aq.getD j false=true):i∈Region.ready .any all aq :=
 mem_ready.2 ⟨hu,o,ho,fun e he tL=>hb _ ((kS h ho).2 e he tL)⟩
theorem tt(h:oE all k=true):∀(n i fuel:Nat) (aq:Array Bool) (a:Act) (w:World),i+n=all.size->k<=i->n<=fuel->aq.size=all.size->xO all aq →
 (∀ j,j<i->aq.getD j false=true)->(∀ j,i<=j->j<all.size->aq.getD j true=false)->wpOps P all Q (List.range' i n) a w->wpAny P .any all Q fuel aq a w
 | 0,i,fuel,aq,a,w,Hy,_,_,ck,_,hb,_,hw=>by
   have hr:Region.ready .any all aq=[]:=by
    apply List.eq_nil_iff_forall_not_mem.2
    intro j hj
    obtain⟨h1,o,h2,_⟩:=mem_ready.1 hj
    have aK:=(Array.getElem?_eq_some_iff.1 h2).1
    have h3:=hb j (by omega)
    have DD:j<aq.size:=by omega
    simp[DD] at h1 h3
    rw[h1] at h3;cases h3
   rw[List.range'_zero] at hw
   have hq:Q .normal a w:=hw
   cases fuel with
   | zero=>exact⟨hr,hq⟩
   | succ f=>exact⟨fun _=>hq,fun j hj=>by rw[hr] at hj;cases hj⟩
 | n+1,i,fuel,aq,a,w,Hy,UX,hf,ck,jU,hb,hu,hw=>by
   obtain⟨f,rfl⟩:∃ f,fuel=f+1:=⟨fuel-1,by omega⟩
   have zW:i<all.size:=by omega
   have ho:all[i]? = some all[i]:=Array.getElem?_eq_getElem zW
   have Sb:=wV h ho (hu i (Nat.le_refl _) zW) hb
   refine⟨fun h0=>by rw[h0] at Sb;(cases Sb),fun j hj=>?_⟩
   have ff:j=i:=by
    obtain⟨h1,o,h2,_⟩:=mem_ready.1 hj
    have Qh:=(Array.getElem?_eq_some_iff.1 h2).1
    rcases Nat.lt_trichotomy j i with h3|h3|h3
    ·have h4:=hb j h3
     have DD:j<aq.size:=by omega
     simp[DD] at h1 h4
     rw[h1] at h4;cases h4
    ·exact h3
    ·rcases (kS h h2).1 with h4|h4
     ·omega
     ·have h5:=jZ jU j (.inr hj) i (h4 i h3)
      have h6:=hu i (Nat.le_refl _) zW
      have DD:i<aq.size:=by omega
      simp[DD] at h5 h6
      rw[h6] at h5;cases h5
   subst ff
   rw[List.range'_succ,wpOps_cons] at hw
   refine wpOp_mono (fun a' w' h'=>tt h n (j+1) f _ a' w' (by omega) (by omega) (by omega) (by simp[ck]) ?_ (fun m hm=>?_) (fun m hm TM=>?_) h') hw
   ·intro m om hm hl e he tL
    by_cases wF:j=m
    ·subst wF
     obtain⟨_,o,h2,h3⟩:=mem_ready.1 hj
     rw[hm] at h2;injection h2 with h2;subst h2
     exact getD_set_true (h3 e he tL)
    ·rw[getD_set_ne false wF] at hl
     exact getD_set_true (jU m om hm hl e he tL)
   ·by_cases wF:j=m
    ·subst wF
     have DD:j<aq.size:=by omega
     simp[DD]
    ·exact getD_set_true (hb m (by omega))
   ·rw[getD_set_ne true (by omega)]
    exact hu m (by omega) TM
theorem J4 (hT : bJ P T) (hΓ : eQ P Γ) (eE : fD all k = true) (pY : oE all k = true) (hk : k ≤ all.size) (hE : E.length = k) (cP : xR E)
    (hf : ∀ i, i < k → CM T Γ all k bA E i) (fin : eR all bA E k cf cH) (hQ : ∀ a w, Sat base M w0 cH a w → G8 E → wpOps P all Q (List.range' k (all.size - k)) a w) :
    ∀ (m fuel : Nat) (l : List Nat) (aq : Array Bool) (a : Act) (w : World), l.length = m → m + (all.size - k) ≤ fuel → aq.size = all.size → xO all aq →
    (∀ j, j < k → cL aq j = false → j ∈ l) → (∀ j, k ≤ j → j < all.size → aq.getD j true = false) → Inv base M w0 all k bA E cf cH (cL aq) a w → wpAny P .any all Q fuel aq a w := by
  intro m
  induction m with
  | zero =>
    intro fuel l aq a w hl NT ck jU uD lT hi
    have A_ : l = [] := List.length_eq_zero_iff.1 hl
    have iA : ∀ j, j < k → cL aq j = true := fun j hj => by
      cases h : cL aq j with
      | true => rfl
      | false => have := uD j hj h; rw [A_] at this; cases this
    obtain ⟨h1, h2⟩ := z5 iA hE fin hi
    exact tt pY _ k fuel aq a w (by omega) (Nat.le_refl _) (by omega) ck jU iA lT (hQ a w h1 h2)
  | succ m ih =>
    intro fuel l aq a w hl NT ck jU uD lT hi
    by_cases iA : ∀ j, j < k → cL aq j = true
    · obtain ⟨h1, h2⟩ := z5 iA hE fin hi
      exact tt pY _ k fuel aq a w (by omega) (Nat.le_refl _) (by omega) ck jU iA lT (hQ a w h1 h2)
    · obtain ⟨f, rfl⟩ : ∃ f, fuel = f + 1 := ⟨fuel - 1, by omega⟩
      obtain ⟨i0, Qe, QG⟩ : ∃ i0, i0 < k ∧ cL aq i0 = false := by
        refine Classical.byContradiction fun hn => iA fun j hj => ?_
        cases h : cL aq j with
        | true => rfl
        | false => exact absurd ⟨j, hj, h⟩ hn
      -- the first that is not listed
      obtain ⟨i1, R_, KX, iF⟩ : ∃ i1, i1 < k ∧ cL aq i1 = false ∧ ∀ j, j < i1 → cL aq j = true := by
        clear hi uD lT
        induction i0 using Nat.strongRecOn with
        | _ n QP =>
          by_cases h : ∀ j, j < n → cL aq j = true
          · exact ⟨n, Qe, QG, h⟩
          · obtain ⟨j, hj, hu⟩ : ∃ j, j < n ∧ cL aq j = false := by
              refine Classical.byContradiction fun hn => h fun j hj => ?_
              cases h' : cL aq j with
              | true => rfl
              | false => exact absurd ⟨j, hj, h'⟩ hn
            exact QP j hj (by omega) hu
      have Rl : ∀ {j}, j < all.size → cL aq j = false → aq.getD j true = false := fun {j} hj h => by
        unfold cL at h
        have : j < aq.size := by omega
        simp [this] at h ⊢; exact h
      have Fe : ∀ {j}, aq.getD j true = false → cL aq j = false := fun {j} h => by
        unfold cL
        rcases Nat.lt_or_ge j aq.size with h' | h'
        · simp [h'] at h ⊢; exact h
        · simp [Array.getElem?_eq_none h']
      have Qp : all[i1]? = some (all[i1]'(by omega)) := Array.getElem?_eq_getElem _
      have Bc := wV pY Qp (Rl (by omega) KX) iF
      refine ⟨fun h0 => by rw [h0] at Bc; (cases Bc), fun i hr => ?_⟩
      obtain ⟨lU, oi, fM, Ky⟩ := mem_ready.1 hr
      have zW := (Array.getElem?_eq_some_iff.1 fM).1
      have hL : ∀ j, (du all i).testBit j = true → cL aq j = true := jZ jU i (.inr hr)
      have fL : i < k := by
        rcases (kS pY fM).1 with h | h
        · exact h
        · rcases Nat.lt_or_ge i k with h' | h'
          · exact h'
          · have := hL i1 (h i1 (by omega))
            rw [KX] at this; cases this
      obtain ⟨e, o, st, he, ho, s, Qz, s1, hq⟩ := hf i fL
      rw [fM] at ho; injection ho with ho; subst ho
      obtain ⟨V, _, _, h3⟩ := hi.ex
      have hw := BG eE fL fM Qz s hi.size hL h3
      have Ba := Fe lU
      have next : ∀ a' w', Inv base M w0 all k bA E cf cH (gy (cL aq) i) a' w' → wpAny P .any all Q f (aq.setIfInBounds i true) a' w' := by
        intro a' w' dY
        have KK : i ∈ l := uD i fL Ba
        refine ih f (l.erase i) _ a' w' (by rw [List.length_erase_of_mem KK]; omega) (by omega) (by simp [ck]) ?_ (fun j hj hu => ?_) (fun j hj nX => ?_) ?_
        · intro m om hm hl e he tL
          by_cases wF : i = m
          · subst wF
            rw [hm] at fM; injection fM with fM; subst fM
            exact getD_set_true (Ky e he tL)
          · rw [getD_set_ne false wF] at hl
            exact getD_set_true (jU m om hm hl e he tL)
        · rw [rE (by omega)] at hu
          unfold gy at hu
          split at hu
          · cases hu
          · rename_i bo
            exact (List.mem_erase_of_ne bo).2 (uD j hj hu)
        · rw [getD_set_ne true (by omega)]
          exact lT j hj nX
        · rw [rE (by omega)]; exact dY
      unfold wpOp
      simp only [fM]
      cases jW : e.r with
      | none =>
        rw [jW] at hw
        rw [if_neg (by rw [hw]; simp)]
        exact next _ _ (DQ eE fL he fM jW fin hi)
      | some q =>
        rw [jW] at hw
        rw [if_pos (by rw [hw]; rfl)]
        exact .inl (K8 hT hΓ eE fL he fM jW (cP e (List.mem_of_getElem? he) q jW) s1 fin (hq q jW) (fun j => O2 pY i j) hL Ba hi (fun u w' dY => next _ _ dY))
theorem sI(T:bT)(Γ:FuncId->Option PC):∀(l:List Oper) (ws:List Nat),kC T Γ ws l<=l.length
 | [],_=>Nat.le_refl _
 | o::l,ws=>by
   unfold kC
   split
   ·have:=sI T Γ l (Ou Γ ws o);simp only[List.length_cons];omega
   ·simp
theorem pN{kF:Nat}:∀(l:List Oper) (i:Nat) (b8:List Nat) (st:St) (E:List gV),rW T Γ all k kF i l b8 st E cf cH->E.length=l.length
 | [],i,b8,st,E,h=>by rw[h.1];rfl
 | o::l,i,b8,st,E,h=>by
   obtain⟨e,E',rfl,_,_,h⟩:=h
   cases hr:e.r with
   | none=>rw[hr] at h;simp[pN l _ _ _ _ h]
   | some q=>rw[hr] at h;simp[pN l _ _ _ _ h.2]
theorem ve{st:St}{a:Act}{w:World}(h:Sat base M w0 st a w):Sat base M w0 st a { w with drawn:=w.drawn+1 }:=by
 obtain⟨h1,V,r⟩:=h
 have x:VX V st.aB w V st.aB { w with drawn:=w.drawn+1 }:=⟨fun _ _=>⟨rfl,Iff.rfl,rfl⟩,fun _ h=>h,fun _ h=>h,fun _ _=>rfl,fun _ _ _=>rfl⟩
 refine⟨h1,V,⟨r.len,fun i s v hs hv=>S.ja x (r.iM i s v hs hv),?_⟩⟩
 have m:=r.mem
 refine⟨fun n=>?_,m.box,m.own,m.iZ,m.fZ,m.z0,m.z1,⟨m.kept.os,m.kept.tape,m.kept.output,m.kept.size,m.kept.block,m.kept.shape⟩,m.pz,m.oh,m.gJ⟩
 cases hl:(st.aB n).live with
 | true=>exact az.ja x (m.dx n) (fun cs=>m.box n cs) hl
 | false =>
   cases he:st.aB n with
   | dead=>trivial
   | bx cs=>rw[he] at hl;cases hl
   | row fr e xs=>rw[he] at hl;cases hl
theorem vh{o:Oper}(h:jG o=true):o.guard=none:=by
 unfold jG at h
 split at h<;>first|assumption|cases h
theorem zn{a:Act}{w:World}(hT:bJ P T){V:Vl}{hp lk:Nat->az}{nx:Nat}{ev:Operand->S}{o:Oper}{q:QR}(hs:jG o=true)(hq:fw T Γ lk nx ev o.op=some q)(cO:∀ x,S.ok V hp w (ev x) (a.eval x)) :
 ∃ u,∀ w',(execOp a.eval o).run P w' = .ok (.value u) w':=by
 unfold jG at hs
 split at hs
 ·rename_i t x f _ lr
  rw[lr] at hq
  simp only[fw] at hq
  have hv:=cO x
  cases hc:ev x with
  | c p =>
    rw[hc] at hq hv
    obtain⟨_,_,_,u,e4,_⟩:=Ag hT hq hv
    exact⟨u,fun w'=>by unfold execOp;simp only[lr,Sem.run_bind,e4 w',Result.andThen_ok,Sem.run_pure]⟩
  | _=>rw[hc] at hq;cases hq
 ·rename_i x _ lr
  exact⟨a.eval x,fun w'=>by unfold execOp;simp only[lr,Sem.run_bind,Result.andThen_ok,Sem.run_pure]⟩
 ·rename_i x _ lr
  exact⟨a.eval x,fun w'=>by unfold execOp;simp only[lr,Sem.run_bind,Result.andThen_ok,Sem.run_pure]⟩
 ·rename_i x i _ lr
  rw[lr] at hq
  simp only[fw] at hq
  have hv:=cO x
  cases hc:ev x with
  | vl vs =>
    rw[hc] at hq hv
    obtain⟨us,e1,e2,_⟩:=hv
    simp only at hq
    rw[dc,dB] at hq
    cases hx:vs[i]? with
    | none=>rw[hx] at hq;cases hq
    | some y =>
      have aK:i<us.size:=by have:=(List.getElem?_eq_some_iff.1 hx).1;omega
      have hu:us[i]? = some us[i]:=Array.getElem?_eq_getElem _
      exact⟨us[i],fun w'=>by unfold execOp;simp only[lr,Instr.extract,e1,hu,Sem.run_bind,Sem.run_pure,Result.andThen_ok]⟩
  | _=>rw[hc] at hq;cases hq
 ·cases hs
theorem L1{a:Act}{w:World}(hT:bJ P T){V:Vl}{hp:Nat->az}{st:St}{o:Oper}{K:St->Prop}(hs:jG o=true)(cO:∀ x,S.ok V hp w (st.eval x) (a.eval x))(h:tk T Γ R st.eval st.aB o st K) :
 ∃ u,∀ w',(execOp a.eval o).run P w' = .ok (.value u) w':=by
 unfold tk at h
 split at h
 ·rename_i q hq
  exact zn hT hs hq cO
 ·exfalso
  unfold jG at hs
  split at hs
  ·rename_i lr;rw[lr] at h;exact h
  ·rename_i lr;rw[lr] at h;exact h
  ·rename_i lr;rw[lr] at h;exact h
  ·rename_i lr;rw[lr] at h;exact h
  ·cases hs
theorem wX{a:Act}{w:World}{o:Oper}{u:Value}{next:Act->World->Prop}(hu:(execOp a.eval o).run P w = .ok (.value u) w)(h:o.wp P a w next (fun _ _ _=>False)):next (a.put o.dst u) w:=by
 unfold Oper.wp at h
 rw[hu] at h
 exact h
theorem u4{all:List Oper}{aq:List Bool}:∀ {n i j:Nat},j∈ow all aq i n↔i<=j/\j<i+n/\Nh all aq j=true
 | 0,i,j=>by simp[ow];omega
 | n+1,i,j=>by
   unfold ow
   split
   ·rename_i h
    rw[List.mem_cons,u4]
    constructor
    ·rintro (rfl|⟨h1,h2,h3⟩)
     ·exact⟨Nat.le_refl _,by omega,h⟩
     ·exact⟨by omega,by omega,h3⟩
    ·rintro⟨h1,h2,h3⟩
     by_cases e:j=i
     ·exact .inl e
     ·exact .inr ⟨by omega,by omega,h3⟩
   ·rename_i h
    rw[u4]
    constructor
    ·rintro⟨h1,h2,h3⟩;exact⟨by omega,by omega,h3⟩
    ·rintro⟨h1,h2,h3⟩
     by_cases e:j=i
     ·subst e;exact absurd h3 h
     ·exact⟨by omega,by omega,h3⟩
theorem IZ{d:Bool}{l:List Bool}{i:Nat}:nth d l i=l.toArray.getD i d:=by
 rw[cB];simp
theorem qe{all:Array Oper}{aq:List Bool}{j:Nat}:j∈ow all.toList aq 0 (bf all.toList)↔j∈Region.ready .any all aq.toArray:=by
 rw[u4,mem_ready,cx]
 unfold Nh
 rw[dc,IZ]
 simp only[Nat.zero_le,true_and,Nat.zero_add,Array.length_toList,Bool.and_eq_true,Bool.not_eq_true',Array.getElem?_toList]
 constructor
 ·rintro⟨h1,h2,h3⟩
  refine⟨h2,all[j],Array.getElem?_eq_getElem h1,fun e he hb=>?_⟩
  rw[Array.getElem?_eq_getElem h1] at h3
  simp only[fa,List.all_eq_true,Bool.or_eq_true,Bool.not_eq_true'] at h3
  rcases h3 e (by simpa using he) with h|h
  ·rw[hb] at h;cases h
  ·rw[IZ] at h;exact h
 ·rintro⟨h2,o,h1,h3⟩
  refine⟨(Array.getElem?_eq_some_iff.1 h1).1,h2,?_⟩
  rw[h1]
  simp only[fa,List.all_eq_true,Bool.or_eq_true,Bool.not_eq_true']
  intro e he
  cases hb:Region.binds .any e with
  | false=>exact .inl rfl
  | true=>right;rw[IZ];exact h3 e (by simpa using he) hb
theorem AZ:∀ {l:List Nat} {f:Nat->Prop},Iq l f->∀ i∈l,f i
 | [],_,_,i,h=>by cases h
 | [j],f,h,i,hi=>by rw[List.mem_singleton.1 hi];exact h
 | j::k::r,f,h,i,hi=>by
   rcases List.mem_cons.1 hi with rfl|hi
   ·exact h.1
   ·exact AZ h.2 i hi
theorem rj{all:Array Oper}{aq:List Bool}:∀ {l:List Nat} {i:Nat},pU all aq l=some i->i∈l/\JA all aq i=true
 | [],i,h=>by cases h
 | j::r,i,h=>by
   unfold pU at h
   split at h
   ·rename_i ht
    injection h with h;subst h
    exact⟨List.mem_cons_self ..,ht⟩
   ·obtain⟨h1,h2⟩:=rj h
    exact⟨List.mem_cons_of_mem _ h1,h2⟩
theorem wA{all:Array Oper}{oi:Oper}{i:Nat}{aq:List Bool}:∀ {l:List Oper} {m:Nat},yz all oi i aq m l=true->∀(j:Nat) (oj:Oper),l[j]? = some oj->m+j≠i->nth true aq (m+j)=false →
 (∀ e∈oj.after,Region.binds .any e=true->e.on≠i)->oi.apart all oj=true
 | [],m,_,j,oj,h,_,_,_=>by cases h
 | o::r,m,h,j,oj,hj,bo,lU,iV=>by
   unfold yz at h
   rw[Bool.and_eq_true] at h
   cases j with
   | zero =>
     simp only[List.getElem?_cons_zero,Option.some.injEq] at hj
     subst hj
     rw[Nat.add_zero] at bo lU
     have h1:=h.1
     rw[Bool.or_eq_true,Bool.or_eq_true,Bool.or_eq_true,lU,rB,List.any_eq_true] at h1
     rcases h1 with ((h1|h1)|⟨e,he,hb⟩)|h1
     ·exact absurd (by simpa using h1) bo
     ·cases h1
     ·rw[Bool.and_eq_true] at hb
      exact absurd (by simpa using hb.2) (iV e (by simpa using he) hb.1)
     ·exact h1
   | succ j =>
     have e:m+(j+1)=(m+1)+j:=by omega
     exact wA h.2 j oj (by simpa using hj) (by rw[<-e];exact bo) (by rw[<-e];exact lU) iV
theorem wK{all:Array Oper}(h:yU all.toList=true)(j:Nat)(o:Oper)(cs:Array SelectCase)(b:Bool)(ho:all[j]? = some o):o.op ≠ .select cs b:=by
 intro heq
 unfold yU at h
 rw[fa,List.all_eq_true] at h
 have:=h o (by simpa using Array.mem_of_getElem? ho)
 rw[heq] at this
 cases this
theorem FK(hT:bJ P T)(hΓ:eQ P Γ)(hR:dP P R){K:St->Prop}(hK:∀ aP a' w',K aP->Sat base M w0 aP a' w'->Q .normal a' w')(P6:∀ c a b w,Q (.panic c) a w->Q (.panic c) b w) :
 ∀(n:Nat) (aq:List Bool) (st:St) (a:Act) (w:World),Sat base M w0 st a w->qk T Γ R all n aq st K->wpAny P .any all Q n aq.toArray a w:=by
 have done:∀ {aq:List Bool},ow all.toList aq 0 (bf all.toList)=[]->Region.ready .any all aq.toArray=[]:=by
  intro aq h
  apply List.eq_nil_iff_forall_not_mem.2
  intro j hj
  have:=qe.2 hj
  rw[h] at this;cases this
 have QB:∀(aq:List Bool) (i:Nat),(b9 aq i true).toArray=aq.toArray.setIfInBounds i true:=by
  intro aq i;rw[eI];simp
 intro n
 induction n with
 | zero =>
   intro aq st a w hs h
   unfold qk at h
   split at h
   ·rename_i hr
    exact⟨done hr,hK st a w h hs⟩
   ·exact h.elim
 | succ n ih =>
   intro aq st a w hs h
   unfold qk at h
   split at h
   ·rename_i hr
    exact wpAny_done (done hr) (hK st a w h hs) _
   ·rename_i j r hr
    split at h
    ·rename_i i hi
     obtain⟨h1,h2⟩:=rj hi
     rw[<-hr] at h1
     have fg:=qe.1 h1
     unfold JA at h2
     split at h2
     ·rename_i oi ho
      rw[dc] at ho
      have bF:all[i]? = some oi:=by simpa using ho
      simp only[Bool.and_eq_true] at h2
      obtain⟨⟨s1,s2⟩,s3⟩:=h2
      unfold vo at h
      rw[dc,ho] at h
      simp only at h
      have hg:oi.guard=none:=vh s1
      have kj:im all oi st = .go:=by unfold im;rw[hg]
      rw[kj] at h
      simp only at h
      obtain⟨hd,V,rr⟩:=hs
      obtain⟨u,hu⟩:=L1 hT s1 rr.eval h
      have Cy:=AG (Q:=fun _ _ _=>False) (next:=fun a' w'=>∃ aP,qk T Γ R all n (b9 aq i true) aP K/\Sat base M w0 aP a' w') hT hΓ hR ⟨hd,V,rr⟩ h (fun aP v w' h1 h2=>⟨aP,h1,h2⟩)
      have iW:=wX (hu w) Cy
      obtain⟨aP,k1,k2⟩:=iW
      refine wpAny_first bF (fun j o cs b hj=>wK s2 j o cs b hj) (fun c a w h=>P6 c _ _ w h) n aq.toArray a w (fun j oj hj bo lU iV=>?_) fg (v:=u) (.inl ⟨?_,hu⟩) ?_
      ·refine wA s3 j oj (by simpa using hj) (by omega) ?_ iV
       rw[Nat.zero_add,IZ];exact lU
      ·unfold Region.wanted;rw[hg]
      ·rw[<-QB]
       exact ih _ _ _ w k2 k1
     ·cases h2
    ·rw[<-hr] at h
     refine⟨fun h0=>?_,fun i hi=>?_⟩
     ·have:j∈Region.ready .any all aq.toArray:=qe.1 (by rw[hr];exact List.mem_cons_self ..)
      rw[h0] at this;cases this
     ·refine Mo hT hΓ hR hs (AZ h i (qe.2 hi)) (fun aP a' w' k bw=>?_)
      rw[<-QB]
      exact ih _ _ _ w' bw k
theorem nz(h:l_ all k=true){i:Nat}{o:Oper}(ho:all[i]? = some o):(i<k\/∀ j,j<k->(du all i).testBit j=true\/Cz all j=true)/\∀ e∈o.after,Region.binds .any e=true->e.on<i:=by
 unfold l_ at h
 rw[List.all_eq_true] at h
 have hi:=(Array.getElem?_eq_some_iff.1 ho).1
 have h1:=h i (List.mem_range.2 hi)
 rw[Bool.and_eq_true,ho] at h1
 obtain⟨h2,h3⟩:=h1
 refine⟨?_,fun e he hb=>?_⟩
 ·rw[Bool.or_eq_true] at h2
  rcases h2 with h2|h2
  ·exact .inl (by simpa using h2)
  ·right
   intro j hj
   rw[List.all_eq_true] at h2
   have:=h2 j (List.mem_range.2 hj)
   rw[Bool.or_eq_true] at this
   exact this
 ·simp only[List.all_eq_true,Bool.or_eq_true,Bool.not_eq_true',decide_eq_true_eq] at h3
  rcases h3 e (by simpa using he) with h4|h4
  ·rw[hb] at h4;cases h4
  ·exact h4
theorem D1(h:l_ all k=true):∀ i j,(du all i).testBit j=true->j<i:=by
 intro i
 induction i using Nat.strongRecOn with
 | _ i ih =>
   intro j hj
   obtain⟨o,h1,e,h2,h3,h4⟩:=uM all i j hj
   have h5:=(nz h h1).2 e h2 h3
   rcases h4 with rfl|⟨_,h6⟩
   ·exact h5
   ·have:=ih e.on h5 j h6
    omega
theorem E1(h:l_ all k=true){aq:Array Bool}{i:Nat}{o:Oper}(ho:all[i]? = some o)(hu:aq.getD i true=false)(hb:∀ j,j<i->aq.getD j false=true):i∈Region.ready .any all aq :=
 mem_ready.2 ⟨hu,o,ho,fun e he tL=>hb _ ((nz h ho).2 e he tL)⟩
theorem tI{all:Array Oper}{oi:Oper}{i:Nat}:∀ {l:List Oper} {m:Nat},sD all oi i m l=true->∀(j:Nat) (oj:Oper),l[j]? = some oj->m+j≠i->(du all i).testBit (m+j)=false →
 (∀ e∈oj.after,Region.binds .any e=true->e.on≠i)->oi.apart all oj=true
 | [],m,_,j,oj,h,_,_,_=>by cases h
 | o::r,m,h,j,oj,hj,bo,lU,iV=>by
   unfold sD at h
   rw[Bool.and_eq_true] at h
   cases j with
   | zero =>
     simp only[List.getElem?_cons_zero,Option.some.injEq] at hj
     subst hj
     rw[Nat.add_zero] at bo lU
     have h1:=h.1
     rw[Bool.or_eq_true,Bool.or_eq_true,Bool.or_eq_true,lU,rB,List.any_eq_true] at h1
     rcases h1 with ((h1|h1)|⟨e,he,hb⟩)|h1
     ·exact absurd (by simpa using h1) bo
     ·cases h1
     ·rw[Bool.and_eq_true] at hb
      exact absurd (by simpa using hb.2) (iV e (by simpa using he) hb.1)
     ·exact h1
   | succ j =>
     have e:m+(j+1)=(m+1)+j:=by omega
     exact tI h.2 j oj (by simpa using hj) (by rw[<-e];exact bo) (by rw[<-e];exact lU) iV
theorem Lk{aq:Array Bool}(hk:k<=all.size)(ck:aq.size=all.size)(iA:∀ j,j<k->cL aq j=true)(lT:∀ j,k<=j->j<all.size->aq.getD j true=false) :
 aq=(List.replicate k true++List.replicate (all.size-k) false).toArray:=by
 apply Array.ext
 ·simp;omega
 ·intro i h1 h2
  rcases Nat.lt_or_ge i k with h|h
  ·have:=iA i h
   unfold cL at this
   simp only[Array.getD_eq_getD_getElem?,Array.getElem?_eq_getElem h1,Option.getD_some] at this
   rw[this]
   simp[List.getElem_append,h]
  ·have:=lT i h (by omega)
   simp only[Array.getD_eq_getD_getElem?,Array.getElem?_eq_getElem h1,Option.getD_some] at this
   rw[this]
   simp[List.getElem_append,show ¬i<k by omega]
theorem G7 (hT : bJ P T) (hΓ : eQ P Γ) (eE : fD all k = true) (pY : l_ all k = true) (P6 : ∀ c a b w, Q (.panic c) a w → Q (.panic c) b w) (hk : k ≤ all.size) (hE : E.length = k) (cP : xR E)
    (hf : ∀ i, i < k → CM T Γ all k bA E i) (fin : eR all bA E k cf cH) (hQ : ∀ a w, Sat base M w0 cH a w → G8 E → wpAny P .any all Q (all.size - k) (List.replicate k true ++ List.replicate (all.size - k) false).toArray a w) :
    ∀ (m fuel : Nat) (l : List Nat) (aq : Array Bool) (a : Act) (w : World), l.length = m → m + (all.size - k) = fuel → l.Nodup → (∀ j ∈ l, j < k ∧ cL aq j = false) → aq.size = all.size → xO all aq →
    (∀ j, j < k → cL aq j = false → j ∈ l) → (∀ j, k ≤ j → j < all.size → aq.getD j true = false) → Inv base M w0 all k bA E cf cH (cL aq) a w → wpAny P .any all Q fuel aq a w := by
  intro m
  induction m with
  | zero =>
    intro fuel l aq a w hl NT MO HC ck jU uD lT hi
    have A_ : l = [] := List.length_eq_zero_iff.1 hl
    have iA : ∀ j, j < k → cL aq j = true := fun j hj => by
      cases h : cL aq j with
      | true => rfl
      | false => have := uD j hj h; rw [A_] at this; cases this
    obtain ⟨h1, h2⟩ := z5 iA hE fin hi
    rw [Lk hk ck iA lT, ← NT, Nat.zero_add]
    exact hQ a w h1 h2
  | succ m ih =>
    intro fuel l aq a w hl NT MO HC ck jU uD lT hi
    by_cases iA : ∀ j, j < k → cL aq j = true
    · exfalso
      cases l with
      | nil => simp at hl
      | cons x xs =>
        obtain ⟨q1, q2⟩ := HC x (List.mem_cons_self ..)
        rw [iA x q1] at q2; cases q2
    · obtain ⟨f, rfl⟩ : ∃ f, fuel = f + 1 := ⟨fuel - 1, by omega⟩
      obtain ⟨i0, Qe, QG⟩ : ∃ i0, i0 < k ∧ cL aq i0 = false := by
        refine Classical.byContradiction fun hn => iA fun j hj => ?_
        cases h : cL aq j with
        | true => rfl
        | false => exact absurd ⟨j, hj, h⟩ hn
      -- the first that is not listed
      obtain ⟨i1, R_, KX, iF⟩ : ∃ i1, i1 < k ∧ cL aq i1 = false ∧ ∀ j, j < i1 → cL aq j = true := by
        clear hi uD lT
        induction i0 using Nat.strongRecOn with
        | _ n QP =>
          by_cases h : ∀ j, j < n → cL aq j = true
          · exact ⟨n, Qe, QG, h⟩
          · obtain ⟨j, hj, hu⟩ : ∃ j, j < n ∧ cL aq j = false := by
              refine Classical.byContradiction fun hn => h fun j hj => ?_
              cases h' : cL aq j with
              | true => rfl
              | false => exact absurd ⟨j, hj, h'⟩ hn
            exact QP j hj (by omega) hu
      have Rl : ∀ {j}, j < all.size → cL aq j = false → aq.getD j true = false := fun {j} hj h => by
        unfold cL at h
        have : j < aq.size := by omega
        simp [this] at h ⊢; exact h
      have Fe : ∀ {j}, aq.getD j true = false → cL aq j = false := fun {j} h => by
        unfold cL
        rcases Nat.lt_or_ge j aq.size with h' | h'
        · simp [h'] at h ⊢; exact h
        · simp [Array.getElem?_eq_none h']
      have Lv : ∀ i, i < k → i ∈ Region.ready .any all aq → ∀ a' w', Inv base M w0 all k bA E cf cH (gy (cL aq) i) a' w' → wpAny P .any all Q f (aq.setIfInBounds i true) a' w' := by
        intro i fL hr a' w' dY
        obtain ⟨lU, oi, fM, Ky⟩ := mem_ready.1 hr
        have zW := (Array.getElem?_eq_some_iff.1 fM).1
        have Ba := Fe lU
        have KK : i ∈ l := uD i fL Ba
        refine ih f (l.erase i) _ a' w' (by rw [List.length_erase_of_mem KK]; omega) (by omega) (MO.erase _) (fun j hj => ?_) (by simp [ck]) ?_ (fun j hj hu => ?_) (fun j hj nX => ?_) ?_
        · have hm := HC j (List.mem_of_mem_erase hj)
          refine ⟨hm.1, ?_⟩
          rw [rE (by omega)]
          unfold gy
          rw [if_neg (fun e => by subst e; exact absurd hj (fun h => (List.Nodup.mem_erase_iff MO).1 h |>.1 rfl))]
          exact hm.2
        · intro m om hm hl e he tL
          by_cases wF : i = m
          · subst wF
            rw [hm] at fM; injection fM with fM; subst fM
            exact getD_set_true (Ky e he tL)
          · rw [getD_set_ne false wF] at hl
            exact getD_set_true (jU m om hm hl e he tL)
        · rw [rE (by omega)] at hu
          unfold gy at hu
          split at hu
          · cases hu
          · rename_i bo
            exact (List.mem_erase_of_ne bo).2 (uD j hj hu)
        · rw [getD_set_ne true (by omega)]
          exact lT j hj nX
        · rw [rE (by omega)]; exact dY
      have stepOf : ∀ i o, i < k → all[i]? = some o → i ∈ Region.ready .any all aq → ∀ (Q' : Exit → Act → World → Prop) (next : Act → World → Prop), (∀ a' w', Inv base M w0 all k bA E cf cH (gy (cL aq) i) a' w' → next a' w') →
          (Region.wanted o (yielded all a.tmps) = false ∧ next (a.put o.dst undef) w) ∨ (Region.wanted o (yielded all a.tmps) = true ∧ o.wp P a w next Q' ∧
            ∀ (hs : jG o = true), ∃ u, ∀ w', (execOp a.eval o).run P w' = .ok (.value u) w') := by
        intro i o fL fM hr Q' next NZ
        obtain ⟨lU, oi, UK, Ky⟩ := mem_ready.1 hr
        have hL : ∀ j, (du all i).testBit j = true → cL aq j = true := jZ jU i (.inr hr)
        obtain ⟨e, o', st, he, ho, s, Qz, s1, hq⟩ := hf i fL
        rw [fM] at ho; injection ho with ho; subst ho
        obtain ⟨V, v1, v2, h3⟩ := hi.ex
        have hw := BG eE fL fM Qz s hi.size hL h3
        have Ba := Fe lU
        cases jW : e.r with
        | none =>
          rw [jW] at hw
          exact .inl ⟨by rw [hw]; rfl, NZ _ _ (DQ eE fL he fM jW fin hi)⟩
        | some q =>
          rw [jW] at hw
          refine .inr ⟨by rw [hw]; rfl, K8 hT hΓ eE fL he fM jW (cP e (List.mem_of_getElem? he) q jW) s1 fin (hq q jW) (fun j => D1 pY i j) hL Ba hi (fun u w' dY => NZ _ _ dY), fun hs => ?_⟩
          exact zn hT hs (hq q jW) (Kr (Nat.le_of_lt fL) s1 (fun j => D1 pY i j) hi.size hL v2 h3)
      by_cases NW : ∃ i, i < k ∧ i ∈ Region.ready .any all aq ∧ Cz all i = true
      · obtain ⟨i, fL, hr, yI⟩ := NW
        unfold Cz at yI
        split at yI
        · rename_i oi ho
          rw [dc] at ho
          have fM : all[i]? = some oi := by simpa using ho
          simp only [Bool.and_eq_true] at yI
          obtain ⟨⟨s1, s2⟩, s3⟩ := yI
          have hg := vh s1
          rcases stepOf i oi fL fM hr (fun _ _ _ => False) (fun a' w' => Inv base M w0 all k bA E cf cH (gy (cL aq) i) a' w') (fun _ _ h => h) with ⟨hw, _⟩ | ⟨hw, T7, S5⟩
          · unfold Region.wanted at hw; rw [hg] at hw; cases hw
          · obtain ⟨u, hu⟩ := S5 s1
            have hinv := wX (hu w) T7
            refine wpAny_first fM (fun j o cs b hj => wK s2 j o cs b hj) (fun c a w h => P6 c _ _ w h) f aq a w (fun j oj hj bo lU iV => ?_) hr (v := u) (.inl ⟨hw, hu⟩) (Lv i fL hr _ _ hinv)
            refine tI s3 j oj (by simpa using hj) (by omega) ?_ iV
            rw [Nat.zero_add]
            cases hm : (du all i).testBit j with
            | false => rfl
            | true =>
              have := jZ jU i (.inr hr) j hm
              have h2 := Fe lU
              unfold cL at h2
              rw [h2] at this; cases this
        · cases yI
      have Qp : all[i1]? = some (all[i1]'(by omega)) := Array.getElem?_eq_getElem _
      have Bc := E1 pY Qp (Rl (by omega) KX) iF
      refine ⟨fun h0 => by rw [h0] at Bc; (cases Bc), fun i hr => ?_⟩
      obtain ⟨lU, oi, fM, Ky⟩ := mem_ready.1 hr
      have fL : i < k := by
        rcases (nz pY fM).1 with h | h
        · exact h
        · rcases Nat.lt_or_ge i k with h' | h'
          · exact h'
          · exfalso
            rcases h i1 (by omega) with h2 | h2
            · have := jZ jU i (.inr hr) i1 h2
              have QH := KX
              unfold cL at QH
              rw [QH] at this; cases this
            · exact NW ⟨i1, R_, Bc, h2⟩
      unfold wpOp
      simp only [fM]
      rcases stepOf i oi fL fM hr Q (wpAny P .any all Q f (aq.setIfInBounds i true)) (fun a' w' h => Lv i fL hr a' w' h) with ⟨hw, h⟩ | ⟨hw, h, _⟩
      · rw [if_neg (by rw [hw]; simp)]; exact h
      · rw [if_pos hw]; exact .inl h
theorem w7(hm:P.follows .mixedOrders=true)(hT:bJ P T)(hΓ:eQ P Γ)(hR:dP P R){id:Nat}{ops:Array Oper}{draw:Bool}{st:St}{K:St->Prop}{a:Act}{w:World}(hs:Sat base M w0 st a w)
 (h:tm T Γ R ops draw st K) (hK:∀ aP a' w',K aP->Sat base M w0 aP a' w'->Q .normal a' w'):(Code.region id ops draw).wp P Q a w:=by
 unfold tm at h
 split at h
 ·rename_i hd
  subst hd
  simp only at h
  split at h
  ·rename_i hc
   rw[Bool.and_eq_true] at hc
   obtain⟨eE,pY⟩:=hc
   have hk:kC T Γ [] ops.toList<=ops.size:=by have:=sI T Γ ops.toList [];simpa using this
   generalize kC T Γ [] ops.toList=k at *
   obtain⟨E,cf,cH,Dw,cP,P4⟩:=lM _ _ _ _ _ h
   rw[iY] at Dw
   have P2:E.length=k:=by rw[pN _ _ _ _ _ Dw,List.length_take];simp;omega
   obtain⟨h1,h2⟩:=mJ (E:=E) (bA:=st) eE (ops.toList.take k) 0 [] st E (by simp) (by simp) (by simp;omega) Dw (zo ops st E)
   refine wp_region_any hm ?_
   have bw:=ve hs
   obtain⟨uC,V,r⟩:=bw
   refine J4 (E:=E) (cH:=cH) (cf:=cf) (bA:=st) (base:=base) (M:=M) (w0:=w0) hT hΓ eE pY hk P2 cP (fun i hi=>h1 i (Nat.zero_le _) hi) h2 (fun a' w' q1 q2=>?_) k ops.size (List.range k) _ a _ (by simp) (by omega) (by simp) ?_ (fun j hj _=>List.mem_range.2 hj) (fun j _ hj=>?_) ?_
   ·have hv:=P4 q2
    rw[iX] at hv
    have:=tp (Q:=Q) hT hΓ hR hK (ops.toList.drop k) k rfl cH a' w' q1 hv
    simpa using this
   ·intro j oj hj hl
    simp only[Array.getD_eq_getD_getElem?,Array.getElem?_replicate] at hl
    split at hl<;>cases hl
   ·simp[hj]
   ·have P5:cL (Array.replicate ops.size false)=fun _=>false:=by
     funext j
     unfold cL
     simp only[Array.getD_eq_getD_getElem?,Array.getElem?_replicate]
     split<;>rfl
    rw[P5]
    have rp:iI st cf cH (fun _=>false)=st.aB:=by
     funext n
     unfold iI
     split
     ·rfl
     ·rename_i hn
      have:st.aB n = .dead:=by
       show nth .dead st.hp n=_
       rw[cB,List.getElem?_eq_none (by rw[<-cx];omega)]
       rfl
      rw[this]
      split<;>rfl
    refine⟨uC,r.len,⟨V,by rw[rp];exact r.mem,fun t s v _ hs hv=>by rw[rp];exact r.iM t s v hs hv,fun j o d v _ hL=>by cases hL⟩,fun j e q _ hL=>by cases hL⟩
  split at h
  ·rename_i hc
   rw[Bool.and_eq_true] at hc
   obtain⟨eE,pY⟩:=hc
   have hk:kC T Γ [] ops.toList<=ops.size:=by have:=sI T Γ ops.toList [];simpa using this
   generalize kC T Γ [] ops.toList=k at *
   obtain⟨E,cf,cH,Dw,cP,P4⟩:=lM _ _ _ _ _ h
   rw[iY] at Dw
   have P2:E.length=k:=by rw[pN _ _ _ _ _ Dw,List.length_take];simp;omega
   obtain⟨h1,h2⟩:=mJ (E:=E) (bA:=st) eE (ops.toList.take k) 0 [] st E (by simp) (by simp) (by simp;omega) Dw (zo ops st E)
   refine wp_mono (Q:=fun e a w=>match e with | .panic _=>False|e=>Q e a w) ?_ (fun e a w h=>by cases e<;>first|exact h|exact h.elim)
   refine wp_region_any hm ?_
   have bw:=ve hs
   obtain⟨uC,V,r⟩:=bw
   refine G7 (E:=E) (cH:=cH) (cf:=cf) (bA:=st) (base:=base) (M:=M) (w0:=w0) hT hΓ eE pY (fun c a b w h=>h.elim) hk P2 cP (fun i hi=>h1 i (Nat.zero_le _) hi) h2 (fun a' w' q1 q2=>?_) k ops.size (List.range k) _ a _ (by simp) (by omega) List.nodup_range (fun j hj=>⟨List.mem_range.1 hj,?_⟩) (by simp) ?_ (fun j hj _=>List.mem_range.2 hj) (fun j _ hj=>?_) ?_
   ·have hv:=P4 q2
    rw[iX,cx,mu,mu,bN] at hv
    have TL:(ops.toList.drop k).length=ops.size-k:=by simp
    rw[TL] at hv
    exact FK (Q:=fun e a w=>match e with | .panic _=>False|e=>Q e a w) hT hΓ hR (fun aP a' w' k bw=>hK aP a' w' k bw) (fun c a b w h=>h.elim) _ _ cH a' w' q1 hv
   ·unfold cL
    simp only[Array.getD_eq_getD_getElem?,Array.getElem?_replicate]
    split<;>rfl
   ·intro j oj hj hl
    simp only[Array.getD_eq_getD_getElem?,Array.getElem?_replicate] at hl
    split at hl<;>cases hl
   ·simp[hj]
   ·have P5:cL (Array.replicate ops.size false)=fun _=>false:=by
     funext j
     unfold cL
     simp only[Array.getD_eq_getD_getElem?,Array.getElem?_replicate]
     split<;>rfl
    rw[P5]
    have rp:iI st cf cH (fun _=>false)=st.aB:=by
     funext n
     unfold iI
     split
     ·rfl
     ·rename_i hn
      have:st.aB n = .dead:=by
       show nth .dead st.hp n=_
       rw[cB,List.getElem?_eq_none (by rw[<-cx];omega)]
       rfl
      rw[this]
      split<;>rfl
    refine⟨uC,r.len,⟨V,by rw[rp];exact r.mem,fun t s v _ hs hv=>by rw[rp];exact r.iM t s v hs hv,fun j o d v _ hL=>by cases hL⟩,fun j e q _ hL=>by cases hL⟩
  ·refine wp_mono (Q:=fun e a w=>match e with | .panic _=>False|e=>Q e a w) ?_ (fun e a w h=>by cases e<;>first|exact h|exact h.elim)
   refine wp_region_any hm ?_
   rw[cx,mu] at h
   have hl:(List.replicate ops.toList.length false).toArray=Array.replicate ops.size false:=by simp
   have:=FK (Q:=fun e a w=>match e with | .panic _=>False|e=>Q e a w) hT hΓ hR (fun aP a' w' k bw=>hK aP a' w' k bw) (fun c a b w h=>h.elim) ops.toList.length _ st a _ (ve hs) h
   rw[hl] at this
   simpa using this
 ·rename_i hd
  have cG:draw=false:=by simpa using hd
  subst cG
  refine wp_region ?_
  have:=tp (Q:=Q) hT hΓ hR hK ops.toList 0 rfl st a w hs h
  rw[List.range_eq_range']
  simpa using this
end
end Go.SX
/- States that a loop meets again. No condition. -/
namespace Go.SX
open Go.RowKit
set_option linter.unusedVariables false
set_option linter.unusedSimpArgs false
theorem hU{p q:Option Prop}:gP (jN p q)↔gP p/\gP q:=by
 cases p<;>cases q<;>simp[jN,gP]
theorem kK{b:Bool}:gP (wM b)↔b=true:=by
 cases b<;>simp[wM,gP]
def cy(aX:List Src)(m:Nat):Src:=match aX[m]? with|some s=>s|none=>.no
def Vl.aX(V:Vl)(aX:List Src):Vl where
 aI m:=match cy aX m with | .nm n=>V.aI n|_=>0
 has m:=match cy aX m with | .nm n=>V.has n|_=>False
 Z0:=V.Z0
 Z1:=V.Z1
theorem jE{V:Vl}{aX:List Src}{m n:Nat}(h:cy aX m = .nm n):(V.aX aX).aI m=V.aI n:=by unfold Vl.aX;simp only[h]
theorem jF{V:Vl}{aX:List Src}{m n:Nat}(h:cy aX m = .nm n):(V.aX aX).has m↔V.has n:=by unfold Vl.aX;simp only[h]
theorem An{V:Vl}{aX:List Src}{m:Nat}(h:cy aX m = .nil):¬(V.aX aX).has m:=by unfold Vl.aX;simp only[h];exact id
def Conv{e' e:Ty}(ys:List e'.den)(xs:List e.den):Prop :=
 e'.size=e.size/\ys.length=xs.length/\(∀(Z:Nat->Prop) (w:World) (es:List Value) (i:Nat) (h1:i<ys.length) (h2:i<xs.length),aH Z w e' es ys[i]->aH Z w e es xs[i]) ∧
  ∀ i∈(az.row false e xs).gJ,i∈(az.row false e' ys).gJ
theorem Conv.refl{e:Ty}(xs:List e.den):Conv xs xs:=⟨rfl,rfl,fun _ _ _ _ _ _ h=>h,fun _ h=>h⟩
theorem p8:∀(t:Ty) (d:t.de.den),ids t (fq t d)=[]
 | .gs _ _,_=>rfl
 | .sl _,_=>rfl
 | .st t,d=>p8 t d
 | .pr a b,d=>by show ids a (fq a d.1)++ids b (fq b d.2)=[];rw[p8 a,p8 b];rfl
 | .int _,_=>rfl
 | .bool,_=>rfl
 | .str,_=>rfl
 | .ptr _,_=>rfl
 | .bS _ _,_=>rfl
theorem Conv.fq{e:Ty}{ys:List e.de.den}(hn:∀ y∈ys,xB e y):Conv ys (ys.map (SX.fq e)):=by
 refine⟨cK e,by simp,fun Z w es i h1 h2 h=>?_,fun i hi=>?_⟩
 ·rw[List.getElem_map]
  exact aH.fq e h (hn _ (List.getElem_mem h1))
 ·exfalso
  have dY:i∈(if e.bW then eT e (ys.map (SX.fq e)) else []):=hi
  split at dY
  ·unfold eT at dY
   obtain⟨x,hx,Hz⟩:=List.mem_flatMap.1 dY
   obtain⟨y,_,rfl⟩:=List.mem_map.1 hx
   rw[p8] at Hz
   cases Hz
  ·cases dY
theorem yF{V:Vl}{w:World}{aX:List Src}{m n h:Nat}{e' e:Ty}{v:Value}(hs:cy aX m = .nm n)(ck:e'.size=e.size)(k:dT V w n e' h v):dT (V.aX aX) w m e h v:=by
 rcases k with ⟨a1,a2⟩|⟨a1,cap,ay,el,b1,b2,b3,b4⟩
 ·exact .inl ⟨fun h=>a1 ((jF hs).1 h),a2⟩
 ·exact .inr ⟨(jF hs).2 a1,cap,ay,el,by rw[jE hs];exact b1,by rw[jE hs];exact b2,by rw[<-ck];exact b3,b4⟩
def qT(es:Nat->az)(r:Src)(t:az)(aX:List Src):Prop :=
 match t with
 | .dead=>True
 | .bx cs=>∃ n cr,r = .nm n/\es n = .bx cr/\gP (Ln aX cr cs)
 | .row fr e xs=>(∃ n aW,∃(e':Ty) (ys:List e'.den),r = .nm n/\es n = .row aW e' ys/\(fr=true->aW=true)/\(fr=false->(e'.flat||e'.bW)=(e.flat||e.bW))/\Conv ys xs)\/(r = .nil/\xs=[])
theorem RF{aX:List Src}{es:Nat->az}{r:Src}{t:az}(h:gP (mE aX es r t)):qT es r t aX/\(t = .dead->r = .no):=by
 unfold mE at h
 cases t with
 | dead =>
   refine⟨trivial,fun _=>?_⟩
   cases r<;>first|rfl|exact h.elim
 | bx cs =>
   refine⟨?_,fun h=>by cases h⟩
   cases r with
   | nm n =>
     simp only at h
     split at h
     ·rename_i cr iG
      exact⟨n,cr,rfl,iG,h⟩
     ·exact h.elim
   | nil=>exact h.elim
   | no=>exact h.elim
 | row fr e xs =>
   refine⟨?_,fun h=>by cases h⟩
   cases r with
   | nm n =>
     simp only at h
     split at h
     ·rename_i aW e' ys NS
      split at h
      ·rename_i he
       subst he
       split at h
       ·exact h.elim
       ·rename_i tN
        have:ys=xs:=h
        subst this
        refine .inl ⟨n,aW,_,_,rfl,NS,fun hf=>?_,fun _=>rfl,Conv.refl _⟩
        subst hf
        cases aW<;>simp_all
      ·split at h
       ·rename_i he
        subst he
        split at h
        ·rename_i tN
         rw[Bool.and_eq_true] at tN
         obtain⟨h1,h2⟩:=h
         have h1:∀ y∈ys,xB e y:=h1
         have h2:xs=ys.map (fq e):=h2
         subst h2
         exact .inl ⟨n,aW,_,ys,rfl,NS,fun _=>tN.2,fun hf=>by rw[hf] at tN;exact absurd tN.1 (by simp),Conv.fq h1⟩
        ·exact h.elim
       ·exact h.elim
     ·exact h.elim
   | nil=>exact .inr ⟨rfl,h⟩
   | no=>exact h.elim
theorem Lo{aX:List Src}{es:Nat->az}:∀ {rs:List Src} {ts:List az},gP (QX aX es rs ts)->rs.length=ts.length/\∀(m:Nat) r t,rs[m]? = some r->ts[m]? = some t->gP (mE aX es r t)
 | [],[],_=>⟨rfl,fun m r t h=>by cases h⟩
 | [],_::_,h=>h.elim
 | _::_,[],h=>h.elim
 | r::rs,t::ts,h=>by
   obtain⟨h1,h2⟩:=hU.1 h
   obtain⟨h3,h4⟩:=Lo h2
   refine⟨by simp[h3],fun m r' t' hr ht=>?_⟩
   cases m with
   | zero=>simp at hr ht;subst hr;subst ht;exact h1
   | succ m=>exact h4 m r' t' (by simpa using hr) (by simpa using ht)
theorem sO{es:Nat->az}:∀ {k:Nat} {rs:List Src} {ts:List az},yP es k rs ts=true->∀ {j n:Nat} {e:Ty} {xs:List e.den},rs[j]? = some (.nm n)->ts[j]? = some (.row false e xs) →
 (e.flat||e.bW)=true->n=k+j/\∃ e' bI,es n = .row false e' bI
 | k,[],_,_,j,n,e,xs,h,_=>by cases h
 | k,_::_,[],_,j,n,e,xs,_,h=>by cases h
 | k,r::rs,t::ts,h,j,n,e,xs,h1,h2=>by
   intro eX
   unfold yP at h
   rw[Bool.and_eq_true] at h
   obtain⟨g1,g2⟩:=h
   cases j with
   | zero =>
     simp only[List.getElem?_cons_zero,Option.some.injEq] at h1 h2
     subst h1;subst h2
     simp only[eX,Bool.not_true,Bool.false_or,Bool.and_eq_true,beq_iff_eq] at g1
     obtain⟨g3,g4⟩:=g1
     refine⟨g3,?_⟩
     split at g4
     ·rename_i fr e' bI he
      cases fr with
      | false=>exact⟨e',bI,he⟩
      | true=>cases g4
     ·cases g4
   | succ j =>
     obtain⟨a1,a2⟩:=sO g2 (j:=j) (by simpa using h1) (by simpa using h2) eX
     exact⟨by omega,a2⟩
theorem MY{e:az}{aX:List Src}{ts:List az}(h:IS e aX ts=true)(he:e.uI=true):∃ r cs l,aX = .nm 0::r/\ts = .bx cs::l:=by
 cases e with
 | bx cs =>
   unfold IS at h
   split at h
   ·exact⟨_,_,_,rfl,rfl⟩
   ·cases h
   ·rename_i h1 h2
    first
     | exact absurd rfl (h2 cs)
     | exact (h2 cs rfl).elim
     | (exfalso;simp_all)
 | dead=>cases he
 | row fr e xs=>cases he
theorem wL:∀ {aX:List Src},kq aX=true->∀ {m m' n:Nat},aX[m]? = some (.nm n)->aX[m']? = some (.nm n)->m=m'
 | [],_,m,m',n,h,_=>by cases h
 | r::rs,h,m,m',n,h1,h2=>by
   have RA:kq rs=true:=by
    cases r with
    | nm k=>simp only[kq,Bool.and_eq_true] at h;exact h.2
    | nil=>exact h
    | no=>exact h
   have Qo:∀ {j:Nat},r = .nm n->rs[j]? = some (.nm n)->False:=by
    intro j hr hj
    subst hr
    simp only[kq,Bool.and_eq_true,rB,Bool.not_eq_true',List.any_eq_false] at h
    have:=h.1 (.nm n) (List.mem_of_getElem? hj)
    simp at this
   cases m with
   | zero =>
     cases m' with
     | zero=>rfl
     | succ m' =>
       simp only[List.getElem?_cons_zero,Option.some.injEq] at h1
       exact (Qo (j:=m') h1 (by simpa using h2)).elim
   | succ m =>
     cases m' with
     | zero =>
       simp only[List.getElem?_cons_zero,Option.some.injEq] at h2
       exact (Qo (j:=m) h2 (by simpa using h1)).elim
     | succ m' =>
       rw[wL RA (m:=m) (m':=m') (by simpa using h1) (by simpa using h2)]
section
variable {V : Vl} {hp : Nat → az} {w : World}
theorem C.ok_one:∀ {c:C} {v:Value},C.ok V hp w c v->v.oneCell'=true:=by
 intro c v h
 cases c with
 | val u =>
   rw[h.1]
   have:=h.2
   cases u<;>first|rfl|exact this.elim
 | fm=>rw[show v=_ from h];rfl
 | fe=>rw[show v=_ from h];rfl
 | rd fr e xs=>exact aH.ec h v (List.mem_singleton.2 rfl)
 | own n =>
   obtain⟨fr,e,xs,_,h2⟩:=h
   rcases h2 with ⟨_,h2,_⟩|⟨_,cap,ay,el,h2,_⟩<;>rw[h2]<;>rfl
 | pre n k =>
   obtain⟨fr,e,xs,_,_,h2⟩:=h
   rcases h2 with ⟨_,h2,_⟩|⟨_,cap,ay,el,h2,_⟩<;>rw[h2]<;>rfl
 | eK n e xs=>exact aH.ec h.2 v (List.mem_singleton.2 rfl)
 | box n off=>rw[h.1];rfl
 | jI n len=>obtain⟨cap,h1,_⟩:=h;rw[h1.1];rfl
 | at_ fr t d off=>obtain⟨b,o,h1,_⟩:=h;rw[h1];rfl
 | dR n i off=>obtain⟨_,fr,e,xs,_,_,h3⟩:=h;rw[h3];rfl
 | fn f da=>rw[h.1];rfl
 | bS fr f t d=>exact aH.ec (t:=.bS f t) h v (List.mem_singleton.2 rfl)
 | rg fr wh e b xs=>exact aH.ec (t:=.gs wh e) h v (List.mem_singleton.2 rfl)
 | any=>exact h
variable {aJ : Nat → az} {aX : List Src}
theorem Oc(hE:∀ m,qT hp (cy aX m) (aJ m) aX/\(aJ m = .dead->cy aX m = .no)){x y:C}{v:Value}(h:gP (mC aX x y))(ho:C.ok V hp w x v):C.ok (V.aX aX) aJ w y v:=by
 have Q0:∀ {n m:Nat},cy aX m = .nm n->C.ok V hp w (.own n) v->C.ok (V.aX aX) aJ w (.own m) v:=by
  intro n m hs ho
  obtain⟨fr,e,xs,h1,h2⟩:=ho
  obtain⟨k1,k2⟩:=hE m
  cases ht:aJ m with
  | dead=>rw[k2 ht] at hs;cases hs
  | bx cs =>
    rw[ht] at k1
    obtain⟨n',cr,e1,e2,_⟩:=k1
    rw[hs] at e1;injection e1 with e1;subst e1
    rw[h1] at e2;cases e2
  | row aW e' ys =>
    rw[ht] at k1
    rcases k1 with ⟨n',pV,RW,SI,e1,e2,_,_,c1,c2,_⟩|⟨e1,_⟩
    ·rw[hs] at e1;injection e1 with e1;subst e1
     rw[h1] at e2;injection e2 with q1 q2 q3
     subst q1;subst q2;cases q3
     refine⟨aW,e',ys,ht,?_⟩
     rw[<-c2]
     exact yF hs c1 h2
    ·rw[hs] at e1;cases e1
 unfold mC at h
 split at h
 ·exact C.ok_one ho
 ·split at h
  ·rename_i hk
   subst hk
   rw[show _=_ from h] at ho
   exact ho
  ·exact h.elim
 ·rw[show _=_ from h] at ho;exact ho
 ·rw[show _=_ from h];exact⟨ho,trivial⟩
 ·rw[show _=_ from h];exact⟨ho,trivial⟩
 ·exact ho
 ·exact ho
 ·rw[show _=_ from h] at ho;exact ho
 ·rename_i fr e xs aW e' ys
  split at h
  ·rename_i he
   subst he
   split at h
   ·exact h.elim
   ·rename_i tN
    have:xs=ys:=h
    subst this
    exact aH.mono (t:=.sl e) (fun b hb=>by
     cases aW with
     | false=>exact Vl.eD (V:=V) hb
     | true=>have:fr=true:=by cases fr<;>simp_all
             subst this;exact hb) (fun _ _=>rfl) ho
  ·exact h.elim
 ·rename_i fr e ys
  have:ys=[]:=h
  subst this
  rw[ho.1]
  exact aH.zero (.sl e) rfl
 ·rename_i n m
  rw[dc] at h
  split at h
  ·rename_i n' hr
   have hn:n'=n:=by simpa using kK.1 h
   subst hn
   exact Q0 (by unfold cy;rw[hr]) ho
  ·exact h.elim
 ·rename_i m
  rw[dc] at h
  split at h
  ·rename_i hr
   have hs:cy aX m = .nil:=by unfold cy;rw[hr]
   obtain⟨k1,k2⟩:=hE m
   cases ht:aJ m with
   | dead=>rw[k2 ht] at hs;cases hs
   | bx cs=>rw[ht] at k1;obtain⟨n',cr,e1,_⟩:=k1;rw[hs] at e1;cases e1
   | row aW e' ys =>
     rw[ht] at k1
     rcases k1 with ⟨n',pV,_,_,e1,_⟩|⟨_,e2⟩
     ·rw[hs] at e1;cases e1
     ·subst e2
      exact⟨aW,e',[],ht,.inl ⟨An hs,ho.1,rfl⟩⟩
  ·exact h.elim
 ·rename_i n k m k'
  rw[dc] at h
  split at h
  ·rename_i n' hr
   obtain⟨hn,hk⟩:=hU.1 h
   have hn:n'=n:=by simpa using kK.1 hn
   have hk:k=k':=hk
   subst hn;subst hk
   have hs:cy aX m = .nm n':=by unfold cy;rw[hr]
   obtain⟨fr,e,xs,h1,h2,h3⟩:=ho
   obtain⟨k1,k2⟩:=hE m
   cases ht:aJ m with
   | dead=>rw[k2 ht] at hs;cases hs
   | bx cs =>
     rw[ht] at k1
     obtain⟨n2,cr,e1,e2,_⟩:=k1
     rw[hs] at e1;injection e1 with e1;subst e1
     rw[h1] at e2;cases e2
   | row aW e' ys =>
     rw[ht] at k1
     rcases k1 with ⟨n2,pV,RW,SI,e1,e2,_,_,c1,c2,_⟩|⟨e1,_⟩
     ·rw[hs] at e1;injection e1 with e1;subst e1
      rw[h1] at e2;injection e2 with q1 q2 q3
      subst q1;subst q2;cases q3
      exact⟨aW,e',ys,ht,by rw[<-c2];exact h2,yF hs c1 h3⟩
     ·rw[hs] at e1;cases e1
  ·exact h.elim
 ·rename_i n o m o'
  rw[dc] at h
  split at h
  ·rename_i n' hr
   have hh:=kK.1 h
   simp only[Bool.and_eq_true,beq_iff_eq] at hh
   obtain⟨rfl,rfl⟩:=hh
   have hs:cy aX m = .nm n':=by unfold cy;rw[hr]
   obtain⟨h1,h2,cs,h3⟩:=ho
   obtain⟨k1,k2⟩:=hE m
   cases ht:aJ m with
   | dead=>rw[k2 ht] at hs;cases hs
   | bx cr=>exact⟨by rw[jE hs];exact h1,(jF hs).2 h2,cr,ht⟩
   | row aW e' ys =>
     rw[ht] at k1
     rcases k1 with ⟨n',pV,_,_,e1,e2,_⟩|⟨e1,_⟩
     ·rw[hs] at e1;injection e1 with e1;subst e1
      rw[h3] at e2;cases e2
     ·rw[hs] at e1;cases e1
  ·exact h.elim
 ·rename_i n o m o'
  rw[dc] at h
  split at h
  ·rename_i n' hr
   have hh:=kK.1 h
   simp only[Bool.and_eq_true,beq_iff_eq] at hh
   obtain⟨rfl,rfl⟩:=hh
   have hs:cy aX m = .nm n':=by unfold cy;rw[hr]
   obtain⟨cap,h1,h2,cs,h3⟩:=ho
   obtain⟨k1,k2⟩:=hE m
   cases ht:aJ m with
   | dead=>rw[k2 ht] at hs;cases hs
   | bx cr=>exact⟨cap,by rw[jE hs];exact h1,(jF hs).2 h2,cr,ht⟩
   | row aW e' ys =>
     rw[ht] at k1
     rcases k1 with ⟨n',pV,_,_,e1,e2,_⟩|⟨e1,_⟩
     ·rw[hs] at e1;injection e1 with e1;subst e1
      rw[h3] at e2;cases e2
     ·rw[hs] at e1;cases e1
  ·exact h.elim
 ·rename_i fr wh e b xs aW ql e' b' ys
  split at h
  ·rename_i he
   subst he
   split at h
   ·exact h.elim
   ·rename_i tN
    obtain⟨h1,h2⟩:b=b'/\xs=ys:=h
    subst h1;subst h2
    have bF:aH (V.Z fr) w (.gs wh e) [v] (b,xs):=ho
    refine NM (ql:=wh) (fun hw=>by cases wh<;>simp_all) ?_
    exact bF.mono (fun b hb=>by
     cases aW with
     | false=>exact Vl.eD (V:=V) hb
     | true=>have:fr=true:=by cases fr<;>simp_all
             subst this;exact hb) (fun _ _=>rfl)
  ·exact h.elim
 ·rename_i fr wh e b ys
  have:ys=[]:=h
  subst this
  rw[ho.1]
  exact⟨⟨none,0,rfl,Nat.le_refl _,Nat.zero_le _,fun i hi=>absurd hi (Nat.not_lt_zero _)⟩,fun hp=>absurd hp (Nat.lt_irrefl _),fun _ hp=>absurd hp (Nat.lt_irrefl _)⟩
 ·rename_i fr wh e b xs aW e' ys
  split at h
  ·rename_i he
   subst he
   split at h
   ·exact h.elim
   ·rename_i tN
    have:xs=ys:=h
    subst this
    have bF:aH (V.Z fr) w (.gs wh e) [v] (b,xs):=ho
    exact aH.mono (t:=.sl e) (fun b hb=>by
     cases aW with
     | false=>exact Vl.eD (V:=V) hb
     | true=>have:fr=true:=by cases fr<;>simp_all
             subst this;exact hb) (fun _ _=>rfl) (vF bF)
  ·exact h.elim
 ·rename_i fr t d o aW t' d' o'
  split at h
  ·rename_i he
   subst he
   split at h
   ·exact h.elim
   ·rename_i tN
    obtain⟨h1,h2⟩:=hU.1 h
    have e1:o=o':=by simpa using kK.1 h1
    have e2:d=d':=h2
    subst e1;subst e2
    have hz:∀ b,V.Z fr b->(V.aX aX).Z aW b:=fun b hb=>by
     cases aW with
     | false=>exact Vl.eD (V:=V) hb
     | true=>have:fr=true:=by cases fr<;>simp_all
             subst this;exact hb
    obtain⟨b,o2,k1,k2,es,k3,k4,k5⟩:=ho
    exact⟨b,o2,k1,hz b k2,es,k3,k4,k5.mono hz (fun _ _=>rfl)⟩
  ·exact h.elim
 ·rename_i fr f t d aW f' t' d'
  split at h
  ·rename_i he
   subst he
   split at h
   ·exact h.elim
   ·rename_i tN
    obtain⟨h1,h2⟩:=hU.1 h
    have e1:f=f':=by simpa using kK.1 h1
    have e2:d=d':=h2
    subst e1;subst e2
    have hz:∀ b,V.Z fr b->(V.aX aX).Z aW b:=fun b hb=>by
     cases aW with
     | false=>exact Vl.eD (V:=V) hb
     | true=>have:fr=true:=by cases fr<;>simp_all
             subst this;exact hb
    have h':aH (V.Z fr) w (.bS f t) [v] d:=ho
    exact h'.mono hz (fun _ _=>rfl)
  ·exact h.elim
 ·rename_i n i o m i' o'
  rw[dc] at h
  split at h
  ·rename_i n' hr
   obtain⟨h1,h2⟩:=hU.1 h
   have hh:=kK.1 h1
   simp only[Bool.and_eq_true,beq_iff_eq] at hh
   obtain⟨rfl,rfl⟩:=hh
   have hi:i=i':=h2
   subst hi
   have hs:cy aX m = .nm n':=by unfold cy;rw[hr]
   obtain⟨a1,fr,e,xs,a2,a3,a4⟩:=ho
   obtain⟨k1,k2⟩:=hE m
   cases ht:aJ m with
   | dead=>rw[k2 ht] at hs;cases hs
   | bx cr =>
     rw[ht] at k1
     obtain⟨n',cr,e1,e2,_⟩:=k1
     rw[hs] at e1;injection e1 with e1;subst e1
     rw[a2] at e2;cases e2
   | row aW e' ys =>
     rw[ht] at k1
     rcases k1 with ⟨n',pV,RW,SI,e1,e2,_,_,c1,c2,_⟩|⟨e1,_⟩
     ·rw[hs] at e1;injection e1 with e1;subst e1
      rw[a2] at e2;injection e2 with q1 q2 q3
      subst q1;subst q2;cases q3
      exact⟨(jF hs).2 a1,aW,e',ys,ht,by rw[<-c2];exact a3,by rw[jE hs,<-c1];exact a4⟩
     ·rw[hs] at e1;cases e1
  ·exact h.elim
 ·exact h.elim
theorem D0(hE:∀ m,qT hp (cy aX m) (aJ m) aX/\(aJ m = .dead->cy aX m = .no)):∀ {xs ys:List C} {vs:List Value},gP (Ln aX xs ys)->br V hp w xs vs->br (V.aX aX) aJ w ys vs
 | [],[],vs,_,ho=>⟨ho.1,fun j c v h=>by cases h⟩
 | [],_::_,vs,h,_=>h.elim
 | _::_,[],vs,h,_=>h.elim
 | x::xs,y::ys,vs,h,ho=>by
   obtain⟨h1,h2⟩:=hU.1 h
   cases vs with
   | nil=>have:=ho.1;cases this
   | cons v vs =>
     have h3:=D0 (vs:=vs) hE h2 ⟨by simpa using ho.1,fun j c u hc hu=>ho.2 (j+1) c u (by simpa using hc) (by simpa using hu)⟩
     refine⟨by simpa using h3.1,fun j c u hc hu=>?_⟩
     cases j with
     | zero =>
       simp only[List.getElem?_cons_zero,Option.some.injEq] at hc hu
       subst hc;subst hu
       exact Oc hE h1 (ho.2 0 x v rfl rfl)
     | succ j=>exact h3.2 j c u (by simpa using hc) (by simpa using hu)
theorem RG(hE:∀ m,qT hp (cy aX m) (aJ m) aX/\(aJ m = .dead->cy aX m = .no)){x y:S}{v:Value}(h:gP (mS aX x y))(ho:S.ok V hp w x v):S.ok (V.aX aX) aJ w y v:=by
 unfold mS at h
 split at h
 ·trivial
 ·exact Oc hE h ho
 ·obtain⟨vs,h1,h2⟩:=ho
  exact⟨vs,h1,D0 hE h h2⟩
 ·exact ho
 ·exact h.elim
theorem Lp(hE:∀ m,qT hp (cy aX m) (aJ m) aX/\(aJ m = .dead->cy aX m = .no)):∀ {xs ys:List S},gP (QY aX xs ys)->xs.length=ys.length/\∀(j:Nat) x y,xs[j]? = some x->ys[j]? = some y->gP (mS aX x y)
 | [],[],_=>⟨rfl,fun j x y h=>by cases h⟩
 | [],_::_,h=>h.elim
 | _::_,[],h=>h.elim
 | x::xs,y::ys,h=>by
   obtain⟨h1,h2⟩:=hU.1 h
   obtain⟨h3,h4⟩:=Lp hE h2
   refine⟨by simp[h3],fun j x' y' hx hy=>?_⟩
   cases j with
   | zero=>simp at hx hy;subst hx;subst hy;exact h1
   | succ j=>exact h4 j x' y' (by simpa using hx) (by simpa using hy)
end
theorem xz{base:Nat}{M:LM}{w0 w:World}{s t:St}{a:Act}{aX:List Src}(h:Match aX s t)(hs:Sat base M w0 s a w):Sat base M w0 t a w:=by
 obtain⟨hd,V,r⟩:=hs
 obtain⟨h1,h2⟩:=hU.1 h
 obtain⟨h2,h3⟩:=hU.1 h2
 have lR:=kK.1 h1
 rw[Bool.and_eq_true,Bool.and_eq_true] at lR
 obtain⟨⟨lR,wE⟩,wD⟩:=lR
 obtain⟨e1,e2⟩:=Lo h3
 have hE:∀ m,qT s.aB (cy aX m) (t.aB m) aX/\(t.aB m = .dead->cy aX m = .no):=by
  intro m
  cases hr:aX[m]? with
  | none =>
    have dU:=List.getElem?_eq_none_iff.1 hr
    have:t.aB m = .dead:=by
     show nth .dead t.hp m=_
     rw[cB,List.getElem?_eq_none (by omega)]
     rfl
    rw[this]
    exact⟨trivial,fun _=>by unfold cy;rw[hr]⟩
  | some sr =>
    have aK:=(List.getElem?_eq_some_iff.1 hr).1
    have ht:t.hp[m]? = some (t.hp[m]'(by omega)):=List.getElem?_eq_getElem _
    have kD:t.aB m=t.hp[m]'(by omega):=by
     show nth .dead t.hp m=_
     rw[cB,ht];rfl
    have ry:cy aX m=sr:=by unfold cy;rw[hr]
    rw[kD,ry]
    exact RF (e2 m sr _ hr ht)
 obtain⟨f1,f2⟩:=Lp hE h2
 have nm:∀ m,(t.aB m).live=true->(V.aX aX).has m->∃ n,cy aX m = .nm n/\aX[m]? = some (.nm n)/\(s.aB n).live=true/\V.has n/\(V.aX aX).aI m=V.aI n:=by
  intro m hl hh
  cases ry:cy aX m with
  | no=>unfold Vl.aX at hh;simp only[ry] at hh
  | nil=>exact absurd hh (An ry)
  | nm n =>
    refine⟨n,rfl,?_,?_,(jF ry).1 hh,jE ry⟩
    ·unfold cy at ry
     split at ry
     ·rename_i nW;rw[nW,ry]
     ·cases ry
    ·have:=(hE m).1
     cases kD:t.aB m with
     | dead=>rw[kD] at hl;cases hl
     | bx cs=>rw[kD] at this;obtain⟨n',cr,k1,k2,_⟩:=this;rw[ry] at k1;injection k1 with k1;subst k1;rw[k2];rfl
     | row fr e xs =>
       rw[kD] at this
       rcases this with ⟨n',aW,_,_,k1,k2,_⟩|⟨k1,_⟩
       ·rw[ry] at k1;injection k1 with k1;subst k1;rw[k2];rfl
       ·rw[ry] at k1;cases k1
 have m:=r.mem
 refine⟨hd,V.aX aX,⟨by rw[<-f1];exact r.len,fun i y v hy hv=>?_,?_⟩⟩
 ·have aK:=(List.getElem?_eq_some_iff.1 hy).1
  have hx:s.ts[i]? = some (s.ts[i]'(by omega)):=List.getElem?_eq_getElem _
  exact RG hE (f2 i _ y hx hy) (r.iM i _ v hx hv)
 ·refine⟨fun k=>?_,fun k cs hk=>?_,fun k hl hh=>?_,fun k e xs hk hh=>?_,fun k k' hl df hh nW hb=>?_,m.z0,m.z1,m.kept,fun k hl hh=>?_,fun b hb=>?_,fun k hh i hi=>?_⟩
  ·have:=(hE k).1
   cases kD:t.aB k with
   | dead=>trivial
   | bx cs =>
     rw[kD] at this
     obtain⟨n,cr,k1,k2,k3⟩:=this
     have h0:=m.dx n
     rw[k2] at h0
     obtain⟨ay,el,a1,a2⟩:=h0
     exact⟨ay,el,by rw[jE k1];exact a1,D0 hE k3 a2⟩
   | row fr e xs =>
     rw[kD] at this
     rcases this with ⟨n,aW,e',ys,k1,k2,k3,_,c1,c2,c3,c4⟩|⟨k1,k2⟩
     ·have h0:=m.dx n
      rw[k2] at h0
      rcases h0 with ⟨a1,a2⟩|⟨a1,ay,el,a2,a3,a4⟩
      ·exact .inl ⟨fun hh=>a1 ((jF k1).1 hh),by subst a2;exact List.length_eq_zero_iff.1 c2.symm⟩
      ·refine .inr ⟨(jF k1).2 a1,ay,el,by rw[jE k1];exact a2,by rw[<-c2];exact a3,fun i hi=>?_⟩
       obtain⟨es,b1,b2,b3⟩:=a4 i (by rw[c2];exact hi)
       refine⟨es,by rw[<-c1];exact b1,by rw[<-c1];exact b2,c3 _ _ _ i (by rw[c2];exact hi) hi (b3.mono (fun b hb=>?_) (fun _ _=>rfl))⟩
       cases fr with
       | false=>exact Vl.eD (V:=V) hb
       | true=>rw[k3 rfl] at hb;exact hb
     ·exact .inl ⟨An k1,k2⟩
  ·have:=(hE k).1
   rw[hk] at this
   obtain⟨n,cr,k1,k2,_⟩:=this
   exact (jF k1).2 (m.box n cr k2)
  ·obtain⟨n,_,_,k1,k2,k3⟩:=nm k hl hh
   rw[k3]
   exact m.own n k1 k2
  ·obtain⟨n,k0,_,_,k2,k3⟩:=nm k (by rw[hk];rfl) hh
   rw[k3]
   have:=(hE k).1
   rw[hk] at this
   rcases this with ⟨n',aW,e',ys,e1,e2,e3,_⟩|⟨e1,_⟩
   ·rw[k0] at e1;injection e1 with e1;subst e1
    rw[e3 rfl] at e2
    exact m.iZ n e' ys e2 k2
   ·rw[k0] at e1;cases e1
  ·obtain⟨n,_,k0,k1,k2,k3⟩:=nm k hl hh
   obtain⟨n',_,Ui,Uj,Ul,Um⟩:=nm k' df nW
   have:n=n':=m.fZ n n' k1 Uj k2 Ul (by rw[<-k3,<-Um];exact hb)
   subst this
   exact wL lR k0 Ui
  ·obtain⟨n,k0,k4,_,k2,k3⟩:=nm k (uK hl) hh
   rw[k3]
   have hE:=(hE k).1
   cases kD:t.aB k with
   | dead=>rw[kD] at hl;exact hl.elim
   | bx cs=>rw[kD] at hl;exact hl.elim
   | row fr e xs =>
     rw[kD] at hE hl
     cases fr with
     | true=>exact hl.elim
     | false =>
       have eX:(e.flat||e.bW)=true:=hl
       have DH:t.hp[k]? = some (.row false e xs):=by
        have h':nth .dead t.hp k = .row false e xs:=kD
        rw[cB] at h'
        cases hx:t.hp[k]? with
        | none=>rw[hx] at h';cases h'
        | some y=>rw[hx] at h';exact congrArg some h'
       have h9:=sO wE k4 DH
       rw[Nat.zero_add] at h9
       obtain⟨e1,e9⟩:=h9 eX
       rcases hE with ⟨n',aW,e',ys,q1,q2,q3,q4,c1,c2,c3,c4⟩|⟨q1,_⟩
       ·rw[k0] at q1
        injection q1 with q1
        subst q1
        obtain⟨e3,Uw,e9⟩:=e9
        rw[q2] at e9
        injection e9 with e9 _ _
        subst e9
        have:=m.pz n (by rw[q2];exact (q4 rfl).trans eX) k2
        rw[e1] at this ⊢
        exact this
       ·rw[k0] at q1;cases q1
  ·obtain⟨q1,q2⟩:=m.oh b hb
   obtain⟨rr,cs,l,e1,e2⟩:=MY wD q1
   refine⟨?_,?_⟩
   ·show (nth .dead t.hp 0).uI=true
    rw[e2];rfl
   ·rw[jE (n:=0) (by rw[e1];rfl)]
    exact q2
  ·cases kD:t.aB k with
   | dead=>rw[kD] at hi;cases hi
   | bx cs=>rw[kD] at hi;cases hi
   | row fr e xs =>
     rw[kD] at hi
     cases fr with
     | true=>cases hi
     | false =>
       have eX:(e.flat||e.bW)=true:=by
        have dY:i∈(if e.bW then eT e xs else []):=hi
        split at dY
        ·rename_i hg;rw[hg,Bool.or_true]
        ·cases dY
       obtain⟨n,k0,k4,_,k2,k3⟩:=nm k (by rw[kD];rfl) hh
       have hE:=(hE k).1
       rw[kD] at hE
       have DH:t.hp[k]? = some (.row false e xs):=by
        have h':nth .dead t.hp k = .row false e xs:=kD
        rw[cB] at h'
        cases hx:t.hp[k]? with
        | none=>rw[hx] at h';cases h'
        | some y=>rw[hx] at h';exact congrArg some h'
       have h9:=sO wE k4 DH
       rw[Nat.zero_add] at h9
       obtain⟨e1,e3,Uw,e9⟩:=h9 eX
       rcases hE with ⟨n',aW,e',ys,q1,q2,q3,q4,c1,c2,c3,c4⟩|⟨q1,_⟩
       ·rw[k0] at q1
        injection q1 with q1
        subst q1
        rw[q2] at e9
        injection e9 with e9 _ _
        subst e9
        exact fun e0=>m.gJ n k2 i (by rw[q2];exact c4 i hi) (by omega)
       ·rw[k0] at q1;cases q1
end Go.SX
/- From what is to be shown of a function's code to its contract. No condition. -/
namespace Go.SX
open Go.RowKit
set_option linter.unusedVariables false
set_option linter.unusedSimpArgs false
def Ex.to:Ex->Exit
 | .normal=>.normal
 | .exit i=>.exit i
 | .ret=>.ret
section
variable {P : Program} {T : bT} {Γ : FuncId → Option PC} {R : FuncId → Option dk} {base : Nat} {M : LM} {w0 : World}
theorem Ot(hm:P.follows .mixedOrders=true)(hT:bJ P T)(hΓ:eQ P Γ)(hR:dP P R):∀(c:Code) (A:Nat->Option bk) (st:St) (Qs:Ex->(Nat->Option bk)->St->Prop) (Q:Exit->Act->World->Prop) (a:Act) (w:World),
 Sat base M w0 st a w->vc T Γ R c A st Qs->(∀ e A' aP a' w',Qs e A' aP->Sat base M w0 aP a' w'->Q e.to a' w')->c.wp P Q a w:=by
 intro c
 induction c with
 | skip=>intro A st Qs Q a w hs h hQ;exact wp_skip (hQ .normal A st a w h hs)
 | region id ops draw =>
   intro A st Qs Q a w hs h hQ
   unfold vc at h
   split at h
   ·rename_i X J I m x0 inner _
    obtain⟨hd,V,r⟩:=hs
    obtain⟨V',r',_⟩:=r.Dr [m x0]
    exact w7 hm hT hΓ hR (⟨hd,V',r'⟩:Sat base M w0 (st.freeze (m x0)) a w) h (fun aP a' w' k bw=>hQ .normal A aP a' w' k bw)
   ·exact w7 hm hT hΓ hR hs h (fun aP a' w' k bw=>hQ .normal A aP a' w' k bw)
 | seq x y K4 K5 =>
   intro A st Qs Q a w hs h hQ
   unfold vc at h
   split at h
   ·rename_i X J I m x0 inner _
    obtain⟨h1,h2⟩:=h
    refine wp_seq (K4 A st _ _ a w hs h1 (fun e A' aP a' w' hk bw=>?_))
    cases e with
    | normal =>
      obtain⟨x',k1,k2⟩:=hk
      exact K5 (inner x') _ Qs Q a' w' (xz k2 bw) (h2 x' k1) hQ
    | exit i=>exact hQ (.exit i) A' aP a' w' hk bw
    | ret=>exact hQ .ret A' aP a' w' hk bw
   ·refine wp_seq (K4 A st _ _ a w hs h (fun e A' aP a' w' hk bw=>?_))
    cases e with
    | normal=>exact K5 A' aP Qs Q a' w' bw hk hQ
    | exit i=>exact hQ (.exit i) A' aP a' w' hk bw
    | ret=>exact hQ .ret A' aP a' w' hk bw
 | cond c x y K4 K5 =>
   intro A st Qs Q a w hs h hQ
   have cO:S.ok (Classical.choose hs.2) st.aB w (st.eval c) (a.eval c):=(Classical.choose_spec hs.2).eval c
   unfold vc at h
   split at h
   ·rename_i e
    rw[e] at cO
    exact wp_cond_true cO (K4 A st Qs Q a w hs h hQ)
   ·rename_i e
    rw[e] at cO
    exact wp_cond_false cO (K5 A st Qs Q a w hs h hQ)
   ·rename_i b e
    rw[e] at cO
    exact wp_cond_split cO.1 (fun hb=>K4 A st Qs Q a w hs (h.1 hb) hQ) (fun hb=>K5 A st Qs Q a w hs (h.2 hb) hQ)
   ·exact h.elim
 | block id x ih =>
   intro A st Qs Q a w hs h hQ
   refine wp_block (ih A st _ _ a w hs h (fun e A' aP a' w' hk bw=>?_))
   cases e with
   | normal=>exact hQ .normal A' aP a' w' hk bw
   | exit i =>
     show Exit.inBlock id Q (.exit i) a' w'
     unfold Exit.inBlock
     simp only at hk ⊢
     split
     ·rename_i e
      rw[if_pos e] at hk
      exact hQ .normal A' aP a' w' hk bw
     ·rename_i e
      rw[if_neg e] at hk
      exact hQ (.exit i) A' aP a' w' hk bw
   | ret=>exact hQ .ret A' aP a' w' hk bw
 | loop x ih =>
   intro A st Qs Q a w hs h hQ
   unfold vc at h
   split at h
   ·rename_i X J I m x0 inner _
    obtain⟨h1,h2,h3⟩:=h
    refine wp_loop_ghost (fun n a w=>∃ y,J y/\m y=n/\Sat base M w0 (I (st.head x) y) a w) (m x0) ⟨x0,h1,rfl,xz h2 hs⟩ (fun n a w hI=>?_)
    obtain⟨y,hy,rfl,QE⟩:=hI
    refine ih (inner y) _ _ _ a w QE (h3 y hy) (fun e A' aP a' w' hk bw=>?_)
    cases e with
    | normal =>
      obtain⟨y',k1,k2,k3⟩:=hk
      exact⟨m y',k2,y',k1,rfl,xz k3 bw⟩
    | exit i=>exact hQ (.exit i) A' aP a' w' hk bw
    | ret=>exact hQ .ret A' aP a' w' hk bw
   ·exact h.elim
 | exit id=>intro A st Qs Q a w hs h hQ;exact wp_exit (hQ (.exit id) A st a w h hs)
 | ret=>intro A st Qs Q a w hs h hQ;exact wp_ret (hQ .ret A st a w h hs)
 | rangeFunc f ps x y=>intro A st Qs Q a w hs h hQ;exact h.elim
 | scope x=>intro A st Qs Q a w hs h hQ;exact h.elim
 | label l=>intro A st Qs Q a w hs h hQ;exact h.elim
 | goto l=>intro A st Qs Q a w hs h hQ;exact h.elim
 | refuse l=>intro A st Qs Q a w hs h hQ;exact h.elim
theorem aH.below{Z:Nat->Prop}{w:World}:∀ {t:Ty} {cs:List Value} {d:t.den},aH Z w t cs d->aH (fun b=>b<w.heap.size) w t cs d:=by
 intro t
 induction t with
 | int k=>exact fun h=>h
 | bool=>exact fun h=>h
 | str=>exact fun h=>h
 | sl e ih =>
   intro cs xs h
   obtain⟨a,cap,h1,h2,h3,h4⟩:=h
   refine⟨a,cap,h1,h2,h3,fun i hi=>?_⟩
   obtain⟨ad,e1,e2,e3,es,e4,e5,e6⟩:=h4 i hi
   refine⟨ad,e1,e2,?_,es,e4,e5,ih e6⟩
   have hp:=e.size_pos
   have:=e5 0 (by omega)
   unfold World.cell? at this
   cases hb:w.heap[ad.block]? with
   | none=>rw[hb] at this;cases this
   | some o=>exact (Array.getElem?_eq_some_iff.1 hb).1
 | st t ih=>exact fun h=>ih h
 | pr a b eM eN =>
   intro cs d h
   obtain⟨c1,c2,h1,h2,h3⟩:=h
   exact⟨c1,c2,h1,eM h2,eN h3⟩
 | ptr t ih =>
   intro cs d h
   obtain⟨b,o,h1,h2,es,h3,h4,h5⟩:=h
   refine⟨b,o,h1,?_,es,h3,h4,ih h5⟩
   have hp:=t.size_pos
   have:=h4 0 (by omega)
   unfold World.cell? at this
   cases hb:w.heap[b]? with
   | none=>rw[hb] at this;cases this
   | some o=>exact (Array.getElem?_eq_some_iff.1 hb).1
 | bS f t ih =>
   intro cs d h
   obtain⟨da,h1,h2⟩:=h
   exact⟨da,h1,ih h2⟩
 | gs wh e ih =>
   intro cs d h
   obtain⟨⟨a,cap,h1,h2,h3,h4⟩,k⟩:=h
   refine⟨⟨a,cap,h1,h2,h3,fun i hi=>?_⟩,k⟩
   obtain⟨ad,e1,e2,e3,es,e4,e5,e6⟩:=h4 i hi
   refine⟨ad,e1,e2,?_,es,e4,e5,ih e6⟩
   have hp:=e.size_pos
   have:=e5 0 (by omega)
   unfold World.cell? at this
   cases hb:w.heap[ad.block]? with
   | none=>rw[hb] at this;cases this
   | some o=>exact (Array.getElem?_eq_some_iff.1 hb).1
def Vl.start(w:World):Vl:=⟨fun _=>0,fun _=>False,fun b=>b<w.heap.size,fun _=>False⟩
theorem Pm{w:World}{b:Nat}(h:b<w.heap.size):(Vl.start w).Z false b:=.inr ⟨rfl,h⟩
theorem G_{w:World}{hp:Nat->az}{t:Ty}{v:Value}{d:t.den}(h:xT gX w t v d):S.ok (Vl.start w) hp w (Io t d) v:=by
 obtain⟨cs,h1,h2⟩:=h
 have hr:aH ((Vl.start w).Z false) w t cs d:=h2.below.mono (fun b hb=>Pm hb) (fun _ _=>rfl)
 have ho:=ni (V:=Vl.start w) (hp:=hp) false t hr
 unfold Io nU
 unfold qS at h1
 cases fN:nR t with
 | true =>
   rw[fN] at h1
   simp only[if_true] at h1 ⊢
   exact⟨cs.toArray,h1,by simpa using ho⟩
 | false =>
   rw[fN] at h1
   simp only[Bool.false_eq_true,if_false] at h1 ⊢
   subst h1
   have hl:=ho.1
   split
   ·rename_i c hc
    rw[hc] at ho
    exact ho.2 0 c v rfl rfl
   ·rename_i hc
    exfalso
    match hx:expand false t d with
    | []=>rw[hx] at hl;cases hl
    | [c]=>exact hc c hx
    | _::_::_=>rw[hx] at hl;simp at hl
theorem CY{w:World}{hp:Nat->az}:∀ {ts:List Ty} {vs:List Value} {d:bU ts},oR gX w ts vs d->(mI ts d).length=vs.length/\vs.length=ts.length ∧
 ∀(i:Nat) s v,(mI ts d)[i]? = some s->vs[i]? = some v->S.ok (Vl.start w) hp w s v
 | [],vs,d,h=>by rw[show vs=[] from h];exact⟨rfl,rfl,fun i s v h=>by cases h⟩
 | [t],vs,d,h=>by
   obtain⟨v,rfl,h2⟩:=h
   refine⟨rfl,rfl,fun i s u hs hu=>?_⟩
   cases i with
   | zero =>
     simp only[mI,List.getElem?_cons_zero,Option.some.injEq] at hs hu
     subst hs;subst hu
     exact G_ h2
   | succ i=>simp[mI] at hs
 | t::u::r,vs,d,h=>by
   obtain⟨v,cg,rfl,h2,h3⟩:=h
   obtain⟨k1,k2,k3⟩:=CY (hp:=hp) h3
   refine⟨by simp[mI,k1],by simp[k2],fun i s x hs hx=>?_⟩
   cases i with
   | zero =>
     simp only[mI,List.getElem?_cons_zero,Option.some.injEq] at hs hx
     subst hs;subst hx
     exact G_ h2
   | succ i=>exact k3 i s x (by simpa[mI] using hs) (by simpa using hx)
theorem Ha{w:World}:∀ {ts:List Ty} {vs:List Value} {d:bU ts},oR gX w ts vs d->zt ts d
 | [],_,_,_=>trivial
 | [t],vs,d,h=>by obtain⟨v,_,cs,_,h2⟩:=h;exact h2.wf
 | t::u::r,vs,d,h=>by
   obtain⟨v,cg,_,⟨cs,_,h2⟩,h3⟩:=h
   exact⟨h2.wf,Ha h3⟩
theorem Lr(w:World):Mem w.heap.size tP w (Vl.start w) (fun _=>.dead) w :=
 ⟨fun _=>trivial,(fun n cs h=>by cases h),(fun n h=>by cases h),(fun n e xs h=>by cases h),(fun n m h=>by cases h),fun b h=>⟨h,trivial⟩,fun b (h:False)=>h.elim,⟨rfl,rfl,rfl,Nat.le_refl _,fun _ _ _=>rfl,fun _ _ _ _ h _=>h.elim⟩,fun n h=>h.elim,fun b (h:False)=>h.elim,fun n (h:False)=>h.elim⟩
theorem LV{w:World}{ts:List Ty}{vs:List Value}{d:bU ts}(h:oR gX w ts vs d)(n:Nat) :
 Sat w.heap.size tP w (St.start ts d n) { tmps:=vs.toArray++Array.replicate (n-vs.toArray.size) undef,defers:=[] } w:=by
 obtain⟨h1,h2,h3⟩:=CY (hp:=fun _=>.dead) h
 have he:(St.start ts d n).aB=fun _=>.dead:=by
  funext k
  show nth .dead ([]:List az) k=_
  rw[cB];rfl
 have hl:(St.start ts d n).ts=mI ts d++List.replicate (n-vs.length) .eP:=by
  show dg _ (pB _ _)=_
  rw[bN,mu,cx,h2]
 refine⟨rfl,Vl.start w,⟨by rw[hl];simp[h1],fun i s v hs hv=>?_,by rw[he];exact Lr w⟩⟩
 rw[he]
 rw[hl] at hs
 have dJ:(vs++List.replicate (n-vs.length) undef)[i]? = some v:=by
  rw[<-hv]
  simp only[Array.getElem?_append,List.getElem?_append,List.getElem?_toArray,List.size_toArray,Array.getElem?_replicate,List.getElem?_replicate]
 rcases Nat.lt_or_ge i vs.length with hi|hi
 ·rw[List.getElem?_append_left (by omega)] at hs
  rw[List.getElem?_append_left hi] at dJ
  exact h3 i s v hs dJ
 ·rw[List.getElem?_append_right (by omega),List.getElem?_replicate] at hs
  rw[List.getElem?_append_right hi,List.getElem?_replicate] at dJ
  split at hs
  ·injection hs with hs;subst hs
   split at dJ
   ·injection dJ with dJ;exact dJ.symm
   ·cases dJ
  ·cases hs
end
end Go.SX
/- What a function hands back. No condition. -/
namespace Go.SX
open Go.RowKit
set_option linter.unusedVariables false
set_option linter.unusedSimpArgs false
section
variable {P : Program} {T : bT} {Γ : FuncId → Option PC} {R : FuncId → Option dk} {V : Vl} {hp : Nat → az} {w : World}
open Classical in
noncomputable def ez(V:Vl):List Nat->List Nat
 | []=>[]
 | n::r=>if V.has n then V.aI n::ez V r else ez V r
theorem tF(a b:List Nat):ez V (a++b)=ez V a++ez V b:=by
 induction a with
 | nil=>rfl
 | cons n a ih =>
   simp only[List.cons_append,ez]
   split<;>simp[ih]
theorem yS{ns:List Nat}{b:Nat}(h:b∈ez V ns):∃ n∈ns,V.has n/\V.aI n=b:=by
 induction ns with
 | nil=>cases h
 | cons n ns ih =>
   unfold ez at h
   split at h
   ·rename_i hh
    rcases List.mem_cons.1 h with rfl|h
    ·exact⟨n,List.mem_cons_self ..,hh,rfl⟩
    ·obtain⟨m,h1,h2⟩:=ih h
     exact⟨m,List.mem_cons_of_mem _ h1,h2⟩
   ·obtain⟨m,h1,h2⟩:=ih h
    exact⟨m,List.mem_cons_of_mem _ h1,h2⟩
def CO(hp:Nat->az)(n:Nat):Prop:=∃ e xs,hp n = .row true e xs
theorem HX{n h:Nat}{e:Ty}{xs:List e.den}{v:Value}(he:(az.row true e xs).ok V hp w n)(hr:dT V w n e h v)(hh:h<=xs.length) :
 ∃ bs,l7 (V.Z true) w (.sl e) [v] (xs.take h) bs/\bs.filterMap id=ez V [n]:=by
 have hlen:(xs.take h).length=h:=by rw[List.length_take];omega
 rcases hr with ⟨h1,rfl,rfl⟩|⟨h1,cap,ay,el,rfl,h3,h4,h5⟩
 ·exact⟨[none],.inl ⟨rfl,by simp,rfl⟩,by simp[ez,h1]⟩
 ·rcases he with ⟨k1,_⟩|⟨_,cS,kW,k2,k3,k4⟩
  ·exact absurd h1 k1
  ·rw[k2] at h3
   injection h3 with h3
   injection h3 with e1 e2 e3
   subst e1
   refine⟨[some (V.aI n)],.inr ⟨V.aI n,cap,cS,kW,by rw[hlen],rfl,k2,h4,by rw[hlen];exact h5,by rw[hlen];omega,fun i hi=>?_⟩,by simp[ez,h1]⟩
   rw[hlen] at hi
   obtain⟨es,k5,k6,k7⟩:=k4 i (by omega)
   exact⟨es,k5,k6,by rw[List.getElem_take];exact k7⟩
theorem HQ{Z:Nat->Prop}{e' e:Ty}{cs:List Value}{xs:List e'.den}{ys:List e.den}{bs:List (Option Nat)}(h:l7 Z w (.sl e') cs xs bs)(k:jP e' e xs=some ys):l7 Z w (.sl e) cs ys bs:=by
 have hl:=l8 k
 rcases h with ⟨h1,h2,h3⟩|⟨b,cap,ay,el,h1,h2,h3,h4,h5,h6,h7⟩
 ·exact .inl ⟨h1,by rw[h2] at hl;exact List.length_eq_zero_iff.1 hl,h3⟩
 ·refine .inr ⟨b,cap,ay,el,by rw[hl];exact h1,h2,h3,by rw[<-(rY k).1];exact h4,by rw[hl];exact h5,by rw[hl];exact h6,fun i hi=>?_⟩
  obtain⟨es,k5,k6,k7⟩:=h7 i (by rw[<-hl];exact hi)
  exact⟨es,by rw[<-(rY k).1];exact k5,by rw[<-(rY k).1];exact k6,Ka k hi k7⟩
theorem M8(he:∀ n,(hp n).ok V hp w n){e:Ty}{c:C}{xs:List e.den}{ns:List Nat}{v:Value}(h:I2 hp e c=some (xs,ns))(ho:C.ok V hp w c v) :
 ∃ bs,l7 (V.Z true) w (.sl e) [v] xs bs/\bs.filterMap id=ez V ns/\∀ n∈ns,CO hp n:=by
 unfold I2 at h
 split at h
 ·rename_i n
  split at h
  ·rename_i e' bI hn
   rw[dB] at h
   obtain⟨ys,hk,h⟩:=Option.map_eq_some_iff.1 h
   injection h with h1 h2;subst h1;subst h2
   obtain⟨fr,e2,lO,h3,h4⟩:=ho
   rw[hn] at h3
   injection h3 with e1 e2 e3
   subst e1;subst e2;cases e3
   have h2:=he n
   rw[hn] at h2
   obtain⟨bs,k1,k2⟩:=HX h2 h4 (Nat.le_refl _)
   rw[List.take_length] at k1
   exact⟨bs,HQ k1 hk,k2,fun m hm=>by rw[List.mem_singleton.1 hm];exact⟨_,_,hn⟩⟩
  ·cases h
 ·rename_i n m
  split at h
  ·rename_i e' bI hn
   rw[dB] at h
   obtain⟨ys,hk,h⟩:=Option.map_eq_some_iff.1 h
   injection h with h1 h2;subst h1;subst h2
   obtain⟨fr,e2,lO,h3,h5,h4⟩:=ho
   rw[hn] at h3
   injection h3 with e1 e2 e3
   subst e1;subst e2;cases e3
   have h2:=he n
   rw[hn] at h2
   obtain⟨bs,k1,k2⟩:=HX h2 h4 h5
   exact⟨bs,HQ k1 hk,k2,fun m hm=>by rw[List.mem_singleton.1 hm];exact⟨_,_,hn⟩⟩
  ·cases h
 ·injection h with h;injection h with h1 h2;subst h1;subst h2
  exact⟨[none],.inl ⟨by rw[ho.1],rfl,rfl⟩,rfl,fun n hn=>by cases hn⟩
 ·cases h
theorem mU{c:C}{r:List C}{vs:List Value}(h:br V hp w (c::r) vs):∃ v cg,vs=v::cg/\C.ok V hp w c v/\br V hp w r cg:=by
 cases vs with
 | nil=>have:=h.1;cases this
 | cons v vs=>exact⟨v,vs,rfl,h.2 0 c v rfl rfl,by simpa using h.1,fun j c u hc hu=>h.2 (j+1) c u (by simpa using hc) (by simpa using hu)⟩
theorem rI(he:∀ n,(hp n).ok V hp w n):∀(t:Ty) {cs:List C} {d:t.den} {ns:List Nat} {rest:List C} {vs:List Value},pE hp t cs=some (d,ns,rest)->br V hp w cs vs →
 ∃ v1 v2 bs,vs=v1++v2/\l7 (V.Z true) w t v1 d bs/\bs.filterMap id=ez V ns/\(∀ n∈ns,CO hp n)/\br V hp w rest v2
 | .int k,cs,d,ns,rest,vs,h,ho=>by
   unfold pE at h
   split at h
   ·rename_i x r hh
    injection h with h;injection h with h1 h2;injection h2 with h2 h3;subst h1;subst h2;subst h3
    obtain⟨c,rfl,hc⟩:=bC hh
    obtain⟨v,cg,rfl,h1,h2⟩:=mU ho
    exact⟨[v],cg,[],rfl,⟨by rw[(sZ hc h1).1];exact⟨rfl,(sZ hc h1).2⟩,rfl⟩,rfl,(fun n hn=>by cases hn),h2⟩
   ·cases h
 | .bool,cs,d,ns,rest,vs,h,ho=>by
   unfold pE at h
   split at h
   ·rename_i x r hh
    injection h with h;injection h with h1 h2;injection h2 with h2 h3;subst h1;subst h2;subst h3
    obtain⟨c,rfl,hc⟩:=bC hh
    obtain⟨v,cg,rfl,h1,h2⟩:=mU ho
    exact⟨[v],cg,[],rfl,⟨by rw[u3 hc h1];rfl,rfl⟩,rfl,(fun n hn=>by cases hn),h2⟩
   ·cases h
 | .str,cs,d,ns,rest,vs,h,ho=>by
   unfold pE at h
   split at h
   ·rename_i x r hh
    injection h with h;injection h with h1 h2;injection h2 with h2 h3;subst h1;subst h2;subst h3
    obtain⟨c,rfl,hc⟩:=bC hh
    obtain⟨v,cg,rfl,h1,h2⟩:=mU ho
    exact⟨[v],cg,[],rfl,⟨by rw[(je hc h1).1];exact⟨rfl,(je hc h1).2⟩,rfl⟩,rfl,(fun n hn=>by cases hn),h2⟩
   ·cases h
 | .sl e,cs,d,ns,rest,vs,h,ho=>by
   unfold pE at h
   split at h
   ·rename_i x Sr r hh
    injection h with h;injection h with h1 h2;injection h2 with h2 h3;subst h1;subst h2;subst h3
    obtain⟨c,rfl,hc⟩:=bC hh
    obtain⟨v,cg,rfl,h1,h2⟩:=mU ho
    obtain⟨bs,k1,k2,k3⟩:=M8 he hc h1
    exact⟨[v],cg,bs,rfl,k1,k2,k3,h2⟩
   ·cases h
 | .st t,cs,d,ns,rest,vs,h,ho=>rI he t h ho
 | .ptr t,cs,d,ns,rest,vs,h,ho=>by cases h
 | .bS f t,cs,d,ns,rest,vs,h,ho=>by cases h
 | .pr a b,cs,d,ns,rest,vs,h,ho=>by
   unfold pE at h
   split at h
   ·rename_i x Ur r h1
    split at h
    ·rename_i y ms r' h2
     injection h with h;injection h with e1 e2;injection e2 with e2 e3;subst e1;subst e2;subst e3
     obtain⟨v1,v2,b1,rfl,k2,k3,k4,k5⟩:=rI he a h1 ho
     obtain⟨u1,u2,b2,rfl,j2,j3,j4,j5⟩:=rI he b h2 k5
     refine⟨v1++u1,u2,b1++b2,by rw[List.append_assoc],⟨v1,u1,b1,b2,rfl,rfl,k2,j2⟩,?_,fun n hn=>?_,j5⟩
     ·rw[List.filterMap_append,k3,j3,bN,tF]
     ·rw[bN] at hn
      rcases List.mem_append.1 hn with hn|hn
      ·exact k4 n hn
      ·exact j4 n hn
    ·cases h
   ·cases h
theorem y1{vs:List Value}(h:br V hp w [] vs):vs=[]:=by
 have:=h.1
 cases vs with
 | nil=>rfl
 | cons _ _=>cases this
theorem HP(he:∀ n,(hp n).ok V hp w n){t:Ty}{s:S}{d:t.den}{ns:List Nat}{v:Value}(h:I1 hp t s=some (d,ns))(ho:S.ok V hp w s v) :
 ∃ bs,xS (V.Z true) w t v d bs/\bs.filterMap id=ez V ns/\∀ n∈ns,CO hp n:=by
 unfold I1 at h
 split at h
 ·rename_i x
  split at h
  ·cases h
  ·rename_i fN
   split at h
   ·rename_i d' Sr hh
    injection h with h;injection h with h1 h2;subst h1;subst h2
    obtain⟨v1,v2,bs,k1,k2,k3,k4,k5⟩:=rI he t (vs:=[v]) hh ⟨rfl,fun j c u hc hu=>by
     cases j with
     | zero=>simp only[List.getElem?_cons_zero,Option.some.injEq] at hc hu;subst hc;subst hu;exact ho
     | succ j=>simp at hc⟩
    rw[y1 k5,List.append_nil] at k1
    refine⟨bs,⟨v1,?_,k2⟩,k3,k4⟩
    unfold qS
    rw[if_neg fN,k1]
   ·cases h
 ·rename_i cs
  split at h
  ·rename_i fN
   split at h
   ·rename_i d' Sr hh
    injection h with h;injection h with h1 h2;subst h1;subst h2
    obtain⟨vs,e1,e2⟩:=ho
    obtain⟨v1,v2,bs,k1,k2,k3,k4,k5⟩:=rI he t hh e2
    rw[y1 k5,List.append_nil] at k1
    refine⟨bs,⟨v1,?_,k2⟩,k3,k4⟩
    unfold qS
    rw[if_pos fN,e1,<-k1]
   ·cases h
  ·cases h
 ·cases h
theorem Bo(he:∀ n,(hp n).ok V hp w n):∀ {ts:List Ty} {ss:List S} {d:bU ts} {ns:List Nat} {vs:List Value},y4 hp ts ss=some (d,ns)->ss.length=vs.length →
 (∀(i:Nat) s v,ss[i]? = some s->vs[i]? = some v->S.ok V hp w s v)->∃ bs,gu (V.Z true) w ts vs d bs/\bs.filterMap id=ez V ns/\∀ n∈ns,CO hp n
 | [],[],d,ns,vs,h,hl,ho=>by
   injection h with h;injection h with h1 h2;subst h2
   have:vs=[]:=by cases vs with|nil=>rfl|cons _ _=>cases hl
   exact⟨[],⟨this,rfl⟩,rfl,fun n hn=>by cases hn⟩
 | [],_::_,d,ns,vs,h,hl,ho=>by cases h
 | [t],[s],d,ns,vs,h,hl,ho=>by
   match vs,hl with
   | [v],_ =>
     obtain⟨bs,k1,k2,k3⟩:=HP he h (ho 0 s v rfl rfl)
     exact⟨bs,⟨v,rfl,k1⟩,k2,k3⟩
 | [t],[],d,ns,vs,h,hl,ho=>by cases h
 | [t],_::_::_,d,ns,vs,h,hl,ho=>by cases h
 | t::u::r,[],d,ns,vs,h,hl,ho=>by cases h
 | t::u::r,s::ss,d,ns,vs,h,hl,ho=>by
   unfold y4 at h
   split at h
   ·rename_i x Ur h1
    split at h
    ·rename_i y ms h2
     injection h with h;injection h with e1 e2;subst e1;subst e2
     match vs,hl with
     | v::cg,hl =>
       obtain⟨b1,k1,k2,k3⟩:=HP he h1 (ho 0 s v rfl rfl)
       obtain⟨b2,j1,j2,j3⟩:=Bo he h2 (vs:=cg) (by simpa using hl) (fun i s u hs hu=>ho (i+1) s u (by simpa using hs) (by simpa using hu))
       refine⟨b1++b2,⟨v,cg,b1,b2,rfl,rfl,k1,j1⟩,?_,fun n hn=>?_⟩
       ·rw[List.filterMap_append,k2,j2,bN,tF]
       ·rw[bN] at hn
        rcases List.mem_append.1 hn with hn|hn
        ·exact k3 n hn
        ·exact j3 n hn
    ·cases h
   ·cases h
theorem Bm:∀ {ns:List Nat},yW ns=true->ns.Nodup
 | [],_=>List.nodup_nil
 | n::r,h=>by
   simp only[yW,Bool.and_eq_true,rB,Bool.not_eq_true',List.any_eq_false] at h
   refine List.nodup_cons.2 ⟨fun hn=>?_,Bm h.2⟩
   have:=h.1 n hn
   simp at this
theorem yX{base:Nat}{M:LM}{w0:World}(m:Mem base M w0 V hp w):∀ {ns:List Nat},ns.Nodup->(∀ n∈ns,CO hp n)->(ez V ns).Nodup
 | [],_,_=>List.nodup_nil
 | n::r,h,hr=>by
   obtain⟨h1,h2⟩:=List.nodup_cons.1 h
   have ih:=yX m h2 (fun k hk=>hr k (List.mem_cons_of_mem _ hk))
   unfold ez
   split
   ·rename_i hh
    refine List.nodup_cons.2 ⟨fun hm=>?_,ih⟩
    obtain⟨k,k1,k2,k3⟩:=yS hm
    obtain⟨_,_,e1⟩:=hr n (List.mem_cons_self ..)
    obtain⟨_,_,e2⟩:=hr k (List.mem_cons_of_mem _ k1)
    have:=m.fZ k n (by rw[e2];rfl) (by rw[e1];rfl) k2 hh k3
    subst this
    exact h1 k1
   ·exact ih
theorem s6{base:Nat}{M:LM}{w0:World}(hT:bJ P T){st:St}{a:Act}(r:Rel base M w0 V st a.tmps w):∀ {l:List ResultVar} {ss:List S},u5 T st l=some ss →
 ∃ vs:List Value,ss.length=vs.length/\(∀(i:Nat) s v,ss[i]? = some s->vs[i]? = some v->S.ok V st.aB w s v) ∧
  ∀ f:ResultVar->Sem Value,(∀ t,f (.tmp t)=pure (a.tmps.getD t undef))->(∀ b t,f (.cell b t)=do loadVar t (<-asAddr (a.tmps.getD b undef)))->(l.mapM f).run P w = .ok vs w
 | [],ss,h=>by injection h with h;subst h;exact⟨[],rfl,(fun i s v h=>by cases h),fun f _ _=>by simp⟩
 | x::xs,ss,h=>by
   unfold u5 at h
   split at h
   ·rename_i s Va h1 h2
    injection h with h;subst h
    obtain⟨vs,k1,k2,k3⟩:=s6 hT r h2
    have one:∃ v,S.ok V st.aB w s v/\∀ f:ResultVar->Sem Value,(∀ t,f (.tmp t)=pure (a.tmps.getD t undef))->(∀ b t,f (.cell b t)=do loadVar t (<-asAddr (a.tmps.getD b undef)))->(f x).run P w = .ok v w:=by
     cases x with
     | tmp t =>
       injection h1 with h1;subst h1
       exact⟨_,r.eval (.tmp t),fun f hf _=>by rw[hf,Sem.run_pure];rfl⟩
     | cell b t =>
       simp only[Q_] at h1
       split at h1
       ·rename_i m o hb
        have hv:=r.eval (.tmp b)
        rw[hb] at hv
        rw[dB] at h1
        cases hq:zj T st.aB t (.box m o) with
        | none=>rw[hq] at h1;cases h1
        | some q =>
          rw[hq] at h1
          injection h1 with h1;subst h1
          obtain⟨_,_,v,e1,e2⟩:=By (v:=a.tmps.getD b undef) hT (iz.dx r) hq hv
          refine⟨v,e2,fun f _ hf=>?_⟩
          have hp:a.tmps.getD b undef = .pointer (some ⟨V.aI m,o,none⟩):=hv.1
          rw[hf]
          rw[hp] at e1 ⊢
          rw[<-e1]
          unfold Instr.loadAt Instr.sureAddr asAddr
          simp
       ·cases h1
    obtain⟨v,j1,j2⟩:=one
    refine⟨v::vs,by simp[k1],fun i s' u hs hu=>?_,fun f hf hc=>?_⟩
    ·cases i with
     | zero=>simp only[List.getElem?_cons_zero,Option.some.injEq] at hs hu;subst hs;subst hu;exact j1
     | succ i=>exact k2 i s' u (by simpa using hs) (by simpa using hu)
    ·rw[List.mapM_cons,Sem.run_bind,j2 f hf hc,Result.andThen_ok,Sem.run_bind,k3 f hf hc,Result.andThen_ok,Sem.run_pure]
   ·cases h
theorem wW{fn:Func}{tmps:Array Value}{w:World}{vs:List Value}(h:∀ f:ResultVar->Sem Value,(∀ t,f (.tmp t)=pure (tmps.getD t undef))->(∀ b t,f (.cell b t)=do loadVar t (<-asAddr (tmps.getD b undef)))->(fn.results.toList.mapM f).run P w = .ok vs w) :
 (results fn tmps).run P w = .ok (mV vs) w:=by
 have hr:fn.results=fn.results.toList.toArray:=by simp
 unfold results
 rw[hr,List.mapM_toArray]
 simp only[Sem.run_bind,map_eq_pure_bind]
 rw[h _ (fun t=>rfl) (fun b t=>rfl)]
 simp only[Result.andThen_ok,Sem.run_pure]
 congr 1
 match vs with
 | []=>rfl
 | [t]=>rfl
 | t::u::r=>simp[mV]
theorem G6(hm:P.follows .mixedOrders=true)(hT:bJ P T)(hΓ:eQ P Γ)(hR:dP P R){f:FuncId}{fn:Func}(hf:P.funcs[f]? = some fn){c:PC}{A:bU c.ts->Nat->Option bk}
 (h:ar T Γ R fn c A):vq P f c:=by
 intro w args d hargs kn
 unfold ar at h
 split at h
 ·rename_i code hb
  have hv:=h d (Ha hargs) kn
  refine calls_of_wp hf hb (Ot hm hT hΓ hR code (A d) _ _ _ _ w (LV hargs fn.ntmps) hv (fun e A' aP a' w' hk bw=>?_))
  obtain⟨hd,V,r⟩:=bw
  have key:e ≠ .normal\/e = .normal->FL T fn c.rs (c.F d) e aP->(∃ i,e = .exit i)\/∃ v,(results fn a'.tmps).run P w' = .ok v w'/\vr w w' c.rs v (c.F d):=by
   intro _ hp
   unfold FL at hp
   split at hp
   ·exact hp.elim
   ·right
    split at hp
    ·rename_i ss QD
     split at hp
     ·rename_i x ns ho
      split at hp
      ·rename_i lR
       obtain⟨vs,e1,e2,e3⟩:=s6 hT r QD
       refine⟨_,wW e3,?_⟩
       obtain⟨bs,k1,k2,k3⟩:=Bo (vs:=vs) r.mem.dx ho e1 e2
       rw[<-hp]
       refine⟨⟨V.Z true,bs,_,rfl,k1,by rw[k2];exact yX r.mem (Bm lR) k3,fun b hb=>?_,fun b hb=>?_⟩,r.mem.kept⟩
       ·have fu:b∈bs.filterMap id:=List.mem_filterMap.2 ⟨some b,hb,rfl⟩
        rw[k2] at fu
        obtain⟨n,h1,h2,rfl⟩:=yS fu
        obtain⟨e,xs,h3⟩:=k3 n h1
        obtain⟨_,h4,h5⟩:=r.mem.own n (by rw[h3];rfl) h2
        exact⟨r.mem.iZ n e xs h3 h2,h4,fun hz=>h5 (Vl.eD hz)⟩
       ·rcases hb with hb|⟨hb,_⟩
        ·exact r.mem.z1 b hb
        ·cases hb
      ·exact hp.elim
     ·exact hp.elim
    ·exact hp.elim
  have pv:=key (Classical.em _ |>.symm) hk
  cases e with
  | normal =>
    rcases pv with ⟨i,h⟩|⟨v,h1,h2⟩
    ·cases h
    ·exact⟨hd,v,h1,v,rfl,h2⟩
  | exit i=>exact hk.elim
  | ret =>
    rcases pv with ⟨i,h⟩|⟨v,h1,h2⟩
    ·cases h
    ·exact⟨hd,v,h1,v,rfl,h2⟩
 ·exact h.elim
end
end Go.SX
/- From a statement's arguments to data; from a contract to a statement. No condition. -/
namespace Go.SX
open Go.RowKit Go.WideShapes Go.ChangeShapes
set_option linter.unusedVariables false
set_option linter.unusedSimpArgs false
def Dn(P:Program)(PF:Ty->TypeId->Bool):Ty->List Field->Nat->Bool
 | .pr a b,f::g::r,o=>f.offset == o&&P.cellsOf f.type == a.size&&PF a f.type&&Dn P PF b (g::r) (o+a.size)
 | t,[f],o=>f.offset == o&&P.cellsOf f.type == t.size&&PF t f.type
 | _,_,_=>false
def w6(P:Program):Nat->Ty->TypeId->Bool
 | 0,_,_=>false
 | n+1,ty,t =>
   match ty,P.underlying t with
   | .int k,some (.int k')=>decide (k'=k)
   | .bool,some .bool=>true
   | .str,some .string=>true
   | .sl e,some (.slice te)=>P.cellsOf te == e.size&&w6 P n e te
   | .st wZ,some (.struct fs)=>P.cellsOf t == wZ.size&&Dn P (w6 P n) wZ fs.toList 0
   | _,_=>false
section
variable {H : Type} {enc : TypeId × Value → H} {P : Program} {w : World} {base : Nat} {spare : Nat → Bool} {held : Bool}
theorem Ll{k:IntKind}{n:Int}(h:(Lit.int k n).wf=true):k.min<=n/\n<=k.max:=by
 simpa[Lit.wf] using h
theorem wv{a:Addr}{n:Nat}{cs:List Value}(h:w.cells? base a n=some cs):cs.length=n/\∀ j,j<n->w.cell? (a.add j)=cs[j]? := by
 unfold World.cells? at h
 split at h
 ·exact⟨by simpa using mapM_some_length h,fun j hj=>mapM_some_get h j j (by simp[hj])⟩
 ·cases h
theorem CW(b off n:Nat):(Addr.mk b off none).add n=⟨b,off+n,none⟩:=by
 unfold Addr.add
 split
 ·rename_i h;subst h;rfl
 ·rfl
theorem Pp:∀(m:Nat) (ty:Ty) (t:TypeId) (fuel:Nat) (cs:List Value) (x:DataW H×List MemPlace),w6 P m ty t=true->DataW.trod enc P w base spare held fuel t cs=some x->∃ d,aH gX w ty cs d:=by
 intro m
 induction m with
 | zero=>intro ty t fuel cs x h;cases h
 | succ m ih =>
   intro ty t fuel cs x h hx
   unfold w6 at h
   split at h
   ·rename_i k k' hu
    have:=of_decide_eq_true h
    subst this
    obtain⟨n,rfl,_,hw⟩:=DataW.trod_int hu hx
    exact⟨n,rfl,Ll hw⟩
   ·rename_i hu
    obtain⟨b,rfl,_⟩:=DataW.trod_bool hu hx
    exact⟨b,rfl⟩
   ·rename_i hu
    obtain⟨s,rfl,_,hs⟩:=DataW.trod_string hu hx
    exact⟨s,rfl,hs⟩
   ·rename_i e te hu
    simp only[Bool.and_eq_true,beq_iff_eq] at h
    obtain⟨hc,he⟩:=h
    rcases DataW.trod_slice hu hx with ⟨rfl,_⟩|⟨a,len,cap,elems,rest,n,_,rfl,_,_,h2,h3,h4,h5,_,_⟩
    ·exact⟨[],none,0,rfl,Nat.le_refl _,Nat.zero_le _,fun i hi=>by simp at hi⟩
    ·have each:∀ i,i<len->∃ es d,w.cells? base (a.add (i*P.cellsOf te)) (P.cellsOf te)=some es/\aH gX w e es d:=by
      intro i hi
      have:=h5 i hi
      rw[List.getElem?_eq_getElem (by omega)] at this
      obtain⟨es,k1,k2⟩:=Option.bind_eq_some_iff.1 this
      obtain⟨d,hd⟩:=ih e te n es _ he k2
      exact⟨es,d,k1,hd⟩
     have list:∀ l,l<=len->∃ xs:List e.den,xs.length=l/\∀ i (hi:i<xs.length),∃ es,w.cells? base (a.add (i*P.cellsOf te)) (P.cellsOf te)=some es/\aH gX w e es xs[i]:=by
      intro l
      induction l with
      | zero=>intro _;exact⟨[],rfl,fun i hi=>by simp at hi⟩
      | succ l Uh =>
        intro hl
        obtain⟨xs,k1,k2⟩:=Uh (by omega)
        obtain⟨es,d,k3,k4⟩:=each l (by omega)
        refine⟨xs++[d],by simp[k1],fun i hi=>?_⟩
        rcases Nat.lt_or_ge i xs.length with dY|dY
        ·rw[List.getElem_append_left dY];exact k2 i dY
        ·have:i=l:=by simp at hi;omega
         subst this
         rw[List.getElem_append_right dY]
         simp only[k1,Nat.sub_self,List.getElem_cons_zero]
         exact⟨es,k3,k4⟩
     obtain⟨xs,k1,k2⟩:=list len (Nat.le_refl _)
     refine⟨xs,some a,cap,by rw[k1],by omega,by unfold cQ;unfold maxLen at h3;omega,fun i hi=>?_⟩
     obtain⟨es,k3,k4⟩:=k2 i hi
     obtain⟨k5,k6⟩:=wv k3
     have hp:=e.size_pos
     have N4:a.spot=none:=by
      obtain⟨US,Un,_⟩:=k2 0 (by omega)
      obtain⟨U7,Uo⟩:=wv Un
      have h0:=Uo 0 (by omega)
      rw[List.getElem?_eq_getElem (by omega)] at h0
      simpa[Addr.add] using World.cell?_spot h0
     refine⟨a,rfl,N4,trivial,es,by omega,fun j hj=>?_,k4⟩
     have:=k6 j (by omega)
     rw[List.getElem?_eq_getElem hj] at this
     obtain⟨b,off,spot⟩:=a
     simp only at N4
     subst N4
     rw[<-this]
     rw[CW,CW,hc]
   ·rename_i wZ fs hu
    simp only[Bool.and_eq_true,beq_iff_eq] at h
    obtain⟨hc,hf⟩:=h
    obtain⟨xs,n,_,_,hl,pw,SR⟩:=DataW.trod_struct hu hx
    rw[hc] at hl
    have key:∀(fl:List Field) (ty:Ty) (o:Nat),Dn P (w6 P m) ty fl o=true->o+ty.size<=cs.length →
     (∀ f∈fl,∃ y,DataW.trod enc P w base spare held n f.type ((cs.drop f.offset).take (P.cellsOf f.type))=some y)->∃ d,aH gX w ty ((cs.drop o).take ty.size) d:=by
     intro fl
     induction fl with
     | nil=>intro ty o h;unfold Dn at h;split at h<;>first|cases h|(rename_i h0;cases h0)|(rename_i h0 _;cases h0)
     | cons f fl Ug =>
       intro ty o h ho hy
       have one:∀ {ty:Ty},(f.offset == o&&P.cellsOf f.type == ty.size&&w6 P m ty f.type)=true->∃ d,aH gX w ty ((cs.drop o).take ty.size) d:=by
        intro ty h
        simp only[Bool.and_eq_true,beq_iff_eq] at h
        obtain⟨⟨h1,h2⟩,h3⟩:=h
        obtain⟨y,hy⟩:=hy f (List.mem_cons_self ..)
        rw[h1,h2] at hy
        exact ih ty f.type n _ y h3 hy
       cases fl with
       | nil=>exact one (by cases ty<;>exact h)
       | cons g r =>
         cases ty with
         | pr a b =>
           have h':(f.offset == o&&P.cellsOf f.type == a.size&&w6 P m a f.type&&Dn P (w6 P m) b (g::r) (o+a.size))=true:=h
           rw[Bool.and_eq_true] at h'
           obtain⟨h1,h2⟩:=h'
           have ck:(Ty.pr a b).size=a.size+b.size:=rfl
           obtain⟨d1,k1⟩:=one h1
           obtain⟨d2,k2⟩:=Ug b (o+a.size) h2 (by rw[ck] at ho;omega) (fun f' KF=>hy f' (List.mem_cons_of_mem _ KF))
           refine⟨(d1,d2),_,_,?_,k1,k2⟩
           rw[ck,<-List.drop_drop,List.take_add]
         | _=>cases h
    obtain⟨d,hd⟩:=key fs.toList wZ 0 hf (by omega) (fun f hf=>by
     obtain⟨i,hi,rfl⟩:=List.getElem_of_mem hf
     have dY:i<fs.size:=by simpa using hi
     have:=SR i (fs[i]) (Array.getElem?_eq_getElem dY)
     rw[List.getElem?_eq_getElem (by omega)] at this
     exact⟨_,by simpa using this⟩)
    rw[List.drop_zero,<-hl,List.take_length] at hd
    exact⟨d,hd⟩
   ·cases h
theorem Q9{m:Nat}{ty:Ty}{t:TypeId}{v:Value}{d:DataW H}{ps:List MemPlace}{r:Reach}{b0:Nat}(h:w6 P m ty t=true)(hv:Value.okWide P w r b0 t v)(hd:DataW.Trod enc P w base spare held t v d ps) :
 ∃ x,xT gX w ty v x:=by
 obtain⟨fuel,hf⟩:=hd
 obtain⟨x,hx⟩:=Pp m ty t fuel _ _ h hf
 refine⟨x,v.cells.toList,?_,hx⟩
 unfold qS
 cases m with
 | zero=>cases h
 | succ m =>
   unfold w6 at h
   split at h
   ·rename_i k k' hu
    obtain⟨n,rfl⟩:=okWide_int hu hv
    rfl
   ·rename_i hu
    obtain⟨n,rfl⟩:=okWide_bool hu hv
    rfl
   ·rename_i hu
    obtain⟨n,rfl⟩:=okWide_string hu hv
    rfl
   ·rename_i e te hu
    obtain⟨a,len,cap,rfl⟩:=okWide_slice hu hv
    rfl
   ·rename_i wZ fs hu
    obtain⟨cs,rfl,_⟩:=okWide_struct hu hv
    rfl
   ·cases h
theorem BQ{W W':World}(h:Kept W.heap.size tP W W'):Below W.heap.size W W' :=
 ⟨h.os,h.tape,h.output,h.size,fun k hk=>h.block k hk (fun h=>h)⟩
def MZ(ts:List Ty):PC:={ ts:=ts,rs:=[.bool],pre:=fun _=>True,F:=fun _=>true }
theorem K_{f:FuncId}{ts:List Ty}(h:vq P f (MZ ts)){W:World}{args:List Value}{d:bU ts}(ha:oR gX W ts args d) :
 Calls P f args.toArray W fun e W'=>e = .returned (.bool true)/\Below W.heap.size W W' :=
 (h W args d ha trivial).mono fun e W' hr=>by
   obtain⟨v,rfl,⟨⟨Z1,bs,vs,rfl,hv,_⟩,hk⟩⟩:=hr
   obtain⟨u,rfl,cs,h1,h2,h3⟩:=hv
   have ux:cs=[u]:=h1
   have tK:cs=[.bool true]:=h2
   rw[ux] at tK
   injection tK with tK _
   exact⟨by rw[tK];rfl,BQ hk⟩
end
end Go.SX
/- Functions that write into the rows that their first argument holds. No condition. -/
namespace Go.SX
open Go.RowKit
set_option linter.unusedVariables false
set_option linter.unusedSimpArgs false
structure MC where
 t:Ty
 pre:t.den->Int->Prop
 F:t.den->Int->Int
 G:t.den->Int->t.den
def az.y2:az->az
 | .row _ e xs=>.row false e xs
 | e=>e
section
variable {P : Program} {T : bT} {Γ : FuncId → Option PC} {R : FuncId → Option dk} {base : Nat} {M : LM} {w0 : World} {V : Vl} {hp : Nat → az} {w w' : World}
theorem Lh{fr:Bool}{e:Ty}{xs:List e.den}(h:e.flat=true):(az.row fr e xs).gJ=[]:=by
 cases fr with
 | true=>rfl
 | false=>show (if e.bW then eT e xs else [])=[];rw[pn h];rfl
structure UA (p:Ty->Bool) (V:Vl) (hp:Nat->az) (ns:List (Option Nat)) (es:List az):Prop where
 len:ns.length=es.length
 row:∀(j n:Nat),ns[j]? = some (some n)->∃ fr e xs,hp n = .row fr e xs/\p e=true/\es[j]? = some (.row true e xs)
 nil:∀(j:Nat),ns[j]? = some none->∃ e,p e=true/\es[j]? = some (.row true e [])
structure UB (V:Vl) (ns:List (Option Nat)) (es:List az) (nx:Nat) (V':Vl) (aJ:Nat->az):Prop where
 aB:∀(j:Nat) e xs,es[j]? = some (.row true e xs)->aJ (nx+j) = .row false e xs
 row:∀(j n:Nat),ns[j]? = some (some n)->(V'.has (nx+j)↔V.has n)/\V'.aI (nx+j)=V.aI n
 nil:∀(j:Nat),ns[j]? = some none->¬V'.has (nx+j)
end
end Go.SX
/- slices.Delete on a row that the caller owns: the rule, and what a walk of its body must show. No condition. -/
namespace Go.SX
open Go.RowKit Go.Lib
set_option linter.unusedVariables false
set_option linter.unusedSimpArgs false
variable {P : Program}
structure Ti (P:Program) (f:FuncId) (sz:Nat):Prop where
 same:∀(v:Value) (i:Nat) (w:World),(v = .slice none 0 0/\i=0\/∃ aI n cap,v = .slice (some ⟨aI,0,none⟩) n cap/\n<=cap/\i<=n) →
  Calls P f #[v,.int .i64 i,.int .i64 i] w fun e w'=>e = .returned v/\w'=w
 cut:∀(aI n cap i j:Nat) (news:List Value) (w:World),n<=cap->i<j->j<=n->news.length=(n-j)*sz →
  (∀ t u,news[t]? = some u->w.cell? ⟨aI,j*sz+t,none⟩=some u)->(∀ u∈news,u.oneCell'=true) →
  (∀ t,t<n*sz->(w.cell? ⟨aI,t,none⟩).isSome=true/\w.frozen? ⟨aI,t,none⟩=false) →
  Calls P f #[.slice (some ⟨aI,0,none⟩) n cap,.int .i64 i,.int .i64 j] w fun e w'=>e = .returned (.slice (some ⟨aI,0,none⟩) (i+(n-j)) cap) ∧
   ∃ zs:List Value,zs.length=(n-(i+(n-j)))*sz/\w'=(w.drew.setCells aI (i*sz) news).setCells aI ((i+(n-j))*sz) zs
end Go.SX
/- A function that cuts places off the end of a row that its caller owns: the rule, and what is owed of its code. No condition. -/
namespace Go.SX
open Go.RowKit
set_option linter.unusedVariables false
set_option linter.unusedSimpArgs false
structure CC where
 e:Ty
 F:List e.den->Nat
def jf(e:Ty)(xs:List e.den)(ntmps:Nat):St:={ ts:=.c (.pre 0 xs.length)::pB .eP (ntmps-1),hp:=[.row false e xs] }
def vn(T:bT)(fn:Func)(e:Ty)(xs:List e.den)(h:Nat)(ex:Ex)(st:St):Prop :=
 match ex with
 | .exit _=>False
 | _ =>
   match u5 T st fn.results.toList with
   | some [.c (.pre 0 k)]=>k=h/\(match st.aB 0 with | .row false e' ys=>(if hh:e'=e then fI hh ys=xs else False)|_=>False)
   | _=>False
def zI(T:bT)(Γ:FuncId->Option PC)(R:FuncId->Option dk)(fn:Func)(cc:CC)(A:List cc.e.den->Nat->Option bk):Prop :=
 match fn.body with
 | some code=>∀ xs,(Ty.sl cc.e).wf xs->vc T Γ R code (A xs) (jf cc.e xs fn.ntmps) fun e _ st=>vn T fn cc.e xs (cc.F xs) e st
 | none=>False
def jl(cc:CC):dk:=fun ss st K =>
 match ss with
 | [.c (.own m)] =>
   match st.aB m with
   | .row true e' xs=>if h:e'=cc.e then K (.c (.own m)) { (st.map (bQ m)) with hp:=b9 (st.map (bQ m)).hp m (.row true cc.e ((fI h xs).take (cc.F (fI h xs)))) } else False
   | _=>False
 | [.c (.pre m k)] =>
   match st.aB m with
   | .row true e' xs=>if h:e'=cc.e then K (.c (.own m)) { (st.map (bQ m)) with hp:=b9 (st.map (bQ m)).hp m (.row true cc.e (((fI h xs).take k).take (cc.F ((fI h xs).take k)))) } else False
   | _=>False
 | _=>False
section
variable {P : Program} {T : bT} {Γ : FuncId → Option PC} {R : FuncId → Option dk} {base : Nat} {M : LM} {w0 : World} {V : Vl} {hp : Nat → az} {w w' : World}
theorem C4(hm:P.follows .mixedOrders=true)(hT:bJ P T)(hΓ:eQ P Γ)(hR:dP P R){f:FuncId}{fn:Func}(hf:P.funcs[f]? = some fn){cc:CC}{A:List cc.e.den->Nat->Option bk}
 (hl:cc.e.flat=true) (h:zI T Γ R fn cc A) {st:St} {ts:Array Value} (r:Rel base M w0 V st ts w) {m k:Nat} {xs:List cc.e.den} {v:Value} {K:S->St->Prop}
 (p6:st.aB m = .row true cc.e xs) (hk:k<=xs.length) (ko:dT V w m cc.e k v)
 (hK:K (.c (.own m)) { (st.map (bQ m)) with hp:=b9 (st.map (bQ m)).hp m (.row true cc.e ((xs.take k).take (cc.F (xs.take k)))) }) :
 Calls P f #[v] w fun e w'=>∃ v,e = .returned v/\∃ V' s aP,K s aP/\Rel base M w0 V' aP ts w'/\S.ok V' aP.aB w' s v:=by
 have mm:=r.mem
 have j9:(st.aB m).live=true:=by rw[p6];rfl
 have aK:m<st.hp.length:=ri j9
 unfold zI at h
 split at h
 case h_2=>exact h.elim
 rename_i code hb
 generalize px:xs.take k=zs at hK
 have Be:zs.length=k:=by rw[<-px,List.length_take];omega
 have MN:=mm.dx m
 rw[p6] at MN
 have T6:(Ty.sl cc.e).wf zs:=by
  rcases MN with ⟨_,hx⟩|⟨_,ay,el,_,q1,q2⟩
  ·have:zs=[]:=by rw[<-px,hx];simp
   rw[this]
   exact⟨Nat.zero_le _,fun x hx=>by cases hx⟩
  ·refine⟨by rw[Be];omega,fun x hx=>?_⟩
   rw[<-px] at hx
   obtain⟨i,hi,rfl⟩:=List.getElem_of_mem (List.mem_of_mem_take hx)
   obtain⟨es,_,_,q3⟩:=q2 i hi
   exact q3.wf
 have T4:=h zs T6
 let V0:Vl:=⟨fun _=>V.aI m,fun j=>j=0/\V.has m,fun _=>False,fun _=>False⟩
 let M0:LM:=⟨fun b=>V.has m/\b=V.aI m,fun b j=>j=0/\V.has m/\b=V.aI m,fun _=>True,fun _ _=>trivial,fun _=>False⟩
 have gH:∀ j,(jf cc.e zs fn.ntmps).aB j=if j=0 then .row false cc.e zs else .dead:=by
  intro j
  cases j with
  | zero=>rfl
  | succ j=>rfl
 have h0:(jf cc.e zs fn.ntmps).aB 0 = .row false cc.e zs:=rfl
 have pZ:∀ j,j≠0->(jf cc.e zs fn.ntmps).aB j = .dead:=fun j hj=>by rw[gH,if_neg hj]
 have HD:∀ j,((jf cc.e zs fn.ntmps).aB j).live=true->j=0:=by
  intro j hj
  by_cases e:j=0
  ·exact e
  ·rw[pZ j e] at hj;cases hj
 have S9:Mem w.heap.size M0 w V0 (jf cc.e zs fn.ntmps).aB w:=by
  refine⟨fun j=>?_,fun j cs hj=>?_,fun j hj hh=>?_,fun j e ys hj=>?_,fun j j' hj nX _ _ _=>?_,fun b h=>h.elim,fun b h=>h.elim,⟨rfl,rfl,rfl,Nat.le_refl _,fun _ _ _=>rfl,fun b v2 e2 _ _ QJ=>⟨v2,e2,QJ,rfl⟩⟩,fun j hj hh=>?_,fun b hb=>hb.elim,fun j hh q hq=>?_⟩
  ·by_cases e:j=0
   ·subst e
    rw[h0]
    rcases MN with ⟨a1,a2⟩|⟨a1,ay,el,a2,a3,a4⟩
    ·exact .inl ⟨fun hh=>a1 hh.2,by rw[<-px,a2];simp⟩
    ·refine .inr ⟨⟨rfl,a1⟩,ay,el,a2,by rw[Be];omega,fun i hi=>?_⟩
     obtain⟨es,b1,b2,b3⟩:=a4 i (by omega)
     refine⟨es,b1,b2,?_⟩
     have:zs[i]=xs[i]'(by omega):=by subst px;rw[List.getElem_take]
     rw[this]
     exact b3.flat hl
   ·rw[pZ j e];trivial
  ·by_cases e:j=0
   ·subst e;rw[h0] at hj;cases hj
   ·rw[pZ j e] at hj;cases hj
  ·refine⟨.inr ⟨hh.2,rfl⟩,(mm.own m j9 hh.2).2.1,fun hz=>?_⟩
   rcases hz with hz|⟨_,hz⟩<;>exact hz
  ·by_cases e:j=0
   ·subst e;rw[h0] at hj;injection hj with q;cases q
   ·rw[pZ j e] at hj;cases hj
  ·rw[HD j hj,HD j' nX]
  ·by_cases e:j=0
   ·exact⟨e,hh.2,rfl⟩
   ·rw[pZ j e] at hj;exact hj.elim
  ·by_cases e:j=0
   ·subst e;rw[h0,Lh hl] at hq;cases hq
   ·rw[pZ j e] at hq;cases hq
 have TY:C.ok V0 (jf cc.e zs fn.ntmps).aB w (.pre 0 zs.length) v:=by
  refine⟨false,cc.e,zs,h0,Nat.le_refl _,?_⟩
  rw[Be]
  rcases ko with ⟨a1,a2,a3⟩|⟨a1,cap,ay,el,a2,a3,a4,a5⟩
  ·exact .inl ⟨fun hh=>a1 hh.2,a2,a3⟩
  ·exact .inr ⟨⟨rfl,a1⟩,cap,ay,el,a2,a3,a4,a5⟩
 have Tb:Sat w.heap.size M0 w (jf cc.e zs fn.ntmps) { tmps := #[v]++Array.replicate (fn.ntmps-1) undef,defers:=[] } w:=by
  refine⟨rfl,V0,⟨?_,fun i s' v' bw dJ=>?_,S9⟩⟩
  ·show (.c _::pB S.eP (fn.ntmps-1)).length=_
   rw[mu];simp;omega
  ·have bw:(S.c (.pre 0 zs.length)::pB S.eP (fn.ntmps-1))[i]? = some s':=bw
   have dJ:([v]++List.replicate (fn.ntmps-1) undef)[i]? = some v':=by
    rw[<-dJ]
    simp only[Array.getElem?_append,List.getElem?_append,List.getElem?_toArray,List.size_toArray,Array.getElem?_replicate,List.getElem?_replicate]
   cases i with
   | zero =>
     simp only[List.getElem?_cons_zero,Option.some.injEq,List.cons_append] at bw dJ
     subst bw;subst dJ;exact TY
   | succ i =>
     simp only[List.getElem?_cons_succ,List.cons_append,List.nil_append,mu,List.getElem?_replicate] at bw dJ
     split at bw
     ·rename_i hi
      injection bw with bw;subst bw
      rw[if_pos hi] at dJ
      injection dJ with dJ;exact dJ.symm
     ·cases bw
 refine calls_of_wp (args := #[v]) hf hb (Ot hm hT hΓ hR code (A zs) _ _ _ _ w Tb T4 (fun e A' aP a' w' pv bw=>?_))
 obtain⟨hd,V1,r1⟩:=bw
 have m1:=r1.mem
 have key:vn T fn cc.e zs (cc.F zs) e aP->(∃ i,e = .exit i)\/∃ v',(results fn a'.tmps).run P w' = .ok v' w'/\C.ok V1 aP.aB w' (.pre 0 (cc.F zs)) v'/\aP.aB 0 = .row false cc.e zs:=by
  intro hp
  unfold vn at hp
  split at hp
  ·exact hp.elim
  ·right
   split at hp
   ·rename_i kk QD
    obtain⟨ie,uG⟩:=hp
    subst ie
    obtain⟨vs,e1,e2,e3⟩:=s6 hT r1 QD
    split at uG
    ·rename_i e' ys hy
     split at uG
     ·rename_i he
      subst he
      have uG:ys=zs:=uG
      subst uG
      match vs,e1 with
      | [x],_=>exact⟨_,wW e3,e2 0 _ x rfl rfl,hy⟩
     ·exact uG.elim
    ·exact uG.elim
   ·exact hp.elim
 have fin:∀ v',C.ok V1 aP.aB w' (.pre 0 (cc.F zs)) v'->aP.aB 0 = .row false cc.e zs->∃ V' s Nl,K s Nl/\Rel base M w0 V' Nl ts w'/\S.ok V' Nl.aB w' s v':=by
  intro v' hv hz
  obtain⟨RZ,e1,SH,p1,p2,p3⟩:=hv
  rw[hz] at p1
  injection p1 with q1 q2 q3
  subst q1;subst q2;cases q3
  have P1:=m1.dx 0
  rw[hz] at P1
  have DE:V1.has 0->V.has m/\V1.aI 0=V.aI m:=fun hh=>(m1.pz 0 (by rw[hz];show (cc.e.flat||cc.e.bW)=true;rw[hl];rfl) hh).2
  let V':Vl:=⟨V.aI,fun n=>if n=m then V1.has 0 else V.has n,V.Z0,V.Z1⟩
  have Hv:V'.has m↔V1.has 0:=by show (if m=m then _ else _)↔_;rw[if_pos rfl]
  have Cv:V.has m->base<=V.aI m:=fun hh=>mm.iZ m _ _ p6 hh
  obtain⟨o1,o2⟩:(V.has m->V.aI m<w.heap.size)/\(V.has m->¬V.Z false (V.aI m)):=⟨fun hh=>(mm.own m j9 hh).2.1,fun hh=>(mm.own m j9 hh).2.2⟩
  have DF:∀ b,b<w.heap.size->(V.has m->b≠V.aI m)->w'.heap[b]? = w.heap[b]? := fun b fu bo=>m1.kept.block b fu (fun hM=>bo hM.1 hM.2)
  have Rv:(St.mk (st.map (bQ m)).ts (b9 (st.map (bQ m)).hp m (.row true cc.e (zs.take (cc.F zs))))).aB m = .row true cc.e (zs.take (cc.F zs)):=by
   rw[oG (by show m<(lmap _ _).length;rw[bP,List.length_map];exact aK)]
   simp only[aG,if_true]
  have jU:(zs.take (cc.F zs)).length=cc.F zs:=by rw[List.length_take];omega
  refine⟨V',_,_,hK,?_,⟨true,cc.e,_,Rv,?_⟩⟩
  ·refine Am r p6 ?_ m1.kept.size DF (fun n hn=>⟨rfl,by show (if n=m then _ else _)↔_;rw[if_neg hn]⟩) rfl rfl (fun aJ _=>?_) (fun hh=>?_) (fun _ hh=>?_) (fun h _=>False.elim h) (fun _ q hq=>by cases hq)
   ·refine⟨m1.kept.os.trans mm.kept.os,m1.kept.tape.trans mm.kept.tape,m1.kept.output.trans mm.kept.output,Nat.le_trans mm.kept.size m1.kept.size,fun b fu hM=>?_,fun b ay el fu hM N8=>?_⟩
    ·rw[DF b (Nat.lt_of_lt_of_le fu mm.kept.size) (fun hh e=>by have:=Cv hh;omega)]
     exact mm.kept.block b fu hM
    ·obtain⟨v3,e3,j1,j2⟩:=mm.kept.shape b ay el fu hM N8
     refine⟨v3,e3,?_,j2⟩
     rw[DF b (Nat.lt_of_lt_of_le fu mm.kept.size) (fun hh e=>by have:=Cv hh;omega)]
     exact j1
   ·rcases P1 with ⟨a1,a2⟩|⟨a1,ay,el,a2,a3,a4⟩
    ·exact .inl ⟨fun hh=>a1 (Hv.1 hh),by rw[a2];simp⟩
    ·refine .inr ⟨Hv.2 a1,ay,el,by show w'.heap[V.aI m]? = _;rw[<-(DE a1).2];exact a2,by rw[jU];omega,fun i hi=>?_⟩
     obtain⟨es,b1,b2,b3⟩:=a4 i (by omega)
     refine⟨es,b1,b2,?_⟩
     rw[List.getElem_take]
     exact b3.flat hl
   ·have Qd:=DE (Hv.1 hh)
    have:=o1 Qd.1
    have ck:=m1.kept.size
    exact⟨.inl (Cv Qd.1),by show V.aI m<_;omega,.inr ⟨Qd.1,rfl⟩⟩
   ·exact Cv (DE (Hv.1 hh)).1
  ·rw[jU]
   rcases p3 with ⟨a1,a2,a3⟩|⟨a1,cap,ay,el,a2,a3,a4,a5⟩
   ·exact .inl ⟨fun hh=>a1 (Hv.1 hh),a2,a3⟩
   ·refine .inr ⟨Hv.2 a1,cap,ay,el,?_,?_,a4,a5⟩
    ·rw[a2,(DE a1).2]
    ·show w'.heap[V.aI m]? = _
     rw[<-(DE a1).2];exact a3
 have Qi:=key pv
 cases e with
 | normal =>
   rcases Qi with ⟨i,h⟩|⟨v',h1,h2,h3⟩
   ·cases h
   ·exact⟨hd,v',h1,v',rfl,fin v' h2 h3⟩
 | exit i=>exact pv.elim
 | ret =>
   rcases Qi with ⟨i,h⟩|⟨v',h1,h2,h3⟩
   ·cases h
   ·exact⟨hd,v',h1,v',rfl,fin v' h2 h3⟩
theorem J2(hm:P.follows .mixedOrders=true)(hT:bJ P T)(hΓ:eQ P Γ)(hR:dP P R){f:FuncId}{fn:Func}(hf:P.funcs[f]? = some fn){cc:CC}{A:List cc.e.den->Nat->Option bk}
 (hl:cc.e.flat=true) (h:zI T Γ R fn cc A):tV P f (jl cc):=by
 intro base M w0 V st ts w ss vs K r hlen KU jz
 unfold jl at jz
 split at jz
 ·rename_i m
  split at jz
  ·rename_i e' xs p6
   split at jz
   ·rename_i he
    subst he
    match vs,hlen with
    | [v],_ =>
      obtain⟨pV,e2,lO,q1,q2⟩:=KU 0 _ v rfl rfl
      rw[p6] at q1
      injection q1 with g1 g2 g3
      subst g1;subst g2;cases g3
      refine C4 hm hT hΓ hR hf hl h r p6 (Nat.le_refl _) q2 ?_
      rw[List.take_length]
      exact jz
   ·exact jz.elim
  ·exact jz.elim
 ·rename_i m k
  split at jz
  ·rename_i e' xs p6
   split at jz
   ·rename_i he
    subst he
    match vs,hlen with
    | [v],_ =>
      obtain⟨pV,e2,lO,q1,q2,q3⟩:=KU 0 _ v rfl rfl
      rw[p6] at q1
      injection q1 with g1 g2 g3
      subst g1;subst g2;cases g3
      exact C4 hm hT hΓ hR hf hl h r p6 q2 q3 jz
   ·exact jz.elim
  ·exact jz.elim
 ·exact jz.elim
end
end Go.SX
/- Functions that write the box behind their first argument, or hand back the address of a new one. No condition. -/
namespace Go.SX
open Go.RowKit
set_option linter.unusedVariables false
set_option linter.unusedSimpArgs false
structure BC where
 t:Ty
 ts:List Ty
 rs:List Ty
 pre:t.den->bU ts->Prop
 F:t.den->bU ts->bU rs
 G:t.den->bU ts->t.den
 drop:Bool
structure NC where
 t:Ty
 ts:List Ty
 rs:List Ty
 pre:bU ts->Prop
 F:bU ts->bU rs
 G:bU ts->t.den
section
variable {P : Program} {T : bT} {Γ : FuncId → Option PC} {R : FuncId → Option dk} {base : Nat} {M : LM} {w0 : World} {V : Vl} {hp : Nat → az} {w w' : World}
structure Ux (w w':World) (B n:Nat) (Z:Nat->Prop) (t:Ty) (rs:List Ty) (v:Value) (out:bU rs) (g:t.den):Prop where
 ex:∃(Z1:Nat->Prop) (bs:List (Option Nat)) (vs:List Value),v=mV vs/\gu Z1 w' rs vs out bs/\(bs.filterMap id).Nodup ∧
  (∀ b,some b∈bs->w.heap.size<=b/\b<w'.heap.size/\¬Z1 b)/\(∀ b,Z1 b->w.heap.size<=b/\b<w'.heap.size) ∧
  ∃ cS kW,w'.heap[B]? = some (.cells cS kW (0,0))/\cS.size=n/\aH (fun b=>Z b\/Z1 b) w' t cS.toList g
 os:w'.os=w.os/\w'.tape=w.tape/\w'.output=w.output
 size:w.heap.size<=w'.heap.size
 block:∀ b,b<w.heap.size->b≠B->w'.heap[b]? = w.heap[b]?
end
end Go.SX
/- Functions that write the box behind their first argument: the rule. No condition. -/
namespace Go.SX
open Go.RowKit
set_option linter.unusedVariables false
set_option linter.unusedSimpArgs false
section
variable {P : Program} {T : bT} {Γ : FuncId → Option PC} {R : FuncId → Option dk} {base : Nat} {M : LM} {w0 : World} {V : Vl} {hp : Nat → az} {w w' : World}
end
end Go.SX
/- Functions that hand back the address of a new box: the rule. No condition. -/
namespace Go.SX
open Go.RowKit
set_option linter.unusedVariables false
set_option linter.unusedSimpArgs false
section
variable {P : Program} {T : bT} {Γ : FuncId → Option PC} {R : FuncId → Option dk} {base : Nat} {M : LM} {w0 : World} {V : Vl} {hp : Nat → az} {w w' : World}
structure Uy (w w':World) (Z:Nat->Prop) (t:Ty) (rs:List Ty) (v:Value) (out:bU rs) (g:t.den):Prop where
 ex:∃(B:Nat) (Z1:Nat->Prop) (bs:List (Option Nat)) (vs:List Value),v=mV (.pointer (some ⟨B,0,none⟩)::vs)/\gu Z1 w' rs vs out bs/\((some B::bs).filterMap id).Nodup ∧
  (∀ b,some b∈some B::bs->w.heap.size<=b/\b<w'.heap.size/\¬Z1 b)/\(∀ b,Z1 b->w.heap.size<=b/\b<w'.heap.size) ∧
  ∃ cS kW,w'.heap[B]? = some (.cells cS kW (0,0))/\aH (fun b=>Z b\/Z1 b) w' t cS.toList g
 kept:Kept w.heap.size tP w w'
end
end Go.SX
