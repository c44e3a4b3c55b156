/- A verified symbolic executor and its contracts (part SxG). No condition. -/
import Derived.Test.YtobmiihdfklmaaaGreatSxB
import Derived.Still
import Derived.Deep.LoopGhost
import Derived.ProofKit
import Derived.OpenShut
import Derived.ChangeOld
import Derived.Below
import Derived.Carry
import Derived.Lib.SliceRun
import Derived.Deep.RegionLaw
import Derived.Lib.SlicesDelete
import Derived.Laws.Rows
open Go.IntKind (i64 u8)
/- Regions. No condition. -/
namespace Go.SX
open Go.RowKit
set_option linter.unusedVariables false
set_option linter.unusedSimpArgs false
section
variable {P : Program} {T : cC} {Γ : FuncId → Option PC} {R : FuncId → Option cL} {all : Array Oper} {k : Nat} {cd : St} {E : List kM} {dk : List Nat} {dS : St}
  {base : Nat} {M : LM} {w0 : World} {Q : Exit → Act → World → Prop}
def eh(ay:Array Bool)(j:Nat):Bool:=ay.getD j false
theorem yg{ay:Array Bool}{i:Nat}(hi:i<ay.size):eh (ay.setIfInBounds i true)=j8 (eh ay) i:=by
 funext j
 unfold eh j8
 by_cases h:j=i
 ·subst h;simp[hi]
 ·rw[if_neg h]
  simp only[Array.getD_eq_getD_getElem?]
  rw[Array.getElem?_setIfInBounds_ne (fun e=>h e.symm)]
theorem px(h:uh all k=true){i:Nat}{o:Oper}(ho:all[i]? = some o):(i<k\/∀ j,j<i->(ff all i).testBit j=true)/\∀ e∈o.after,Region.binds .any e=true->e.on<i:=by
 have hi:=(Array.getElem?_eq_some_iff.1 ho).1
 have:=List.all_eq_true.1 h i (List.mem_range.2 hi)
 rw[Bool.and_eq_true,ho] at this
 obtain⟨h1,h2⟩:=this
 refine⟨?_,fun e he hb=>?_⟩
 ·rw[Bool.or_eq_true] at h1
  rcases h1 with h1|h1
  ·exact .inl (by simpa using h1)
  ·exact .inr fun j hj=>List.all_eq_true.1 h1 j (List.mem_range.2 hj)
 ·have:=List.all_eq_true.1 h2 e (by simpa using he)
  simpa[hb] using this
theorem ZB(h:uh all k=true):∀ i j,(ff all i).testBit j=true->j<i:=by
 intro i
 induction i using Nat.strongRecOn with
 | _ i ih =>
   intro j hj
   obtain⟨o,h1,e,h2,h3,h4⟩:=BN all i j hj
   have:=(px h h1).2 e h2 h3
   rcases h4 with rfl|⟨_,h5⟩
   ·exact this
   ·exact Nat.lt_trans (ih e.on this j h5) this
theorem DY(h:uh all k=true){ay:Array Bool}{i:Nat}{o:Oper}(ho:all[i]? = some o)(hu:ay.getD i true=false)(hb:∀ j,j<i->ay.getD j false=true):i∈Region.ready .any all ay :=
 mem_ready.2 ⟨hu,o,ho,fun e he tw=>hb _ ((px h ho).2 e he tw)⟩
theorem Ae(h:uh all k=true):∀(n i fuel:Nat) (ay:Array Bool) (a:Act) (w:World),i+n=all.size->k<=i->n<=fuel->ay.size=all.size->EX all ay →
 (∀ j,j<i->ay.getD j false=true)->(∀ j,i<=j->j<all.size->ay.getD j true=false)->wpOps P all Q (List.range' i n) a w->wpAny P .any all Q fuel ay a w
 | 0,i,fuel,ay,a,w,v_,_,_,cD,_,hb,_,hw=>by
   have hr:Region.ready .any all ay=[]:=by
    apply List.eq_nil_iff_forall_not_mem.2
    intro j hj
    obtain⟨h1,o,h2,_⟩:=mem_ready.1 hj
    have aT:=(Array.getElem?_eq_some_iff.1 h2).1
    have h3:=hb j (by omega)
    have Me:j<ay.size:=by omega
    simp[Me] at h1 h3
    rw[h1] at h3;cases h3
   rw[List.range'_zero] at hw
   have hq:Q .normal a w:=hw
   cases fuel with
   | zero=>exact⟨hr,hq⟩
   | succ f=>exact⟨fun _=>hq,fun j hj=>by rw[hr] at hj;cases hj⟩
 | n+1,i,fuel,ay,a,w,v_,Ma,hf,cD,gK,hb,hu,hw=>by
   obtain⟨f,rfl⟩:∃ f,fuel=f+1:=⟨fuel-1,by omega⟩
   have Ht:i<all.size:=by omega
   have ho:all[i]? = some all[i]:=Array.getElem?_eq_getElem Ht
   have hir:=DY h ho (hu i (Nat.le_refl _) Ht) hb
   refine⟨fun h0=>by rw[h0] at hir;(cases hir),fun j hj=>?_⟩
   have iL:j=i:=by
    obtain⟨h1,o,h2,_⟩:=mem_ready.1 hj
    have abg:=(Array.getElem?_eq_some_iff.1 h2).1
    rcases Nat.lt_trichotomy j i with h3|h3|h3
    ·have h4:=hb j h3
     have Me:j<ay.size:=by omega
     simp[Me] at h1 h4
     rw[h1] at h4;cases h4
    ·exact h3
    ·rcases (px h h2).1 with h4|h4
     ·omega
     ·have h5:=nS gK j (.inr hj) i (h4 i h3)
      have h6:=hu i (Nat.le_refl _) Ht
      have Me:i<ay.size:=by omega
      simp[Me] at h5 h6
      rw[h6] at h5;cases h5
   subst iL
   rw[List.range'_succ,wpOps_cons] at hw
   refine wpOp_mono (fun a' w' h'=>Ae h n (j+1) f _ a' w' (by omega) (by omega) (by omega) (by simp[cD]) ?_ (fun m hm=>?_) (fun m hm hm'=>?_) h') hw
   ·intro m om hm hl e he tw
    by_cases DG:j=m
    ·subst DG
     obtain⟨_,o,h2,h3⟩:=mem_ready.1 hj
     rw[hm] at h2;injection h2 with h2;subst h2
     exact getD_set_true (h3 e he tw)
    ·rw[getD_set_ne false DG] at hl
     exact getD_set_true (gK m om hm hl e he tw)
   ·by_cases DG:j=m
    ·subst DG
     have Me:j<ay.size:=by omega
     simp[Me]
    ·exact getD_set_true (hb m (by omega))
   ·rw[getD_set_ne true (by omega)]
    exact hu m (by omega) hm'
theorem TA (hT : cv P T) (hΓ : eI P Γ) (g9 : jq all k = true) (v8 : uh all k = true) (hk : k ≤ all.size) (hE : E.length = k) (ep : E0 E)
    (hf : ∀ i, i < k → La T Γ all k cd E i) (fin : ie all cd E k dk dS) (hQ : ∀ a w, Sat base M w0 dS a w → P9 E → wpOps P all Q (List.range' k (all.size - k)) a w) :
    ∀ (m fuel : Nat) (l : List Nat) (ay : Array Bool) (a : Act) (w : World), l.length = m → m + (all.size - k) ≤ fuel → ay.size = all.size → EX all ay →
    (∀ j, j < k → eh ay j = false → j ∈ l) → (∀ j, k ≤ j → j < all.size → ay.getD j true = false) → Inv base M w0 all k cd E dk dS (eh ay) a w → wpAny P .any all Q fuel ay a w := by
  intro m
  induction m with
  | zero =>
    intro fuel l ay a w hl Yk cD gK Bw ny hi
    have By : l = [] := List.length_eq_zero_iff.1 hl
    have kj : ∀ j, j < k → eh ay j = true := fun j hj => by
      cases h : eh ay j with
      | true => rfl
      | false => have := Bw j hj h; rw [By] at this; cases this
    obtain ⟨h1, h2⟩ := HA kj hE fin hi
    exact Ae v8 _ k fuel ay a w (by omega) (Nat.le_refl _) (by omega) cD gK kj ny (hQ a w h1 h2)
  | succ m ih =>
    intro fuel l ay a w hl Yk cD gK Bw ny hi
    by_cases kj : ∀ j, j < k → eh ay j = true
    · obtain ⟨h1, h2⟩ := HA kj hE fin hi
      exact Ae v8 _ k fuel ay a w (by omega) (Nat.le_refl _) (by omega) cD gK kj ny (hQ a w h1 h2)
    · obtain ⟨f, rfl⟩ : ∃ f, fuel = f + 1 := ⟨fuel - 1, by omega⟩
      obtain ⟨i0, qx, hu0⟩ : ∃ i0, i0 < k ∧ eh ay i0 = false := by
        refine Classical.byContradiction fun hn => kj fun j hj => ?_
        cases h : eh ay j with
        | true => rfl
        | false => exact absurd ⟨j, hj, h⟩ hn
      -- the first that is not listed
      obtain ⟨i1, hi1, Uz, fe⟩ : ∃ i1, i1 < k ∧ eh ay i1 = false ∧ ∀ j, j < i1 → eh ay j = true := by
        clear hi Bw ny
        induction i0 using Nat.strongRecOn with
        | _ n ihn =>
          by_cases h : ∀ j, j < n → eh ay j = true
          · exact ⟨n, qx, hu0, h⟩
          · obtain ⟨j, hj, hu⟩ : ∃ j, j < n ∧ eh ay j = false := by
              refine Classical.byContradiction fun hn => h fun j hj => ?_
              cases h' : eh ay j with
              | true => rfl
              | false => exact absurd ⟨j, hj, h'⟩ hn
            exact ihn j hj (by omega) hu
      have unl : ∀ {j}, j < all.size → eh ay j = false → ay.getD j true = false := fun {j} hj h => by
        unfold eh at h
        have : j < ay.size := by omega
        simp [this] at h ⊢; exact h
      have Ob : ∀ {j}, ay.getD j true = false → eh ay j = false := fun {j} h => by
        unfold eh
        rcases Nat.lt_or_ge j ay.size with h' | h'
        · simp [h'] at h ⊢; exact h
        · simp [Array.getElem?_eq_none h']
      have ho1 : all[i1]? = some (all[i1]'(by omega)) := Array.getElem?_eq_getElem _
      have Jh := DY v8 ho1 (unl (by omega) Uz) fe
      refine ⟨fun h0 => by rw [h0] at Jh; (cases Jh), fun i hr => ?_⟩
      obtain ⟨qA, oi, jy, Ua⟩ := mem_ready.1 hr
      have Ht := (Array.getElem?_eq_some_iff.1 jy).1
      have hL : ∀ j, (ff all i).testBit j = true → eh ay j = true := nS gK i (.inr hr)
      have ia : i < k := by
        rcases (px v8 jy).1 with h | h
        · exact h
        · rcases Nat.lt_or_ge i k with h' | h'
          · exact h'
          · have := hL i1 (h i1 (by omega))
            rw [Uz] at this; cases this
      obtain ⟨e, o, st, he, ho, s, hrf, s1, hq⟩ := hf i ia
      rw [jy] at ho; injection ho with ho; subst ho
      obtain ⟨V, _, _, h3⟩ := hi.ex
      have hw := JO g9 ia jy hrf s hi.size hL h3
      have Jf := Ob qA
      have next : ∀ a' w', Inv base M w0 all k cd E dk dS (j8 (eh ay) i) a' w' → wpAny P .any all Q f (ay.setIfInBounds i true) a' w' := by
        intro a' w' cF
        have v9 : i ∈ l := Bw i ia Jf
        refine ih f (l.erase i) _ a' w' (by rw [List.length_erase_of_mem v9]; omega) (by omega) (by simp [cD]) ?_ (fun j hj hu => ?_) (fun j hj lr => ?_) ?_
        · intro m om hm hl e he tw
          by_cases DG : i = m
          · subst DG
            rw [hm] at jy; injection jy with jy; subst jy
            exact getD_set_true (Ua e he tw)
          · rw [getD_set_ne false DG] at hl
            exact getD_set_true (gK m om hm hl e he tw)
        · rw [yg (by omega)] at hu
          unfold j8 at hu
          split at hu
          · cases hu
          · rename_i bo
            exact (List.mem_erase_of_ne bo).2 (Bw j hj hu)
        · rw [getD_set_ne true (by omega)]
          exact ny j hj lr
        · rw [yg (by omega)]; exact cF
      unfold wpOp
      simp only [jy]
      cases nO : e.r with
      | none =>
        rw [nO] at hw
        rw [if_neg (by rw [hw]; simp)]
        exact next _ _ (MD g9 ia he jy nO fin hi)
      | some q =>
        rw [nO] at hw
        rw [if_pos (by rw [hw]; rfl)]
        exact .inl (UM hT hΓ g9 ia he jy nO (ep e (List.mem_of_getElem? he) q nO) s1 fin (hq q nO) (fun j => ZB v8 i j) hL Jf hi (fun u w' cF => next _ _ cF))
theorem zh(T:cC)(Γ:FuncId->Option PC):∀(l:List Oper) (ws:List Nat),oY T Γ ws l<=l.length
 | [],_=>Nat.le_refl _
 | o::l,ws=>by
   unfold oY
   split
   ·have:=zh T Γ l (YZ Γ ws o);simp only[List.length_cons];omega
   ·simp
theorem vO{o_:Nat}:∀(l:List Oper) (i:Nat) (da:List Nat) (st:St) (E:List kM),yG T Γ all k o_ i l da st E dk dS->E.length=l.length
 | [],i,da,st,E,h=>by rw[h.1];rfl
 | o::l,i,da,st,E,h=>by
   obtain⟨e,E',rfl,_,_,h⟩:=h
   cases hr:e.r with
   | none=>rw[hr] at h;simp[vO l _ _ _ _ h]
   | some q=>rw[hr] at h;simp[vO l _ _ _ _ h.2]
theorem Cm{st:St}{a:Act}{w:World}(h:Sat base M w0 st a w):Sat base M w0 st a { w with drawn:=w.drawn+1 }:=by
 obtain⟨h1,V,r⟩:=h
 have x:VX V st.an w V st.an { w with drawn:=w.drawn+1 }:=⟨fun _ _=>⟨rfl,Iff.rfl,rfl⟩,fun _ h=>h,fun _ h=>h,fun _ _=>rfl,fun _ _ _=>rfl⟩
 refine⟨h1,V,⟨r.len,fun i s v hs hv=>S.kt x (r.iZ i s v hs hv),?_⟩⟩
 have m:=r.mem
 refine⟨fun n=>?_,m.box,m.own,m.fY,m.gi,m.z0,m.z1,⟨m.kept.os,m.kept.tape,m.kept.output,m.kept.size,m.kept.block,m.kept.shape⟩,m.jO,m.oh,m.gE⟩
 cases hl:(st.an n).live with
 | true=>exact az.kt x (m.cE n) (fun cs=>m.box n cs) hl
 | false =>
   cases he:st.an n with
   | dead=>trivial
   | bx cs=>rw[he] at hl;cases hl
   | row fr e xs=>rw[he] at hl;cases hl
theorem Cp{o:Oper}(h:np o=true):o.guard=none:=by
 unfold np at h
 split at h<;>first|assumption|cases h
theorem GL{a:Act}{w:World}(hT:cv P T){V:Vl}{hp lk:Nat->az}{nx:Nat}{ev:Operand->S}{o:Oper}{q:QR}(hs:np o=true)(hq:jf T Γ lk nx ev o.op=some q)(ek:∀ x,S.ok V hp w (ev x) (a.eval x)) :
 ∃ u,∀ w',(execOp a.eval o).run P w' = .ok (.value u) w':=by
 unfold np at hs
 split at hs
 ·rename_i t x f _ pY
  rw[pY] at hq
  simp only[jf] at hq
  have hv:=ek x
  cases hc:ev x with
  | c p =>
    rw[hc] at hq hv
    obtain⟨_,_,_,u,e4,_⟩:=HV hT hq hv
    exact⟨u,fun w'=>by unfold execOp;simp only[pY,Sem.run_bind,e4 w',Result.andThen_ok,Sem.run_pure]⟩
  | _=>rw[hc] at hq;cases hq
 ·rename_i x _ pY
  exact⟨a.eval x,fun w'=>by unfold execOp;simp only[pY,Sem.run_bind,Result.andThen_ok,Sem.run_pure]⟩
 ·rename_i x _ pY
  exact⟨a.eval x,fun w'=>by unfold execOp;simp only[pY,Sem.run_bind,Result.andThen_ok,Sem.run_pure]⟩
 ·rename_i x i _ pY
  rw[pY] at hq
  simp only[jf] at hq
  have hv:=ek x
  cases hc:ev x with
  | sP vs =>
    rw[hc] at hq hv
    obtain⟨us,e1,e2,_⟩:=hv
    simp only at hq
    rw[fa,fv] at hq
    cases hx:vs[i]? with
    | none=>rw[hx] at hq;cases hq
    | some y =>
      have aT:i<us.size:=by have:=(List.getElem?_eq_some_iff.1 hx).1;omega
      have hu:us[i]? = some us[i]:=Array.getElem?_eq_getElem _
      exact⟨us[i],fun w'=>by unfold execOp;simp only[pY,Instr.extract,e1,hu,Sem.run_bind,Sem.run_pure,Result.andThen_ok]⟩
  | _=>rw[hc] at hq;cases hq
 ·cases hs
theorem VQ{a:Act}{w:World}(hT:cv P T){V:Vl}{hp:Nat->az}{st:St}{o:Oper}{K:St->Prop}(hs:np o=true)(ek:∀ x,S.ok V hp w (st.eval x) (a.eval x))(h:z_ T Γ R st.eval st.an o st K) :
 ∃ u,∀ w',(execOp a.eval o).run P w' = .ok (.value u) w':=by
 unfold z_ at h
 split at h
 ·rename_i q hq
  exact GL hT hs hq ek
 ·exfalso
  unfold np at hs
  split at hs
  ·rename_i pY;rw[pY] at h;exact h
  ·rename_i pY;rw[pY] at h;exact h
  ·rename_i pY;rw[pY] at h;exact h
  ·rename_i pY;rw[pY] at h;exact h
  ·cases hs
theorem D0{a:Act}{w:World}{o:Oper}{u:Value}{next:Act->World->Prop}(hu:(execOp a.eval o).run P w = .ok (.value u) w)(h:o.wp P a w next (fun _ _ _=>False)):next (a.put o.dst u) w:=by
 unfold Oper.wp at h
 rw[hu] at h
 exact h
theorem Cc{all:List Oper}{ay:List Bool}:∀ {n i j:Nat},j∈tZ all ay i n↔i<=j/\j<i+n/\Xv all ay j=true
 | 0,i,j=>by simp[tZ];omega
 | n+1,i,j=>by
   unfold tZ
   split
   ·rename_i h
    rw[List.mem_cons,Cc]
    constructor
    ·rintro (rfl|⟨h1,h2,h3⟩)
     ·exact⟨Nat.le_refl _,by omega,h⟩
     ·exact⟨by omega,by omega,h3⟩
    ·rintro⟨h1,h2,h3⟩
     by_cases e:j=i
     ·exact .inl e
     ·exact .inr ⟨by omega,by omega,h3⟩
   ·rename_i h
    rw[Cc]
    constructor
    ·rintro⟨h1,h2,h3⟩;exact⟨by omega,by omega,h3⟩
    ·rintro⟨h1,h2,h3⟩
     by_cases e:j=i
     ·subst e;exact absurd h3 h
     ·exact⟨by omega,by omega,h3⟩
theorem Sf{d:Bool}{l:List Bool}{i:Nat}:nth d l i=l.toArray.getD i d:=by
 rw[cT];simp
theorem wG{all:Array Oper}{ay:List Bool}{j:Nat}:j∈tZ all.toList ay 0 (bL all.toList)↔j∈Region.ready .any all ay.toArray:=by
 rw[Cc,mem_ready,dz]
 unfold Xv
 rw[fa,Sf]
 simp only[Nat.zero_le,true_and,Nat.zero_add,Array.length_toList,Bool.and_eq_true,Bool.not_eq_true',Array.getElem?_toList]
 constructor
 ·rintro⟨h1,h2,h3⟩
  refine⟨h2,all[j],Array.getElem?_eq_getElem h1,fun e he hb=>?_⟩
  rw[Array.getElem?_eq_getElem h1] at h3
  simp only[iF,List.all_eq_true,Bool.or_eq_true,Bool.not_eq_true'] at h3
  rcases h3 e (by simpa using he) with h|h
  ·rw[hb] at h;cases h
  ·rw[Sf] at h;exact h
 ·rintro⟨h2,o,h1,h3⟩
  refine⟨(Array.getElem?_eq_some_iff.1 h1).1,h2,?_⟩
  rw[h1]
  simp only[iF,List.all_eq_true,Bool.or_eq_true,Bool.not_eq_true']
  intro e he
  cases hb:Region.binds .any e with
  | false=>exact .inl rfl
  | true=>right;rw[Sf];exact h3 e (by simpa using he) hb
theorem IU:∀ {l:List Nat} {f:Nat->Prop},Rw l f->∀ i∈l,f i
 | [],_,_,i,h=>by cases h
 | [j],f,h,i,hi=>by rw[List.mem_singleton.1 hi];exact h
 | j::k::r,f,h,i,hi=>by
   rcases List.mem_cons.1 hi with rfl|hi
   ·exact h.1
   ·exact IU h.2 i hi
theorem xT{all:Array Oper}{ay:List Bool}:∀ {l:List Nat} {i:Nat},vX all ay l=some i->i∈l/\SY all ay i=true
 | [],i,h=>by cases h
 | j::r,i,h=>by
   unfold vX at h
   split at h
   ·rename_i ht
    injection h with h;subst h
    exact⟨List.mem_cons_self ..,ht⟩
   ·obtain⟨h1,h2⟩:=xT h
    exact⟨List.mem_cons_of_mem _ h1,h2⟩
theorem DB{all:Array Oper}{oi:Oper}{i:Nat}{ay:List Bool}:∀ {l:List Oper} {m:Nat},FJ all oi i ay m l=true->∀(j:Nat) (oj:Oper),l[j]? = some oj->m+j≠i->nth true ay (m+j)=false →
 (∀ e∈oj.after,Region.binds .any e=true->e.on≠i)->oi.apart all oj=true
 | [],m,_,j,oj,h,_,_,_=>by cases h
 | o::r,m,h,j,oj,hj,bo,qA,lu=>by
   unfold FJ at h
   rw[Bool.and_eq_true] at h
   cases j with
   | zero =>
     simp only[List.getElem?_cons_zero,Option.some.injEq] at hj
     subst hj
     rw[Nat.add_zero] at bo qA
     have h1:=h.1
     rw[Bool.or_eq_true,Bool.or_eq_true,Bool.or_eq_true,qA,yd,List.any_eq_true] at h1
     rcases h1 with ((h1|h1)|⟨e,he,hb⟩)|h1
     ·exact absurd (by simpa using h1) bo
     ·cases h1
     ·rw[Bool.and_eq_true] at hb
      exact absurd (by simpa using hb.2) (lu e (by simpa using he) hb.1)
     ·exact h1
   | succ j =>
     have e:m+(j+1)=(m+1)+j:=by omega
     exact DB h.2 j oj (by simpa using hj) (by rw[<-e];exact bo) (by rw[<-e];exact qA) lu
theorem DM{all:Array Oper}(h:Gd all.toList=true)(j:Nat)(o:Oper)(cs:Array SelectCase)(b:Bool)(ho:all[j]? = some o):o.op ≠ .select cs b:=by
 intro heq
 unfold Gd at h
 rw[iF,List.all_eq_true] at h
 have:=h o (by simpa using Array.mem_of_getElem? ho)
 rw[heq] at this
 cases this
theorem OL(hT:cv P T)(hΓ:eI P Γ)(hR:cV P R){K:St->Prop}(hK:∀ aV a' w',K aV->Sat base M w0 aV a' w'->Q .normal a' w')(hQp:∀ c a b w,Q (.panic c) a w->Q (.panic c) b w) :
 ∀(n:Nat) (ay:List Bool) (st:St) (a:Act) (w:World),Sat base M w0 st a w->wN T Γ R all n ay st K->wpAny P .any all Q n ay.toArray a w:=by
 have done:∀ {ay:List Bool},tZ all.toList ay 0 (bL all.toList)=[]->Region.ready .any all ay.toArray=[]:=by
  intro ay h
  apply List.eq_nil_iff_forall_not_mem.2
  intro j hj
  have:=wG.2 hj
  rw[h] at this;cases this
 have abC:∀(ay:List Bool) (i:Nat),(bP ay i true).toArray=ay.toArray.setIfInBounds i true:=by
  intro ay i;rw[ga];simp
 intro n
 induction n with
 | zero =>
   intro ay st a w hs h
   unfold wN at h
   split at h
   ·rename_i hr
    exact⟨done hr,hK st a w h hs⟩
   ·exact h.elim
 | succ n ih =>
   intro ay st a w hs h
   unfold wN at h
   split at h
   ·rename_i hr
    exact wpAny_done (done hr) (hK st a w h hs) _
   ·rename_i j r hr
    split at h
    ·rename_i i hi
     obtain⟨h1,h2⟩:=xT hi
     rw[<-hr] at h1
     have iO:=wG.1 h1
     unfold SY at h2
     split at h2
     ·rename_i oi ho
      rw[fa] at ho
      have cm:all[i]? = some oi:=by simpa using ho
      simp only[Bool.and_eq_true] at h2
      obtain⟨⟨s1,s2⟩,s3⟩:=h2
      unfold Cz at h
      rw[fa,ho] at h
      simp only at h
      have hg:oi.guard=none:=Cp s1
      have oG:lA all oi st = .go:=by unfold lA;rw[hg]
      rw[oG] at h
      simp only at h
      obtain⟨hd,V,rr⟩:=hs
      obtain⟨u,hu⟩:=VQ hT s1 rr.eval h
      have oe:=Iw (Q:=fun _ _ _=>False) (next:=fun a' w'=>∃ aV,wN T Γ R all n (bP ay i true) aV K/\Sat base M w0 aV a' w') hT hΓ hR ⟨hd,V,rr⟩ h (fun aV v w' h1 h2=>⟨aV,h1,h2⟩)
      have mB:=D0 (hu w) oe
      obtain⟨aV,k1,k2⟩:=mB
      refine wpAny_first cm (fun j o cs b hj=>DM s2 j o cs b hj) (fun c a w h=>hQp c _ _ w h) n ay.toArray a w (fun j oj hj bo qA lu=>?_) iO (v:=u) (.inl ⟨?_,hu⟩) ?_
      ·refine DB s3 j oj (by simpa using hj) (by omega) ?_ lu
       rw[Nat.zero_add,Sf];exact qA
      ·unfold Region.wanted;rw[hg]
      ·rw[<-abC]
       exact ih _ _ _ w k2 k1
     ·cases h2
    ·rw[<-hr] at h
     refine⟨fun h0=>?_,fun i hi=>?_⟩
     ·have:j∈Region.ready .any all ay.toArray:=wG.1 (by rw[hr];exact List.mem_cons_self ..)
      rw[h0] at this;cases this
     ·refine Wk hT hΓ hR hs (IU h i (wG.2 hi)) (fun aV a' w' k bb=>?_)
      rw[<-abC]
      exact ih _ _ _ w' bb k
theorem sW(h:q9 all k=true){i:Nat}{o:Oper}(ho:all[i]? = some o):(i<k\/∀ j,j<k->(ff all i).testBit j=true\/K1 all j=true)/\∀ e∈o.after,Region.binds .any e=true->e.on<i:=by
 unfold q9 at h
 rw[List.all_eq_true] at h
 have hi:=(Array.getElem?_eq_some_iff.1 ho).1
 have h1:=h i (List.mem_range.2 hi)
 rw[Bool.and_eq_true,ho] at h1
 obtain⟨h2,h3⟩:=h1
 refine⟨?_,fun e he hb=>?_⟩
 ·rw[Bool.or_eq_true] at h2
  rcases h2 with h2|h2
  ·exact .inl (by simpa using h2)
  ·right
   intro j hj
   rw[List.all_eq_true] at h2
   have:=h2 j (List.mem_range.2 hj)
   rw[Bool.or_eq_true] at this
   exact this
 ·simp only[List.all_eq_true,Bool.or_eq_true,Bool.not_eq_true',decide_eq_true_eq] at h3
  rcases h3 e (by simpa using he) with h4|h4
  ·rw[hb] at h4;cases h4
  ·exact h4
theorem MU(h:q9 all k=true):∀ i j,(ff all i).testBit j=true->j<i:=by
 intro i
 induction i using Nat.strongRecOn with
 | _ i ih =>
   intro j hj
   obtain⟨o,h1,e,h2,h3,h4⟩:=BN all i j hj
   have h5:=(sW h h1).2 e h2 h3
   rcases h4 with rfl|⟨_,h6⟩
   ·exact h5
   ·have:=ih e.on h5 j h6
    omega
theorem NU(h:q9 all k=true){ay:Array Bool}{i:Nat}{o:Oper}(ho:all[i]? = some o)(hu:ay.getD i true=false)(hb:∀ j,j<i->ay.getD j false=true):i∈Region.ready .any all ay :=
 mem_ready.2 ⟨hu,o,ho,fun e he tw=>hb _ ((sW h ho).2 e he tw)⟩
theorem Ax{all:Array Oper}{oi:Oper}{i:Nat}:∀ {l:List Oper} {m:Nat},za all oi i m l=true->∀(j:Nat) (oj:Oper),l[j]? = some oj->m+j≠i->(ff all i).testBit (m+j)=false →
 (∀ e∈oj.after,Region.binds .any e=true->e.on≠i)->oi.apart all oj=true
 | [],m,_,j,oj,h,_,_,_=>by cases h
 | o::r,m,h,j,oj,hj,bo,qA,lu=>by
   unfold za at h
   rw[Bool.and_eq_true] at h
   cases j with
   | zero =>
     simp only[List.getElem?_cons_zero,Option.some.injEq] at hj
     subst hj
     rw[Nat.add_zero] at bo qA
     have h1:=h.1
     rw[Bool.or_eq_true,Bool.or_eq_true,Bool.or_eq_true,qA,yd,List.any_eq_true] at h1
     rcases h1 with ((h1|h1)|⟨e,he,hb⟩)|h1
     ·exact absurd (by simpa using h1) bo
     ·cases h1
     ·rw[Bool.and_eq_true] at hb
      exact absurd (by simpa using hb.2) (lu e (by simpa using he) hb.1)
     ·exact h1
   | succ j =>
     have e:m+(j+1)=(m+1)+j:=by omega
     exact Ax h.2 j oj (by simpa using hj) (by rw[<-e];exact bo) (by rw[<-e];exact qA) lu
theorem UZ{ay:Array Bool}(hk:k<=all.size)(cD:ay.size=all.size)(kj:∀ j,j<k->eh ay j=true)(ny:∀ j,k<=j->j<all.size->ay.getD j true=false) :
 ay=(List.replicate k true++List.replicate (all.size-k) false).toArray:=by
 apply Array.ext
 ·simp;omega
 ·intro i h1 h2
  rcases Nat.lt_or_ge i k with h|h
  ·have:=kj i h
   unfold eh at this
   simp only[Array.getD_eq_getD_getElem?,Array.getElem?_eq_getElem h1,Option.getD_some] at this
   rw[this]
   simp[List.getElem_append,h]
  ·have:=ny i h (by omega)
   simp only[Array.getD_eq_getD_getElem?,Array.getElem?_eq_getElem h1,Option.getD_some] at this
   rw[this]
   simp[List.getElem_append,show ¬i<k by omega]
theorem P7 (hT : cv P T) (hΓ : eI P Γ) (g9 : jq all k = true) (v8 : q9 all k = true) (hQp : ∀ c a b w, Q (.panic c) a w → Q (.panic c) b w) (hk : k ≤ all.size) (hE : E.length = k) (ep : E0 E)
    (hf : ∀ i, i < k → La T Γ all k cd E i) (fin : ie all cd E k dk dS) (hQ : ∀ a w, Sat base M w0 dS a w → P9 E → wpAny P .any all Q (all.size - k) (List.replicate k true ++ List.replicate (all.size - k) false).toArray a w) :
    ∀ (m fuel : Nat) (l : List Nat) (ay : Array Bool) (a : Act) (w : World), l.length = m → m + (all.size - k) = fuel → l.Nodup → (∀ j ∈ l, j < k ∧ eh ay j = false) → ay.size = all.size → EX all ay →
    (∀ j, j < k → eh ay j = false → j ∈ l) → (∀ j, k ≤ j → j < all.size → ay.getD j true = false) → Inv base M w0 all k cd E dk dS (eh ay) a w → wpAny P .any all Q fuel ay a w := by
  intro m
  induction m with
  | zero =>
    intro fuel l ay a w hl Yk WZ qy cD gK Bw ny hi
    have By : l = [] := List.length_eq_zero_iff.1 hl
    have kj : ∀ j, j < k → eh ay j = true := fun j hj => by
      cases h : eh ay j with
      | true => rfl
      | false => have := Bw j hj h; rw [By] at this; cases this
    obtain ⟨h1, h2⟩ := HA kj hE fin hi
    rw [UZ hk cD kj ny, ← Yk, Nat.zero_add]
    exact hQ a w h1 h2
  | succ m ih =>
    intro fuel l ay a w hl Yk WZ qy cD gK Bw ny hi
    by_cases kj : ∀ j, j < k → eh ay j = true
    · exfalso
      cases l with
      | nil => simp at hl
      | cons x xs =>
        obtain ⟨q1, q2⟩ := qy x (List.mem_cons_self ..)
        rw [kj x q1] at q2; cases q2
    · obtain ⟨f, rfl⟩ : ∃ f, fuel = f + 1 := ⟨fuel - 1, by omega⟩
      obtain ⟨i0, qx, hu0⟩ : ∃ i0, i0 < k ∧ eh ay i0 = false := by
        refine Classical.byContradiction fun hn => kj fun j hj => ?_
        cases h : eh ay j with
        | true => rfl
        | false => exact absurd ⟨j, hj, h⟩ hn
      -- the first that is not listed
      obtain ⟨i1, hi1, Uz, fe⟩ : ∃ i1, i1 < k ∧ eh ay i1 = false ∧ ∀ j, j < i1 → eh ay j = true := by
        clear hi Bw ny
        induction i0 using Nat.strongRecOn with
        | _ n ihn =>
          by_cases h : ∀ j, j < n → eh ay j = true
          · exact ⟨n, qx, hu0, h⟩
          · obtain ⟨j, hj, hu⟩ : ∃ j, j < n ∧ eh ay j = false := by
              refine Classical.byContradiction fun hn => h fun j hj => ?_
              cases h' : eh ay j with
              | true => rfl
              | false => exact absurd ⟨j, hj, h'⟩ hn
            exact ihn j hj (by omega) hu
      have unl : ∀ {j}, j < all.size → eh ay j = false → ay.getD j true = false := fun {j} hj h => by
        unfold eh at h
        have : j < ay.size := by omega
        simp [this] at h ⊢; exact h
      have Ob : ∀ {j}, ay.getD j true = false → eh ay j = false := fun {j} h => by
        unfold eh
        rcases Nat.lt_or_ge j ay.size with h' | h'
        · simp [h'] at h ⊢; exact h
        · simp [Array.getElem?_eq_none h']
      have Ve : ∀ i, i < k → i ∈ Region.ready .any all ay → ∀ a' w', Inv base M w0 all k cd E dk dS (j8 (eh ay) i) a' w' → wpAny P .any all Q f (ay.setIfInBounds i true) a' w' := by
        intro i ia hr a' w' cF
        obtain ⟨qA, oi, jy, Ua⟩ := mem_ready.1 hr
        have Ht := (Array.getElem?_eq_some_iff.1 jy).1
        have Jf := Ob qA
        have v9 : i ∈ l := Bw i ia Jf
        refine ih f (l.erase i) _ a' w' (by rw [List.length_erase_of_mem v9]; omega) (by omega) (WZ.erase _) (fun j hj => ?_) (by simp [cD]) ?_ (fun j hj hu => ?_) (fun j hj lr => ?_) ?_
        · have hm := qy j (List.mem_of_mem_erase hj)
          refine ⟨hm.1, ?_⟩
          rw [yg (by omega)]
          unfold j8
          rw [if_neg (fun e => by subst e; exact absurd hj (fun h => (List.Nodup.mem_erase_iff WZ).1 h |>.1 rfl))]
          exact hm.2
        · intro m om hm hl e he tw
          by_cases DG : i = m
          · subst DG
            rw [hm] at jy; injection jy with jy; subst jy
            exact getD_set_true (Ua e he tw)
          · rw [getD_set_ne false DG] at hl
            exact getD_set_true (gK m om hm hl e he tw)
        · rw [yg (by omega)] at hu
          unfold j8 at hu
          split at hu
          · cases hu
          · rename_i bo
            exact (List.mem_erase_of_ne bo).2 (Bw j hj hu)
        · rw [getD_set_ne true (by omega)]
          exact ny j hj lr
        · rw [yg (by omega)]; exact cF
      have stepOf : ∀ i o, i < k → all[i]? = some o → i ∈ Region.ready .any all ay → ∀ (Q' : Exit → Act → World → Prop) (next : Act → World → Prop), (∀ a' w', Inv base M w0 all k cd E dk dS (j8 (eh ay) i) a' w' → next a' w') →
          (Region.wanted o (yielded all a.tmps) = false ∧ next (a.put o.dst undef) w) ∨ (Region.wanted o (yielded all a.tmps) = true ∧ o.wp P a w next Q' ∧
            ∀ (hs : np o = true), ∃ u, ∀ w', (execOp a.eval o).run P w' = .ok (.value u) w') := by
        intro i o ia jy hr Q' next Yr
        obtain ⟨qA, oi, ahl, Ua⟩ := mem_ready.1 hr
        have hL : ∀ j, (ff all i).testBit j = true → eh ay j = true := nS gK i (.inr hr)
        obtain ⟨e, o', st, he, ho, s, hrf, s1, hq⟩ := hf i ia
        rw [jy] at ho; injection ho with ho; subst ho
        obtain ⟨V, v1, v2, h3⟩ := hi.ex
        have hw := JO g9 ia jy hrf s hi.size hL h3
        have Jf := Ob qA
        cases nO : e.r with
        | none =>
          rw [nO] at hw
          exact .inl ⟨by rw [hw]; rfl, Yr _ _ (MD g9 ia he jy nO fin hi)⟩
        | some q =>
          rw [nO] at hw
          refine .inr ⟨by rw [hw]; rfl, UM hT hΓ g9 ia he jy nO (ep e (List.mem_of_getElem? he) q nO) s1 fin (hq q nO) (fun j => MU v8 i j) hL Jf hi (fun u w' cF => Yr _ _ cF), fun hs => ?_⟩
          exact GL hT hs (hq q nO) (T3 (Nat.le_of_lt ia) s1 (fun j => MU v8 i j) hi.size hL v2 h3)
      by_cases Yo : ∃ i, i < k ∧ i ∈ Region.ready .any all ay ∧ K1 all i = true
      · obtain ⟨i, ia, hr, FX⟩ := Yo
        unfold K1 at FX
        split at FX
        · rename_i oi ho
          rw [fa] at ho
          have jy : all[i]? = some oi := by simpa using ho
          simp only [Bool.and_eq_true] at FX
          obtain ⟨⟨s1, s2⟩, s3⟩ := FX
          have hg := Cp s1
          rcases stepOf i oi ia jy hr (fun _ _ _ => False) (fun a' w' => Inv base M w0 all k cd E dk dS (j8 (eh ay) i) a' w') (fun _ _ h => h) with ⟨hw, _⟩ | ⟨hw, hwp, aeK⟩
          · unfold Region.wanted at hw; rw [hg] at hw; cases hw
          · obtain ⟨u, hu⟩ := aeK s1
            have hinv := D0 (hu w) hwp
            refine wpAny_first jy (fun j o cs b hj => DM s2 j o cs b hj) (fun c a w h => hQp c _ _ w h) f ay a w (fun j oj hj bo qA lu => ?_) hr (v := u) (.inl ⟨hw, hu⟩) (Ve i ia hr _ _ hinv)
            refine Ax s3 j oj (by simpa using hj) (by omega) ?_ lu
            rw [Nat.zero_add]
            cases hm : (ff all i).testBit j with
            | false => rfl
            | true =>
              have := nS gK i (.inr hr) j hm
              have h2 := Ob qA
              unfold eh at h2
              rw [h2] at this; cases this
        · cases FX
      have ho1 : all[i1]? = some (all[i1]'(by omega)) := Array.getElem?_eq_getElem _
      have Jh := NU v8 ho1 (unl (by omega) Uz) fe
      refine ⟨fun h0 => by rw [h0] at Jh; (cases Jh), fun i hr => ?_⟩
      obtain ⟨qA, oi, jy, Ua⟩ := mem_ready.1 hr
      have ia : i < k := by
        rcases (sW v8 jy).1 with h | h
        · exact h
        · rcases Nat.lt_or_ge i k with h' | h'
          · exact h'
          · exfalso
            rcases h i1 (by omega) with h2 | h2
            · have := nS gK i (.inr hr) i1 h2
              have abJ := Uz
              unfold eh at abJ
              rw [abJ] at this; cases this
            · exact Yo ⟨i1, hi1, Jh, h2⟩
      unfold wpOp
      simp only [jy]
      rcases stepOf i oi ia jy hr Q (wpAny P .any all Q f (ay.setIfInBounds i true)) (fun a' w' h => Ve i ia hr a' w' h) with ⟨hw, h⟩ | ⟨hw, h, _⟩
      · rw [if_neg (by rw [hw]; simp)]; exact h
      · rw [if_pos hw]; exact .inl h
theorem D4(hm:P.follows .mixedOrders=true)(hT:cv P T)(hΓ:eI P Γ)(hR:cV P R){id:Nat}{ops:Array Oper}{draw:Bool}{st:St}{K:St->Prop}{a:Act}{w:World}(hs:Sat base M w0 st a w)
 (h:Aa T Γ R ops draw st K) (hK:∀ aV a' w',K aV->Sat base M w0 aV a' w'->Q .normal a' w'):(Code.region id ops draw).wp P Q a w:=by
 unfold Aa at h
 split at h
 ·rename_i hd
  subst hd
  simp only at h
  split at h
  ·rename_i hc
   rw[Bool.and_eq_true] at hc
   obtain⟨g9,v8⟩:=hc
   have hk:oY T Γ [] ops.toList<=ops.size:=by have:=zh T Γ ops.toList [];simpa using this
   generalize oY T Γ [] ops.toList=k at *
   obtain⟨E,dk,dS,LY,ep,hKF⟩:=qq _ _ _ _ _ h
   rw[mH] at LY
   have hEl:E.length=k:=by rw[vO _ _ _ _ _ LY,List.length_take];simp;omega
   obtain⟨h1,h2⟩:=rR (E:=E) (cd:=st) g9 (ops.toList.take k) 0 [] st E (by simp) (by simp) (by simp;omega) LY (GM ops st E)
   refine wp_region_any hm ?_
   have bb:=Cm hs
   obtain⟨Bu,V,r⟩:=bb
   refine TA (E:=E) (dS:=dS) (dk:=dk) (cd:=st) (base:=base) (M:=M) (w0:=w0) hT hΓ g9 v8 hk hEl ep (fun i hi=>h1 i (Nat.zero_le _) hi) h2 (fun a' w' q1 q2=>?_) k ops.size (List.range k) _ a _ (by simp) (by omega) (by simp) ?_ (fun j hj _=>List.mem_range.2 hj) (fun j _ hj=>?_) ?_
   ·have hv:=hKF q2
    rw[mG] at hv
    have:=Ab (Q:=Q) hT hΓ hR hK (ops.toList.drop k) k rfl dS a' w' q1 hv
    simpa using this
   ·intro j oj hj hl
    simp only[Array.getD_eq_getD_getElem?,Array.getElem?_replicate] at hl
    split at hl<;>cases hl
   ·simp[hj]
   ·have hLF:eh (Array.replicate ops.size false)=fun _=>false:=by
     funext j
     unfold eh
     simp only[Array.getD_eq_getD_getElem?,Array.getElem?_replicate]
     split<;>rfl
    rw[hLF]
    have xY:mi st dk dS (fun _=>false)=st.an:=by
     funext n
     unfold mi
     split
     ·rfl
     ·rename_i hn
      have:st.an n = .dead:=by
       show nth .dead st.hp n=_
       rw[cT,List.getElem?_eq_none (by rw[<-dz];omega)]
       rfl
      rw[this]
      split<;>rfl
    refine⟨Bu,r.len,⟨V,by rw[xY];exact r.mem,fun t s v _ hs hv=>by rw[xY];exact r.iZ t s v hs hv,fun j o d v _ hL=>by cases hL⟩,fun j e q _ hL=>by cases hL⟩
  split at h
  ·rename_i hc
   rw[Bool.and_eq_true] at hc
   obtain⟨g9,v8⟩:=hc
   have hk:oY T Γ [] ops.toList<=ops.size:=by have:=zh T Γ ops.toList [];simpa using this
   generalize oY T Γ [] ops.toList=k at *
   obtain⟨E,dk,dS,LY,ep,hKF⟩:=qq _ _ _ _ _ h
   rw[mH] at LY
   have hEl:E.length=k:=by rw[vO _ _ _ _ _ LY,List.length_take];simp;omega
   obtain⟨h1,h2⟩:=rR (E:=E) (cd:=st) g9 (ops.toList.take k) 0 [] st E (by simp) (by simp) (by simp;omega) LY (GM ops st E)
   refine wp_mono (Q:=fun e a w=>match e with | .panic _=>False|e=>Q e a w) ?_ (fun e a w h=>by cases e<;>first|exact h|exact h.elim)
   refine wp_region_any hm ?_
   have bb:=Cm hs
   obtain⟨Bu,V,r⟩:=bb
   refine P7 (E:=E) (dS:=dS) (dk:=dk) (cd:=st) (base:=base) (M:=M) (w0:=w0) hT hΓ g9 v8 (fun c a b w h=>h.elim) hk hEl ep (fun i hi=>h1 i (Nat.zero_le _) hi) h2 (fun a' w' q1 q2=>?_) k ops.size (List.range k) _ a _ (by simp) (by omega) List.nodup_range (fun j hj=>⟨List.mem_range.1 hj,?_⟩) (by simp) ?_ (fun j hj _=>List.mem_range.2 hj) (fun j _ hj=>?_) ?_
   ·have hv:=hKF q2
    rw[mG,dz,iG,iG,cp] at hv
    have hln:(ops.toList.drop k).length=ops.size-k:=by simp
    rw[hln] at hv
    exact OL (Q:=fun e a w=>match e with | .panic _=>False|e=>Q e a w) hT hΓ hR (fun aV a' w' k bb=>hK aV a' w' k bb) (fun c a b w h=>h.elim) _ _ dS a' w' q1 hv
   ·unfold eh
    simp only[Array.getD_eq_getD_getElem?,Array.getElem?_replicate]
    split<;>rfl
   ·intro j oj hj hl
    simp only[Array.getD_eq_getD_getElem?,Array.getElem?_replicate] at hl
    split at hl<;>cases hl
   ·simp[hj]
   ·have hLF:eh (Array.replicate ops.size false)=fun _=>false:=by
     funext j
     unfold eh
     simp only[Array.getD_eq_getD_getElem?,Array.getElem?_replicate]
     split<;>rfl
    rw[hLF]
    have xY:mi st dk dS (fun _=>false)=st.an:=by
     funext n
     unfold mi
     split
     ·rfl
     ·rename_i hn
      have:st.an n = .dead:=by
       show nth .dead st.hp n=_
       rw[cT,List.getElem?_eq_none (by rw[<-dz];omega)]
       rfl
      rw[this]
      split<;>rfl
    refine⟨Bu,r.len,⟨V,by rw[xY];exact r.mem,fun t s v _ hs hv=>by rw[xY];exact r.iZ t s v hs hv,fun j o d v _ hL=>by cases hL⟩,fun j e q _ hL=>by cases hL⟩
  ·refine wp_mono (Q:=fun e a w=>match e with | .panic _=>False|e=>Q e a w) ?_ (fun e a w h=>by cases e<;>first|exact h|exact h.elim)
   refine wp_region_any hm ?_
   rw[dz,iG] at h
   have hl:(List.replicate ops.toList.length false).toArray=Array.replicate ops.size false:=by simp
   have:=OL (Q:=fun e a w=>match e with | .panic _=>False|e=>Q e a w) hT hΓ hR (fun aV a' w' k bb=>hK aV a' w' k bb) (fun c a b w h=>h.elim) ops.toList.length _ st a _ (Cm hs) h
   rw[hl] at this
   simpa using this
 ·rename_i hd
  have dR:draw=false:=by simpa using hd
  subst dR
  refine wp_region ?_
  have:=Ab (Q:=Q) hT hΓ hR hK ops.toList 0 rfl st a w hs h
  rw[List.range_eq_range']
  simpa using this
end
end Go.SX
/- States that a loop meets again. No condition. -/
namespace Go.SX
open Go.RowKit
set_option linter.unusedVariables false
set_option linter.unusedSimpArgs false
theorem dv{p q:Option Prop}:cU (fj p q)↔cU p/\cU q:=by
 cases p<;>cases q<;>simp[fj,cU]
theorem rJ{b:Bool}:cU (Gk b)↔b=true:=by
 cases b<;>simp[Gk,cU]
def d_(bF:List Src)(m:Nat):Src:=match bF[m]? with|some s=>s|none=>.no
def Vl.bF(V:Vl)(bF:List Src):Vl where
 aF m:=match d_ bF m with | .nm n=>V.aF n|_=>0
 has m:=match d_ bF m with | .nm n=>V.has n|_=>False
 Z0:=V.Z0
 Z1:=V.Z1
theorem pb{V:Vl}{bF:List Src}{m n:Nat}(h:d_ bF m = .nm n):(V.bF bF).aF m=V.aF n:=by unfold Vl.bF;simp only[h]
theorem pd{V:Vl}{bF:List Src}{m n:Nat}(h:d_ bF m = .nm n):(V.bF bF).has m↔V.has n:=by unfold Vl.bF;simp only[h]
theorem H3{V:Vl}{bF:List Src}{m:Nat}(h:d_ bF m = .nil):¬(V.bF bF).has m:=by unfold Vl.bF;simp only[h];exact id
def Conv{e' e:Ty}(ys:List e'.den)(xs:List e.den):Prop :=
 e'.size=e.size/\ys.length=xs.length/\(∀(Z:Nat->Prop) (w:World) (es:List Value) (i:Nat) (h1:i<ys.length) (h2:i<xs.length),aI Z w e' es ys[i]->aI Z w e es xs[i]) ∧
  ∀ i∈(az.row false e xs).gE,i∈(az.row false e' ys).gE
theorem Conv.refl{e:Ty}(xs:List e.den):Conv xs xs:=⟨rfl,rfl,fun _ _ _ _ _ _ h=>h,fun _ h=>h⟩
theorem wj:∀(t:Ty) (d:t.cO.den),ids t (gq t d)=[]
 | .gs _ _,_=>rfl
 | .sl _,_=>rfl
 | .st t,d=>wj t d
 | .pr a b,d=>by show ids a (gq a d.1)++ids b (gq b d.2)=[];rw[wj a,wj b];rfl
 | .int _,_=>rfl
 | .bool,_=>rfl
 | .str,_=>rfl
 | .ptr _,_=>rfl
 | .ca _ _,_=>rfl
theorem Conv.gq{e:Ty}{ys:List e.cO.den}(hn:∀ y∈ys,zB e y):Conv ys (ys.map (SX.gq e)):=by
 refine⟨b_ e,by simp,fun Z w es i h1 h2 h=>?_,fun i hi=>?_⟩
 ·rw[List.getElem_map]
  exact aI.gq e h (hn _ (List.getElem_mem h1))
 ·exfalso
  have cF:i∈(if e.bQ then aX e (ys.map (SX.gq e)) else []):=hi
  split at cF
  ·unfold aX at cF
   obtain⟨x,hx,Qz⟩:=List.mem_flatMap.1 cF
   obtain⟨y,_,rfl⟩:=List.mem_map.1 hx
   rw[wj] at Qz
   cases Qz
  ·cases cF
theorem FT{V:Vl}{w:World}{bF:List Src}{m n h:Nat}{e' e:Ty}{v:Value}(hs:d_ bF m = .nm n)(cD:e'.size=e.size)(k:du V w n e' h v):du (V.bF bF) w m e h v:=by
 rcases k with ⟨a1,a2⟩|⟨a1,cap,ak,el,b1,b2,b3,b4⟩
 ·exact .inl ⟨fun h=>a1 ((pd hs).1 h),a2⟩
 ·exact .inr ⟨(pd hs).2 a1,cap,ak,el,by rw[pb hs];exact b1,by rw[pb hs];exact b2,by rw[<-cD];exact b3,b4⟩
def xD(es:Nat->az)(r:Src)(t:az)(bF:List Src):Prop :=
 match t with
 | .dead=>True
 | .bx cs=>∃ n dm,r = .nm n/\es n = .bx dm/\cU (U4 bF dm cs)
 | .row fr e xs=>(∃ n a_,∃(e':Ty) (ys:List e'.den),r = .nm n/\es n = .row a_ e' ys/\(fr=true->a_=true)/\(fr=false->(e'.flat||e'.bQ)=(e.flat||e.bQ))/\Conv ys xs)\/(r = .nil/\xs=[])
theorem ac9{bF:List Src}{es:Nat->az}{r:Src}{t:az}(h:cU (mE bF es r t)):xD es r t bF/\(t = .dead->r = .no):=by
 unfold mE at h
 cases t with
 | dead =>
   refine⟨trivial,fun _=>?_⟩
   cases r<;>first|rfl|exact h.elim
 | bx cs =>
   refine⟨?_,fun h=>by cases h⟩
   cases r with
   | nm n =>
     simp only at h
     split at h
     ·rename_i dm fA
      exact⟨n,dm,rfl,fA,h⟩
     ·exact h.elim
   | nil=>exact h.elim
   | no=>exact h.elim
 | row fr e xs =>
   refine⟨?_,fun h=>by cases h⟩
   cases r with
   | nm n =>
     simp only at h
     split at h
     ·rename_i a_ e' ys qw
      split at h
      ·rename_i he
       subst he
       split at h
       ·exact h.elim
       ·rename_i Az
        have:ys=xs:=h
        subst this
        refine .inl ⟨n,a_,_,_,rfl,qw,fun hf=>?_,fun _=>rfl,Conv.refl _⟩
        subst hf
        cases a_<;>simp_all
      ·split at h
       ·rename_i he
        subst he
        split at h
        ·rename_i Az
         rw[Bool.and_eq_true] at Az
         obtain⟨h1,h2⟩:=h
         have h1:∀ y∈ys,zB e y:=h1
         have h2:xs=ys.map (gq e):=h2
         subst h2
         exact .inl ⟨n,a_,_,ys,rfl,qw,fun _=>Az.2,fun hf=>by rw[hf] at Az;exact absurd Az.1 (by simp),Conv.gq h1⟩
        ·exact h.elim
       ·exact h.elim
     ·exact h.elim
   | nil=>exact .inr ⟨rfl,h⟩
   | no=>exact h.elim
theorem U5{bF:List Src}{es:Nat->az}:∀ {rs:List Src} {ts:List az},cU (mEs bF es rs ts)->rs.length=ts.length/\∀(m:Nat) r t,rs[m]? = some r->ts[m]? = some t->cU (mE bF es r t)
 | [],[],_=>⟨rfl,fun m r t h=>by cases h⟩
 | [],_::_,h=>h.elim
 | _::_,[],h=>h.elim
 | r::rs,t::ts,h=>by
   obtain⟨h1,h2⟩:=dv.1 h
   obtain⟨h3,h4⟩:=U5 h2
   refine⟨by simp[h3],fun m r' t' hr ht=>?_⟩
   cases m with
   | zero=>simp at hr ht;subst hr;subst ht;exact h1
   | succ m=>exact h4 m r' t' (by simpa using hr) (by simpa using ht)
theorem zq{es:Nat->az}:∀ {k:Nat} {rs:List Src} {ts:List az},F9 es k rs ts=true->∀ {j n:Nat} {e:Ty} {xs:List e.den},rs[j]? = some (.nm n)->ts[j]? = some (.row false e xs) →
 (e.flat||e.bQ)=true->n=k+j/\∃ e' br,es n = .row false e' br
 | k,[],_,_,j,n,e,xs,h,_=>by cases h
 | k,_::_,[],_,j,n,e,xs,_,h=>by cases h
 | k,r::rs,t::ts,h,j,n,e,xs,h1,h2=>by
   intro eD
   unfold F9 at h
   rw[Bool.and_eq_true] at h
   obtain⟨g1,g2⟩:=h
   cases j with
   | zero =>
     simp only[List.getElem?_cons_zero,Option.some.injEq] at h1 h2
     subst h1;subst h2
     simp only[eD,Bool.not_true,Bool.false_or,Bool.and_eq_true,beq_iff_eq] at g1
     obtain⟨g3,g4⟩:=g1
     refine⟨g3,?_⟩
     split at g4
     ·rename_i fr e' br he
      cases fr with
      | false=>exact⟨e',br,he⟩
      | true=>cases g4
     ·cases g4
   | succ j =>
     obtain⟨a1,a2⟩:=zq g2 (j:=j) (by simpa using h1) (by simpa using h2) eD
     exact⟨by omega,a2⟩
theorem Xc{e:az}{bF:List Src}{ts:List az}(h:R8 e bF ts=true)(he:e.BJ=true):∃ r cs l,bF = .nm 0::r/\ts = .bx cs::l:=by
 cases e with
 | bx cs =>
   unfold R8 at h
   split at h
   ·exact⟨_,_,_,rfl,rfl⟩
   ·cases h
   ·rename_i h1 h2
    first
     | exact absurd rfl (h2 cs)
     | exact (h2 cs rfl).elim
     | (exfalso;simp_all)
 | dead=>cases he
 | row fr e xs=>cases he
theorem DN:∀ {bF:List Src},oM bF=true->∀ {m m' n:Nat},bF[m]? = some (.nm n)->bF[m']? = some (.nm n)->m=m'
 | [],_,m,m',n,h,_=>by cases h
 | r::rs,h,m,m',n,h1,h2=>by
   have ac0:oM rs=true:=by
    cases r with
    | nm k=>simp only[oM,Bool.and_eq_true] at h;exact h.2
    | nil=>exact h
    | no=>exact h
   have abo:∀ {j:Nat},r = .nm n->rs[j]? = some (.nm n)->False:=by
    intro j hr hj
    subst hr
    simp only[oM,Bool.and_eq_true,yd,Bool.not_eq_true',List.any_eq_false] at h
    have:=h.1 (.nm n) (List.mem_of_getElem? hj)
    simp at this
   cases m with
   | zero =>
     cases m' with
     | zero=>rfl
     | succ m' =>
       simp only[List.getElem?_cons_zero,Option.some.injEq] at h1
       exact (abo (j:=m') h1 (by simpa using h2)).elim
   | succ m =>
     cases m' with
     | zero =>
       simp only[List.getElem?_cons_zero,Option.some.injEq] at h2
       exact (abo (j:=m) h2 (by simpa using h1)).elim
     | succ m' =>
       rw[DN ac0 (m:=m) (m':=m') (by simpa using h1) (by simpa using h2)]
section
variable {V : Vl} {hp : Nat → az} {w : World}
theorem C.ok_one:∀ {c:C} {v:Value},C.ok V hp w c v->v.oneCell'=true:=by
 intro c v h
 cases c with
 | val u =>
   rw[h.1]
   have:=h.2
   cases u<;>first|rfl|exact this.elim
 | iB=>rw[show v=_ from h];rfl
 | iq=>rw[show v=_ from h];rfl
 | rd fr e xs=>exact aI.dA h v (List.mem_singleton.2 rfl)
 | own n =>
   obtain⟨fr,e,xs,_,h2⟩:=h
   rcases h2 with ⟨_,h2,_⟩|⟨_,cap,ak,el,h2,_⟩<;>rw[h2]<;>rfl
 | pre n k =>
   obtain⟨fr,e,xs,_,_,h2⟩:=h
   rcases h2 with ⟨_,h2,_⟩|⟨_,cap,ak,el,h2,_⟩<;>rw[h2]<;>rfl
 | fP n e xs=>exact aI.dA h.2 v (List.mem_singleton.2 rfl)
 | box n off=>rw[h.1];rfl
 | at_ fr t d off=>obtain⟨b,o,h1,_⟩:=h;rw[h1];rfl
 | eR n i off=>obtain⟨_,fr,e,xs,_,_,h3⟩:=h;rw[h3];rfl
 | fn f ea=>rw[h.1];rfl
 | ca fr f t d=>exact aI.dA (t:=.ca f t) h v (List.mem_singleton.2 rfl)
 | rg fr wh e b xs=>exact aI.dA (t:=.gs wh e) h v (List.mem_singleton.2 rfl)
 | any=>exact h
variable {aJ : Nat → az} {bF : List Src}
theorem YE(hE:∀ m,xD hp (d_ bF m) (aJ m) bF/\(aJ m = .dead->d_ bF m = .no)){x y:C}{v:Value}(h:cU (mC bF x y))(ho:C.ok V hp w x v):C.ok (V.bF bF) aJ w y v:=by
 have ab_:∀ {n m:Nat},d_ bF m = .nm n->C.ok V hp w (.own n) v->C.ok (V.bF bF) aJ w (.own m) v:=by
  intro n m hs ho
  obtain⟨fr,e,xs,h1,h2⟩:=ho
  obtain⟨k1,k2⟩:=hE m
  cases ht:aJ m with
  | dead=>rw[k2 ht] at hs;cases hs
  | bx cs =>
    rw[ht] at k1
    obtain⟨n',dm,e1,e2,_⟩:=k1
    rw[hs] at e1;injection e1 with e1;subst e1
    rw[h1] at e2;cases e2
  | row a_ e' ys =>
    rw[ht] at k1
    rcases k1 with ⟨n',nN,e2',D5,e1,e2,_,_,c1,c2,_⟩|⟨e1,_⟩
    ·rw[hs] at e1;injection e1 with e1;subst e1
     rw[h1] at e2;injection e2 with q1 q2 q3
     subst q1;subst q2;cases q3
     refine⟨a_,e',ys,ht,?_⟩
     rw[<-c2]
     exact FT hs c1 h2
    ·rw[hs] at e1;cases e1
 unfold mC at h
 split at h
 ·exact C.ok_one ho
 ·split at h
  ·rename_i hk
   subst hk
   rw[show _=_ from h] at ho
   exact ho
  ·exact h.elim
 ·rw[show _=_ from h] at ho;exact ho
 ·rw[show _=_ from h];exact⟨ho,trivial⟩
 ·rw[show _=_ from h];exact⟨ho,trivial⟩
 ·exact ho
 ·exact ho
 ·rw[show _=_ from h] at ho;exact ho
 ·rename_i fr e xs a_ e' ys
  split at h
  ·rename_i he
   subst he
   split at h
   ·exact h.elim
   ·rename_i Az
    have:xs=ys:=h
    subst this
    exact aI.mono (t:=.sl e) (fun b hb=>by
     cases a_ with
     | false=>exact Vl.db (V:=V) hb
     | true=>have:fr=true:=by cases fr<;>simp_all
             subst this;exact hb) (fun _ _=>rfl) ho
  ·exact h.elim
 ·rename_i fr e ys
  have:ys=[]:=h
  subst this
  rw[ho.1]
  exact aI.zero (.sl e) rfl
 ·rename_i n m
  rw[fa] at h
  split at h
  ·rename_i n' hr
   have hn:n'=n:=by simpa using rJ.1 h
   subst hn
   exact ab_ (by unfold d_;rw[hr]) ho
  ·exact h.elim
 ·rename_i m
  rw[fa] at h
  split at h
  ·rename_i hr
   have hs:d_ bF m = .nil:=by unfold d_;rw[hr]
   obtain⟨k1,k2⟩:=hE m
   cases ht:aJ m with
   | dead=>rw[k2 ht] at hs;cases hs
   | bx cs=>rw[ht] at k1;obtain⟨n',dm,e1,_⟩:=k1;rw[hs] at e1;cases e1
   | row a_ e' ys =>
     rw[ht] at k1
     rcases k1 with ⟨n',nN,_,_,e1,_⟩|⟨_,e2⟩
     ·rw[hs] at e1;cases e1
     ·subst e2
      exact⟨a_,e',[],ht,.inl ⟨H3 hs,ho.1,rfl⟩⟩
  ·exact h.elim
 ·rename_i n k m k'
  rw[fa] at h
  split at h
  ·rename_i n' hr
   obtain⟨hn,hk⟩:=dv.1 h
   have hn:n'=n:=by simpa using rJ.1 hn
   have hk:k=k':=hk
   subst hn;subst hk
   have hs:d_ bF m = .nm n':=by unfold d_;rw[hr]
   obtain⟨fr,e,xs,h1,h2,h3⟩:=ho
   obtain⟨k1,k2⟩:=hE m
   cases ht:aJ m with
   | dead=>rw[k2 ht] at hs;cases hs
   | bx cs =>
     rw[ht] at k1
     obtain⟨n2,dm,e1,e2,_⟩:=k1
     rw[hs] at e1;injection e1 with e1;subst e1
     rw[h1] at e2;cases e2
   | row a_ e' ys =>
     rw[ht] at k1
     rcases k1 with ⟨n2,nN,e2',D5,e1,e2,_,_,c1,c2,_⟩|⟨e1,_⟩
     ·rw[hs] at e1;injection e1 with e1;subst e1
      rw[h1] at e2;injection e2 with q1 q2 q3
      subst q1;subst q2;cases q3
      exact⟨a_,e',ys,ht,by rw[<-c2];exact h2,FT hs c1 h3⟩
     ·rw[hs] at e1;cases e1
  ·exact h.elim
 ·rename_i n o m o'
  rw[fa] at h
  split at h
  ·rename_i n' hr
   have hh:=rJ.1 h
   simp only[Bool.and_eq_true,beq_iff_eq] at hh
   obtain⟨rfl,rfl⟩:=hh
   have hs:d_ bF m = .nm n':=by unfold d_;rw[hr]
   obtain⟨h1,h2,cs,h3⟩:=ho
   obtain⟨k1,k2⟩:=hE m
   cases ht:aJ m with
   | dead=>rw[k2 ht] at hs;cases hs
   | bx dm=>exact⟨by rw[pb hs];exact h1,(pd hs).2 h2,dm,ht⟩
   | row a_ e' ys =>
     rw[ht] at k1
     rcases k1 with ⟨n',nN,_,_,e1,e2,_⟩|⟨e1,_⟩
     ·rw[hs] at e1;injection e1 with e1;subst e1
      rw[h3] at e2;cases e2
     ·rw[hs] at e1;cases e1
  ·exact h.elim
 ·rename_i fr wh e b xs a_ wO e' b' ys
  split at h
  ·rename_i he
   subst he
   split at h
   ·exact h.elim
   ·rename_i Az
    obtain⟨h1,h2⟩:b=b'/\xs=ys:=h
    subst h1;subst h2
    have cm:aI (V.Z fr) w (.gs wh e) [v] (b,xs):=ho
    refine Ya (wO:=wh) (fun hw=>by cases wh<;>simp_all) ?_
    exact cm.mono (fun b hb=>by
     cases a_ with
     | false=>exact Vl.db (V:=V) hb
     | true=>have:fr=true:=by cases fr<;>simp_all
             subst this;exact hb) (fun _ _=>rfl)
  ·exact h.elim
 ·rename_i fr wh e b ys
  have:ys=[]:=h
  subst this
  rw[ho.1]
  exact⟨⟨none,0,rfl,Nat.le_refl _,Nat.zero_le _,fun i hi=>absurd hi (Nat.not_lt_zero _)⟩,fun hp=>absurd hp (Nat.lt_irrefl _),fun _ hp=>absurd hp (Nat.lt_irrefl _)⟩
 ·rename_i fr wh e b xs a_ e' ys
  split at h
  ·rename_i he
   subst he
   split at h
   ·exact h.elim
   ·rename_i Az
    have:xs=ys:=h
    subst this
    have cm:aI (V.Z fr) w (.gs wh e) [v] (b,xs):=ho
    exact aI.mono (t:=.sl e) (fun b hb=>by
     cases a_ with
     | false=>exact Vl.db (V:=V) hb
     | true=>have:fr=true:=by cases fr<;>simp_all
             subst this;exact hb) (fun _ _=>rfl) (ze cm)
  ·exact h.elim
 ·rename_i fr t d o a_ t' d' o'
  split at h
  ·rename_i he
   subst he
   split at h
   ·exact h.elim
   ·rename_i Az
    obtain⟨h1,h2⟩:=dv.1 h
    have e1:o=o':=by simpa using rJ.1 h1
    have e2:d=d':=h2
    subst e1;subst e2
    have hz:∀ b,V.Z fr b->(V.bF bF).Z a_ b:=fun b hb=>by
     cases a_ with
     | false=>exact Vl.db (V:=V) hb
     | true=>have:fr=true:=by cases fr<;>simp_all
             subst this;exact hb
    obtain⟨b,o2,k1,k2,es,k3,k4,k5⟩:=ho
    exact⟨b,o2,k1,hz b k2,es,k3,k4,k5.mono hz (fun _ _=>rfl)⟩
  ·exact h.elim
 ·rename_i fr f t d a_ f' t' d'
  split at h
  ·rename_i he
   subst he
   split at h
   ·exact h.elim
   ·rename_i Az
    obtain⟨h1,h2⟩:=dv.1 h
    have e1:f=f':=by simpa using rJ.1 h1
    have e2:d=d':=h2
    subst e1;subst e2
    have hz:∀ b,V.Z fr b->(V.bF bF).Z a_ b:=fun b hb=>by
     cases a_ with
     | false=>exact Vl.db (V:=V) hb
     | true=>have:fr=true:=by cases fr<;>simp_all
             subst this;exact hb
    have h':aI (V.Z fr) w (.ca f t) [v] d:=ho
    exact h'.mono hz (fun _ _=>rfl)
  ·exact h.elim
 ·rename_i n i o m i' o'
  rw[fa] at h
  split at h
  ·rename_i n' hr
   obtain⟨h1,h2⟩:=dv.1 h
   have hh:=rJ.1 h1
   simp only[Bool.and_eq_true,beq_iff_eq] at hh
   obtain⟨rfl,rfl⟩:=hh
   have hi:i=i':=h2
   subst hi
   have hs:d_ bF m = .nm n':=by unfold d_;rw[hr]
   obtain⟨a1,fr,e,xs,a2,a3,a4⟩:=ho
   obtain⟨k1,k2⟩:=hE m
   cases ht:aJ m with
   | dead=>rw[k2 ht] at hs;cases hs
   | bx dm =>
     rw[ht] at k1
     obtain⟨n',dm,e1,e2,_⟩:=k1
     rw[hs] at e1;injection e1 with e1;subst e1
     rw[a2] at e2;cases e2
   | row a_ e' ys =>
     rw[ht] at k1
     rcases k1 with ⟨n',nN,e2',D5,e1,e2,_,_,c1,c2,_⟩|⟨e1,_⟩
     ·rw[hs] at e1;injection e1 with e1;subst e1
      rw[a2] at e2;injection e2 with q1 q2 q3
      subst q1;subst q2;cases q3
      exact⟨(pd hs).2 a1,a_,e',ys,ht,by rw[<-c2];exact a3,by rw[pb hs,<-c1];exact a4⟩
     ·rw[hs] at e1;cases e1
  ·exact h.elim
 ·exact h.elim
theorem MS(hE:∀ m,xD hp (d_ bF m) (aJ m) bF/\(aJ m = .dead->d_ bF m = .no)):∀ {xs ys:List C} {vs:List Value},cU (U4 bF xs ys)->bO V hp w xs vs->bO (V.bF bF) aJ w ys vs
 | [],[],vs,_,ho=>⟨ho.1,fun j c v h=>by cases h⟩
 | [],_::_,vs,h,_=>h.elim
 | _::_,[],vs,h,_=>h.elim
 | x::xs,y::ys,vs,h,ho=>by
   obtain⟨h1,h2⟩:=dv.1 h
   cases vs with
   | nil=>have:=ho.1;cases this
   | cons v vs =>
     have h3:=MS (vs:=vs) hE h2 ⟨by simpa using ho.1,fun j c u hc hu=>ho.2 (j+1) c u (by simpa using hc) (by simpa using hu)⟩
     refine⟨by simpa using h3.1,fun j c u hc hu=>?_⟩
     cases j with
     | zero =>
       simp only[List.getElem?_cons_zero,Option.some.injEq] at hc hu
       subst hc;subst hu
       exact YE hE h1 (ho.2 0 x v rfl rfl)
     | succ j=>exact h3.2 j c u (by simpa using hc) (by simpa using hu)
theorem ac_(hE:∀ m,xD hp (d_ bF m) (aJ m) bF/\(aJ m = .dead->d_ bF m = .no)){x y:S}{v:Value}(h:cU (mS bF x y))(ho:S.ok V hp w x v):S.ok (V.bF bF) aJ w y v:=by
 unfold mS at h
 split at h
 ·trivial
 ·exact YE hE h ho
 ·obtain⟨vs,h1,h2⟩:=ho
  exact⟨vs,h1,MS hE h h2⟩
 ·exact ho
 ·exact h.elim
theorem U6(hE:∀ m,xD hp (d_ bF m) (aJ m) bF/\(aJ m = .dead->d_ bF m = .no)):∀ {xs ys:List S},cU (mSs bF xs ys)->xs.length=ys.length/\∀(j:Nat) x y,xs[j]? = some x->ys[j]? = some y->cU (mS bF x y)
 | [],[],_=>⟨rfl,fun j x y h=>by cases h⟩
 | [],_::_,h=>h.elim
 | _::_,[],h=>h.elim
 | x::xs,y::ys,h=>by
   obtain⟨h1,h2⟩:=dv.1 h
   obtain⟨h3,h4⟩:=U6 hE h2
   refine⟨by simp[h3],fun j x' y' hx hy=>?_⟩
   cases j with
   | zero=>simp at hx hy;subst hx;subst hy;exact h1
   | succ j=>exact h4 j x' y' (by simpa using hx) (by simpa using hy)
end
theorem EE{base:Nat}{M:LM}{w0 w:World}{s t:St}{a:Act}{bF:List Src}(h:Match bF s t)(hs:Sat base M w0 s a w):Sat base M w0 t a w:=by
 obtain⟨hd,V,r⟩:=hs
 obtain⟨h1,h2⟩:=dv.1 h
 obtain⟨h2,h3⟩:=dv.1 h2
 have cR:=rJ.1 h1
 rw[Bool.and_eq_true,Bool.and_eq_true] at cR
 obtain⟨⟨cR,DF⟩,Jd⟩:=cR
 obtain⟨e1,e2⟩:=U5 h3
 have hE:∀ m,xD s.an (d_ bF m) (t.an m) bF/\(t.an m = .dead->d_ bF m = .no):=by
  intro m
  cases hr:bF[m]? with
  | none =>
    have jV:=List.getElem?_eq_none_iff.1 hr
    have:t.an m = .dead:=by
     show nth .dead t.hp m=_
     rw[cT,List.getElem?_eq_none (by omega)]
     rfl
    rw[this]
    exact⟨trivial,fun _=>by unfold d_;rw[hr]⟩
  | some sr =>
    have aT:=(List.getElem?_eq_some_iff.1 hr).1
    have ht:t.hp[m]? = some (t.hp[m]'(by omega)):=List.getElem?_eq_getElem _
    have o8:t.an m=t.hp[m]'(by omega):=by
     show nth .dead t.hp m=_
     rw[cT,ht];rfl
    have x6:d_ bF m=sr:=by unfold d_;rw[hr]
    rw[o8,x6]
    exact ac9 (e2 m sr _ hr ht)
 obtain⟨f1,f2⟩:=U6 hE h2
 have nm:∀ m,(t.an m).live=true->(V.bF bF).has m->∃ n,d_ bF m = .nm n/\bF[m]? = some (.nm n)/\(s.an n).live=true/\V.has n/\(V.bF bF).aF m=V.aF n:=by
  intro m hl hh
  cases x6:d_ bF m with
  | no=>unfold Vl.bF at hh;simp only[x6] at hh
  | nil=>exact absurd hh (H3 x6)
  | nm n =>
    refine⟨n,rfl,?_,?_,(pd x6).1 hh,pb x6⟩
    ·unfold d_ at x6
     split at x6
     ·rename_i nw;rw[nw,x6]
     ·cases x6
    ·have:=(hE m).1
     cases o8:t.an m with
     | dead=>rw[o8] at hl;cases hl
     | bx cs=>rw[o8] at this;obtain⟨n',dm,k1,k2,_⟩:=this;rw[x6] at k1;injection k1 with k1;subst k1;rw[k2];rfl
     | row fr e xs =>
       rw[o8] at this
       rcases this with ⟨n',a_,_,_,k1,k2,_⟩|⟨k1,_⟩
       ·rw[x6] at k1;injection k1 with k1;subst k1;rw[k2];rfl
       ·rw[x6] at k1;cases k1
 have m:=r.mem
 refine⟨hd,V.bF bF,⟨by rw[<-f1];exact r.len,fun i y v hy hv=>?_,?_⟩⟩
 ·have aT:=(List.getElem?_eq_some_iff.1 hy).1
  have hx:s.ts[i]? = some (s.ts[i]'(by omega)):=List.getElem?_eq_getElem _
  exact ac_ hE (f2 i _ y hx hy) (r.iZ i _ v hx hv)
 ·refine⟨fun k=>?_,fun k cs hk=>?_,fun k hl hh=>?_,fun k e xs hk hh=>?_,fun k k' hl eo hh nw hb=>?_,m.z0,m.z1,m.kept,fun k hl hh=>?_,fun b hb=>?_,fun k hh i hi=>?_⟩
  ·have:=(hE k).1
   cases o8:t.an k with
   | dead=>trivial
   | bx cs =>
     rw[o8] at this
     obtain⟨n,dm,k1,k2,k3⟩:=this
     have h0:=m.cE n
     rw[k2] at h0
     obtain⟨ak,el,a1,a2⟩:=h0
     exact⟨ak,el,by rw[pb k1];exact a1,MS hE k3 a2⟩
   | row fr e xs =>
     rw[o8] at this
     rcases this with ⟨n,a_,e',ys,k1,k2,k3,_,c1,c2,c3,c4⟩|⟨k1,k2⟩
     ·have h0:=m.cE n
      rw[k2] at h0
      rcases h0 with ⟨a1,a2⟩|⟨a1,ak,el,a2,a3,a4⟩
      ·exact .inl ⟨fun hh=>a1 ((pd k1).1 hh),by subst a2;exact List.length_eq_zero_iff.1 c2.symm⟩
      ·refine .inr ⟨(pd k1).2 a1,ak,el,by rw[pb k1];exact a2,by rw[<-c2];exact a3,fun i hi=>?_⟩
       obtain⟨es,b1,b2,b3⟩:=a4 i (by rw[c2];exact hi)
       refine⟨es,by rw[<-c1];exact b1,by rw[<-c1];exact b2,c3 _ _ _ i (by rw[c2];exact hi) hi (b3.mono (fun b hb=>?_) (fun _ _=>rfl))⟩
       cases fr with
       | false=>exact Vl.db (V:=V) hb
       | true=>rw[k3 rfl] at hb;exact hb
     ·exact .inl ⟨H3 k1,k2⟩
  ·have:=(hE k).1
   rw[hk] at this
   obtain⟨n,dm,k1,k2,_⟩:=this
   exact (pd k1).2 (m.box n dm k2)
  ·obtain⟨n,_,_,k1,k2,k3⟩:=nm k hl hh
   rw[k3]
   exact m.own n k1 k2
  ·obtain⟨n,k0,_,_,k2,k3⟩:=nm k (by rw[hk];rfl) hh
   rw[k3]
   have:=(hE k).1
   rw[hk] at this
   rcases this with ⟨n',a_,e',ys,e1,e2,e3,_⟩|⟨e1,_⟩
   ·rw[k0] at e1;injection e1 with e1;subst e1
    rw[e3 rfl] at e2
    exact m.fY n e' ys e2 k2
   ·rw[k0] at e1;cases e1
  ·obtain⟨n,_,k0,k1,k2,k3⟩:=nm k hl hh
   obtain⟨n',_,k0',k1',k2',k3'⟩:=nm k' eo nw
   have:n=n':=m.gi n n' k1 k1' k2 k2' (by rw[<-k3,<-k3'];exact hb)
   subst this
   exact DN cR k0 k0'
  ·obtain⟨n,k0,k4,_,k2,k3⟩:=nm k (vo hl) hh
   rw[k3]
   have hE:=(hE k).1
   cases o8:t.an k with
   | dead=>rw[o8] at hl;exact hl.elim
   | bx cs=>rw[o8] at hl;exact hl.elim
   | row fr e xs =>
     rw[o8] at hE hl
     cases fr with
     | true=>exact hl.elim
     | false =>
       have eD:(e.flat||e.bQ)=true:=hl
       have DI:t.hp[k]? = some (.row false e xs):=by
        have h':nth .dead t.hp k = .row false e xs:=o8
        rw[cT] at h'
        cases hx:t.hp[k]? with
        | none=>rw[hx] at h';cases h'
        | some y=>rw[hx] at h';exact congrArg some h'
       have h9:=zq DF k4 DI
       rw[Nat.zero_add] at h9
       obtain⟨e1,e9⟩:=h9 eD
       rcases hE with ⟨n',a_,e',ys,q1,q2,q3,q4,c1,c2,c3,c4⟩|⟨q1,_⟩
       ·rw[k0] at q1
        injection q1 with q1
        subst q1
        obtain⟨e3,G7,e9⟩:=e9
        rw[q2] at e9
        injection e9 with e9 _ _
        subst e9
        have:=m.jO n (by rw[q2];exact (q4 rfl).trans eD) k2
        rw[e1] at this ⊢
        exact this
       ·rw[k0] at q1;cases q1
  ·obtain⟨q1,q2⟩:=m.oh b hb
   obtain⟨rr,cs,l,e1,e2⟩:=Xc Jd q1
   refine⟨?_,?_⟩
   ·show (nth .dead t.hp 0).BJ=true
    rw[e2];rfl
   ·rw[pb (n:=0) (by rw[e1];rfl)]
    exact q2
  ·cases o8:t.an k with
   | dead=>rw[o8] at hi;cases hi
   | bx cs=>rw[o8] at hi;cases hi
   | row fr e xs =>
     rw[o8] at hi
     cases fr with
     | true=>cases hi
     | false =>
       have eD:(e.flat||e.bQ)=true:=by
        have cF:i∈(if e.bQ then aX e xs else []):=hi
        split at cF
        ·rename_i hg;rw[hg,Bool.or_true]
        ·cases cF
       obtain⟨n,k0,k4,_,k2,k3⟩:=nm k (by rw[o8];rfl) hh
       have hE:=(hE k).1
       rw[o8] at hE
       have DI:t.hp[k]? = some (.row false e xs):=by
        have h':nth .dead t.hp k = .row false e xs:=o8
        rw[cT] at h'
        cases hx:t.hp[k]? with
        | none=>rw[hx] at h';cases h'
        | some y=>rw[hx] at h';exact congrArg some h'
       have h9:=zq DF k4 DI
       rw[Nat.zero_add] at h9
       obtain⟨e1,e3,G7,e9⟩:=h9 eD
       rcases hE with ⟨n',a_,e',ys,q1,q2,q3,q4,c1,c2,c3,c4⟩|⟨q1,_⟩
       ·rw[k0] at q1
        injection q1 with q1
        subst q1
        rw[q2] at e9
        injection e9 with e9 _ _
        subst e9
        exact fun e0=>m.gE n k2 i (by rw[q2];exact c4 i hi) (by omega)
       ·rw[k0] at q1;cases q1
end Go.SX
/- From what is to be shown of a function's code to its contract. No condition. -/
namespace Go.SX
open Go.RowKit
set_option linter.unusedVariables false
set_option linter.unusedSimpArgs false
def Ex.to:Ex->Exit
 | .normal=>.normal
 | .exit i=>.exit i
 | .ret=>.ret
section
variable {P : Program} {T : cC} {Γ : FuncId → Option PC} {R : FuncId → Option cL} {base : Nat} {M : LM} {w0 : World}
theorem C_(hm:P.follows .mixedOrders=true)(hT:cv P T)(hΓ:eI P Γ)(hR:cV P R):∀(c:Code) (A:Nat->Option bg) (st:St) (Qs:Ex->(Nat->Option bg)->St->Prop) (Q:Exit->Act->World->Prop) (a:Act) (w:World),
 Sat base M w0 st a w->vc T Γ R c A st Qs->(∀ e A' aV a' w',Qs e A' aV->Sat base M w0 aV a' w'->Q e.to a' w')->c.wp P Q a w:=by
 intro c
 induction c with
 | skip=>intro A st Qs Q a w hs h hQ;exact wp_skip (hQ .normal A st a w h hs)
 | region id ops draw =>
   intro A st Qs Q a w hs h hQ
   unfold vc at h
   split at h
   ·rename_i X J I m x0 inner _
    obtain⟨hd,V,r⟩:=hs
    obtain⟨V',r',_⟩:=r.LQ [m x0]
    exact D4 hm hT hΓ hR (⟨hd,V',r'⟩:Sat base M w0 (st.freeze (m x0)) a w) h (fun aV a' w' k bb=>hQ .normal A aV a' w' k bb)
   ·exact D4 hm hT hΓ hR hs h (fun aV a' w' k bb=>hQ .normal A aV a' w' k bb)
 | seq x y UG UH =>
   intro A st Qs Q a w hs h hQ
   unfold vc at h
   split at h
   ·rename_i X J I m x0 inner _
    obtain⟨h1,h2⟩:=h
    refine wp_seq (UG A st _ _ a w hs h1 (fun e A' aV a' w' hk bb=>?_))
    cases e with
    | normal =>
      obtain⟨x',k1,k2⟩:=hk
      exact UH (inner x') _ Qs Q a' w' (EE k2 bb) (h2 x' k1) hQ
    | exit i=>exact hQ (.exit i) A' aV a' w' hk bb
    | ret=>exact hQ .ret A' aV a' w' hk bb
   ·refine wp_seq (UG A st _ _ a w hs h (fun e A' aV a' w' hk bb=>?_))
    cases e with
    | normal=>exact UH A' aV Qs Q a' w' bb hk hQ
    | exit i=>exact hQ (.exit i) A' aV a' w' hk bb
    | ret=>exact hQ .ret A' aV a' w' hk bb
 | cond c x y UG UH =>
   intro A st Qs Q a w hs h hQ
   have ek:S.ok (Classical.choose hs.2) st.an w (st.eval c) (a.eval c):=(Classical.choose_spec hs.2).eval c
   unfold vc at h
   split at h
   ·rename_i e
    rw[e] at ek
    exact wp_cond_true ek (UG A st Qs Q a w hs h hQ)
   ·rename_i e
    rw[e] at ek
    exact wp_cond_false ek (UH A st Qs Q a w hs h hQ)
   ·rename_i b e
    rw[e] at ek
    exact wp_cond_split ek.1 (fun hb=>UG A st Qs Q a w hs (h.1 hb) hQ) (fun hb=>UH A st Qs Q a w hs (h.2 hb) hQ)
   ·exact h.elim
 | block id x ih =>
   intro A st Qs Q a w hs h hQ
   refine wp_block (ih A st _ _ a w hs h (fun e A' aV a' w' hk bb=>?_))
   cases e with
   | normal=>exact hQ .normal A' aV a' w' hk bb
   | exit i =>
     show Exit.inBlock id Q (.exit i) a' w'
     unfold Exit.inBlock
     simp only at hk ⊢
     split
     ·rename_i e
      rw[if_pos e] at hk
      exact hQ .normal A' aV a' w' hk bb
     ·rename_i e
      rw[if_neg e] at hk
      exact hQ (.exit i) A' aV a' w' hk bb
   | ret=>exact hQ .ret A' aV a' w' hk bb
 | loop x ih =>
   intro A st Qs Q a w hs h hQ
   unfold vc at h
   split at h
   ·rename_i X J I m x0 inner _
    obtain⟨h1,h2,h3⟩:=h
    refine wp_loop_ghost (fun n a w=>∃ y,J y/\m y=n/\Sat base M w0 (I (st.head x) y) a w) (m x0) ⟨x0,h1,rfl,EE h2 hs⟩ (fun n a w hI=>?_)
    obtain⟨y,hy,rfl,hsy⟩:=hI
    refine ih (inner y) _ _ _ a w hsy (h3 y hy) (fun e A' aV a' w' hk bb=>?_)
    cases e with
    | normal =>
      obtain⟨y',k1,k2,k3⟩:=hk
      exact⟨m y',k2,y',k1,rfl,EE k3 bb⟩
    | exit i=>exact hQ (.exit i) A' aV a' w' hk bb
    | ret=>exact hQ .ret A' aV a' w' hk bb
   ·exact h.elim
 | exit id=>intro A st Qs Q a w hs h hQ;exact wp_exit (hQ (.exit id) A st a w h hs)
 | ret=>intro A st Qs Q a w hs h hQ;exact wp_ret (hQ .ret A st a w h hs)
 | rangeFunc f ps x y=>intro A st Qs Q a w hs h hQ;exact h.elim
 | scope x=>intro A st Qs Q a w hs h hQ;exact h.elim
 | label l=>intro A st Qs Q a w hs h hQ;exact h.elim
 | goto l=>intro A st Qs Q a w hs h hQ;exact h.elim
 | refuse l=>intro A st Qs Q a w hs h hQ;exact h.elim
theorem aI.below{Z:Nat->Prop}{w:World}:∀ {t:Ty} {cs:List Value} {d:t.den},aI Z w t cs d->aI (fun b=>b<w.heap.size) w t cs d:=by
 intro t
 induction t with
 | int k=>exact fun h=>h
 | bool=>exact fun h=>h
 | str=>exact fun h=>h
 | sl e ih =>
   intro cs xs h
   obtain⟨a,cap,h1,h2,h3,h4⟩:=h
   refine⟨a,cap,h1,h2,h3,fun i hi=>?_⟩
   obtain⟨ad,e1,e2,e3,es,e4,e5,e6⟩:=h4 i hi
   refine⟨ad,e1,e2,?_,es,e4,e5,ih e6⟩
   have hp:=e.size_pos
   have:=e5 0 (by omega)
   unfold World.cell? at this
   cases hb:w.heap[ad.block]? with
   | none=>rw[hb] at this;cases this
   | some o=>exact (Array.getElem?_eq_some_iff.1 hb).1
 | st t ih=>exact fun h=>ih h
 | pr a b fX fR =>
   intro cs d h
   obtain⟨c1,c2,h1,h2,h3⟩:=h
   exact⟨c1,c2,h1,fX h2,fR h3⟩
 | ptr t ih =>
   intro cs d h
   obtain⟨b,o,h1,h2,es,h3,h4,h5⟩:=h
   refine⟨b,o,h1,?_,es,h3,h4,ih h5⟩
   have hp:=t.size_pos
   have:=h4 0 (by omega)
   unfold World.cell? at this
   cases hb:w.heap[b]? with
   | none=>rw[hb] at this;cases this
   | some o=>exact (Array.getElem?_eq_some_iff.1 hb).1
 | ca f t ih =>
   intro cs d h
   obtain⟨ea,h1,h2⟩:=h
   exact⟨ea,h1,ih h2⟩
 | gs wh e ih =>
   intro cs d h
   obtain⟨⟨a,cap,h1,h2,h3,h4⟩,k⟩:=h
   refine⟨⟨a,cap,h1,h2,h3,fun i hi=>?_⟩,k⟩
   obtain⟨ad,e1,e2,e3,es,e4,e5,e6⟩:=h4 i hi
   refine⟨ad,e1,e2,?_,es,e4,e5,ih e6⟩
   have hp:=e.size_pos
   have:=e5 0 (by omega)
   unfold World.cell? at this
   cases hb:w.heap[ad.block]? with
   | none=>rw[hb] at this;cases this
   | some o=>exact (Array.getElem?_eq_some_iff.1 hb).1
def Vl.start(w:World):Vl:=⟨fun _=>0,fun _=>False,fun b=>b<w.heap.size,fun _=>False⟩
theorem ZW{w:World}{b:Nat}(h:b<w.heap.size):(Vl.start w).Z false b:=.inr ⟨rfl,h⟩
theorem Qc{w:World}{hp:Nat->az}{t:Ty}{v:Value}{d:t.den}(h:E2 gO w t v d):S.ok (Vl.start w) hp w (Rr t d) v:=by
 obtain⟨cs,h1,h2⟩:=h
 have hr:aI ((Vl.start w).Z false) w t cs d:=h2.below.mono (fun b hb=>ZW hb) (fun _ _=>rfl)
 have ho:=sG (V:=Vl.start w) (hp:=hp) false t hr
 unfold Rr jl
 unfold rK at h1
 cases iw:iQ t with
 | true =>
   rw[iw] at h1
   simp only[if_true] at h1 ⊢
   exact⟨cs.toArray,h1,by simpa using ho⟩
 | false =>
   rw[iw] at h1
   simp only[Bool.false_eq_true,if_false] at h1 ⊢
   subst h1
   have hl:=ho.1
   split
   ·rename_i c hc
    rw[hc] at ho
    exact ho.2 0 c v rfl rfl
   ·rename_i hc
    exfalso
    match hx:expand false t d with
    | []=>rw[hx] at hl;cases hl
    | [c]=>exact hc c hx
    | _::_::_=>rw[hx] at hl;simp at hl
theorem Lk{w:World}{hp:Nat->az}:∀ {ts:List Ty} {vs:List Value} {d:cj ts},mu gO w ts vs d->(rQ ts d).length=vs.length/\vs.length=ts.length ∧
 ∀(i:Nat) s v,(rQ ts d)[i]? = some s->vs[i]? = some v->S.ok (Vl.start w) hp w s v
 | [],vs,d,h=>by rw[show vs=[] from h];exact⟨rfl,rfl,fun i s v h=>by cases h⟩
 | [t],vs,d,h=>by
   obtain⟨v,rfl,h2⟩:=h
   refine⟨rfl,rfl,fun i s u hs hu=>?_⟩
   cases i with
   | zero =>
     simp only[rQ,List.getElem?_cons_zero,Option.some.injEq] at hs hu
     subst hs;subst hu
     exact Qc h2
   | succ i=>simp[rQ] at hs
 | t::u::r,vs,d,h=>by
   obtain⟨v,cI,rfl,h2,h3⟩:=h
   obtain⟨k1,k2,k3⟩:=Lk (hp:=hp) h3
   refine⟨by simp[rQ,k1],by simp[k2],fun i s x hs hx=>?_⟩
   cases i with
   | zero =>
     simp only[rQ,List.getElem?_cons_zero,Option.some.injEq] at hs hx
     subst hs;subst hx
     exact Qc h2
   | succ i=>exact k3 i s x (by simpa[rQ] using hs) (by simpa using hx)
theorem Hh{w:World}:∀ {ts:List Ty} {vs:List Value} {d:cj ts},mu gO w ts vs d->z5 ts d
 | [],_,_,_=>trivial
 | [t],vs,d,h=>by obtain⟨v,_,cs,_,h2⟩:=h;exact h2.wf
 | t::u::r,vs,d,h=>by
   obtain⟨v,cI,_,⟨cs,_,h2⟩,h3⟩:=h
   exact⟨h2.wf,Hh h3⟩
theorem U9(w:World):Mem w.heap.size wv w (Vl.start w) (fun _=>.dead) w :=
 ⟨fun _=>trivial,(fun n cs h=>by cases h),(fun n h=>by cases h),(fun n e xs h=>by cases h),(fun n m h=>by cases h),fun b h=>⟨h,trivial⟩,fun b (h:False)=>h.elim,⟨rfl,rfl,rfl,Nat.le_refl _,fun _ _ _=>rfl,fun _ _ _ _ h _=>h.elim⟩,fun n h=>h.elim,fun b (h:False)=>h.elim,fun n (h:False)=>h.elim⟩
theorem JE{w:World}{ts:List Ty}{vs:List Value}{d:cj ts}(h:mu gO w ts vs d)(n:Nat) :
 Sat w.heap.size wv w (St.start ts d n) { tmps:=vs.toArray++Array.replicate (n-vs.toArray.size) undef,defers:=[] } w:=by
 obtain⟨h1,h2,h3⟩:=Lk (hp:=fun _=>.dead) h
 have he:(St.start ts d n).an=fun _=>.dead:=by
  funext k
  show nth .dead ([]:List az) k=_
  rw[cT];rfl
 have hl:(St.start ts d n).ts=rQ ts d++List.replicate (n-vs.length) .fh:=by
  show dX _ (kW _ _)=_
  rw[cp,iG,dz,h2]
 refine⟨rfl,Vl.start w,⟨by rw[hl];simp[h1],fun i s v hs hv=>?_,by rw[he];exact U9 w⟩⟩
 rw[he]
 rw[hl] at hs
 have cr:(vs++List.replicate (n-vs.length) undef)[i]? = some v:=by
  rw[<-hv]
  simp only[Array.getElem?_append,List.getElem?_append,List.getElem?_toArray,List.size_toArray,Array.getElem?_replicate,List.getElem?_replicate]
 rcases Nat.lt_or_ge i vs.length with hi|hi
 ·rw[List.getElem?_append_left (by omega)] at hs
  rw[List.getElem?_append_left hi] at cr
  exact h3 i s v hs cr
 ·rw[List.getElem?_append_right (by omega),List.getElem?_replicate] at hs
  rw[List.getElem?_append_right hi,List.getElem?_replicate] at cr
  split at hs
  ·injection hs with hs;subst hs
   split at cr
   ·injection cr with cr;exact cr.symm
   ·cases cr
  ·cases hs
end
end Go.SX
/- What a function hands back. No condition. -/
namespace Go.SX
open Go.RowKit
set_option linter.unusedVariables false
set_option linter.unusedSimpArgs false
section
variable {P : Program} {T : cC} {Γ : FuncId → Option PC} {R : FuncId → Option cL} {V : Vl} {hp : Nat → az} {w : World}
open Classical in
noncomputable def gP(V:Vl):List Nat->List Nat
 | []=>[]
 | n::r=>if V.has n then V.aF n::gP V r else gP V r
theorem Ar(a b:List Nat):gP V (a++b)=gP V a++gP V b:=by
 induction a with
 | nil=>rfl
 | cons n a ih =>
   simp only[List.cons_append,gP]
   split<;>simp[ih]
theorem zx{ns:List Nat}{b:Nat}(h:b∈gP V ns):∃ n∈ns,V.has n/\V.aF n=b:=by
 induction ns with
 | nil=>cases h
 | cons n ns ih =>
   unfold gP at h
   split at h
   ·rename_i hh
    rcases List.mem_cons.1 h with rfl|h
    ·exact⟨n,List.mem_cons_self ..,hh,rfl⟩
    ·obtain⟨m,h1,h2⟩:=ih h
     exact⟨m,List.mem_cons_of_mem _ h1,h2⟩
   ·obtain⟨m,h1,h2⟩:=ih h
    exact⟨m,List.mem_cons_of_mem _ h1,h2⟩
def Lb(hp:Nat->az)(n:Nat):Prop:=∃ e xs,hp n = .row true e xs
theorem Q0{n h:Nat}{e:Ty}{xs:List e.den}{v:Value}(he:(az.row true e xs).ok V hp w n)(hr:du V w n e h v)(hh:h<=xs.length) :
 ∃ bs,jg (V.Z true) w (.sl e) [v] (xs.take h) bs/\bs.filterMap id=gP V [n]:=by
 have hlen:(xs.take h).length=h:=by rw[List.length_take];omega
 rcases hr with ⟨h1,rfl,rfl⟩|⟨h1,cap,ak,el,rfl,h3,h4,h5⟩
 ·exact⟨[none],.inl ⟨rfl,by simp,rfl⟩,by simp[gP,h1]⟩
 ·rcases he with ⟨k1,_⟩|⟨_,ba,dC,k2,k3,k4⟩
  ·exact absurd h1 k1
  ·rw[k2] at h3
   injection h3 with h3
   injection h3 with e1 e2 e3
   subst e1
   refine⟨[some (V.aF n)],.inr ⟨V.aF n,cap,ba,dC,by rw[hlen],rfl,k2,h4,by rw[hlen];exact h5,by rw[hlen];omega,fun i hi=>?_⟩,by simp[gP,h1]⟩
   rw[hlen] at hi
   obtain⟨es,k5,k6,k7⟩:=k4 i (by omega)
   exact⟨es,k5,k6,by rw[List.getElem_take];exact k7⟩
theorem QS{Z:Nat->Prop}{e' e:Ty}{cs:List Value}{xs:List e'.den}{ys:List e.den}{bs:List (Option Nat)}(h:jg Z w (.sl e') cs xs bs)(k:nE e' e xs=some ys):jg Z w (.sl e) cs ys bs:=by
 have hl:=qZ k
 rcases h with ⟨h1,h2,h3⟩|⟨b,cap,ak,el,h1,h2,h3,h4,h5,h6,h7⟩
 ·exact .inl ⟨h1,by rw[h2] at hl;exact List.length_eq_zero_iff.1 hl,h3⟩
 ·refine .inr ⟨b,cap,ak,el,by rw[hl];exact h1,h2,h3,by rw[<-(yJ k).1];exact h4,by rw[hl];exact h5,by rw[hl];exact h6,fun i hi=>?_⟩
  obtain⟨es,k5,k6,k7⟩:=h7 i (by rw[<-hl];exact hi)
  exact⟨es,by rw[<-(yJ k).1];exact k5,by rw[<-(yJ k).1];exact k6,TJ k hi k7⟩
theorem Xm(he:∀ n,(hp n).ok V hp w n){e:Ty}{c:C}{xs:List e.den}{ns:List Nat}{v:Value}(h:Sj hp e c=some (xs,ns))(ho:C.ok V hp w c v) :
 ∃ bs,jg (V.Z true) w (.sl e) [v] xs bs/\bs.filterMap id=gP V ns/\∀ n∈ns,Lb hp n:=by
 unfold Sj at h
 split at h
 ·rename_i n
  split at h
  ·rename_i e' br hn
   rw[fv] at h
   obtain⟨ys,hk,h⟩:=Option.map_eq_some_iff.1 h
   injection h with h1 h2;subst h1;subst h2
   obtain⟨fr,e2,ic,h3,h4⟩:=ho
   rw[hn] at h3
   injection h3 with e1 e2 e3
   subst e1;subst e2;cases e3
   have h2:=he n
   rw[hn] at h2
   obtain⟨bs,k1,k2⟩:=Q0 h2 h4 (Nat.le_refl _)
   rw[List.take_length] at k1
   exact⟨bs,QS k1 hk,k2,fun m hm=>by rw[List.mem_singleton.1 hm];exact⟨_,_,hn⟩⟩
  ·cases h
 ·rename_i n m
  split at h
  ·rename_i e' br hn
   rw[fv] at h
   obtain⟨ys,hk,h⟩:=Option.map_eq_some_iff.1 h
   injection h with h1 h2;subst h1;subst h2
   obtain⟨fr,e2,ic,h3,h5,h4⟩:=ho
   rw[hn] at h3
   injection h3 with e1 e2 e3
   subst e1;subst e2;cases e3
   have h2:=he n
   rw[hn] at h2
   obtain⟨bs,k1,k2⟩:=Q0 h2 h4 h5
   exact⟨bs,QS k1 hk,k2,fun m hm=>by rw[List.mem_singleton.1 hm];exact⟨_,_,hn⟩⟩
  ·cases h
 ·injection h with h;injection h with h1 h2;subst h1;subst h2
  exact⟨[none],.inl ⟨by rw[ho.1],rfl,rfl⟩,rfl,fun n hn=>by cases hn⟩
 ·cases h
theorem iy{c:C}{r:List C}{vs:List Value}(h:bO V hp w (c::r) vs):∃ v cI,vs=v::cI/\C.ok V hp w c v/\bO V hp w r cI:=by
 cases vs with
 | nil=>have:=h.1;cases this
 | cons v vs=>exact⟨v,vs,rfl,h.2 0 c v rfl rfl,by simpa using h.1,fun j c u hc hu=>h.2 (j+1) c u (by simpa using hc) (by simpa using hu)⟩
theorem yk(he:∀ n,(hp n).ok V hp w n):∀(t:Ty) {cs:List C} {d:t.den} {ns:List Nat} {rest:List C} {vs:List Value},vu hp t cs=some (d,ns,rest)->bO V hp w cs vs →
 ∃ v1 v2 bs,vs=v1++v2/\jg (V.Z true) w t v1 d bs/\bs.filterMap id=gP V ns/\(∀ n∈ns,Lb hp n)/\bO V hp w rest v2
 | .int k,cs,d,ns,rest,vs,h,ho=>by
   unfold vu at h
   split at h
   ·rename_i x r hh
    injection h with h;injection h with h1 h2;injection h2 with h2 h3;subst h1;subst h2;subst h3
    obtain⟨c,rfl,hc⟩:=bX hh
    obtain⟨v,cI,rfl,h1,h2⟩:=iy ho
    exact⟨[v],cI,[],rfl,⟨by rw[(vB hc h1).1];exact⟨rfl,(vB hc h1).2⟩,rfl⟩,rfl,(fun n hn=>by cases hn),h2⟩
   ·cases h
 | .bool,cs,d,ns,rest,vs,h,ho=>by
   unfold vu at h
   split at h
   ·rename_i x r hh
    injection h with h;injection h with h1 h2;injection h2 with h2 h3;subst h1;subst h2;subst h3
    obtain⟨c,rfl,hc⟩:=bX hh
    obtain⟨v,cI,rfl,h1,h2⟩:=iy ho
    exact⟨[v],cI,[],rfl,⟨by rw[wF hc h1];rfl,rfl⟩,rfl,(fun n hn=>by cases hn),h2⟩
   ·cases h
 | .str,cs,d,ns,rest,vs,h,ho=>by
   unfold vu at h
   split at h
   ·rename_i x r hh
    injection h with h;injection h with h1 h2;injection h2 with h2 h3;subst h1;subst h2;subst h3
    obtain⟨c,rfl,hc⟩:=bX hh
    obtain⟨v,cI,rfl,h1,h2⟩:=iy ho
    exact⟨[v],cI,[],rfl,⟨by rw[(k_ hc h1).1];exact⟨rfl,(k_ hc h1).2⟩,rfl⟩,rfl,(fun n hn=>by cases hn),h2⟩
   ·cases h
 | .sl e,cs,d,ns,rest,vs,h,ho=>by
   unfold vu at h
   split at h
   ·rename_i x YH r hh
    injection h with h;injection h with h1 h2;injection h2 with h2 h3;subst h1;subst h2;subst h3
    obtain⟨c,rfl,hc⟩:=bX hh
    obtain⟨v,cI,rfl,h1,h2⟩:=iy ho
    obtain⟨bs,k1,k2,k3⟩:=Xm he hc h1
    exact⟨[v],cI,bs,rfl,k1,k2,k3,h2⟩
   ·cases h
 | .st t,cs,d,ns,rest,vs,h,ho=>yk he t h ho
 | .ptr t,cs,d,ns,rest,vs,h,ho=>by cases h
 | .ca f t,cs,d,ns,rest,vs,h,ho=>by cases h
 | .pr a b,cs,d,ns,rest,vs,h,ho=>by
   unfold vu at h
   split at h
   ·rename_i x Gf r h1
    split at h
    ·rename_i y ms r' h2
     injection h with h;injection h with e1 e2;injection e2 with e2 e3;subst e1;subst e2;subst e3
     obtain⟨v1,v2,b1,rfl,k2,k3,k4,k5⟩:=yk he a h1 ho
     obtain⟨u1,u2,b2,rfl,j2,j3,j4,j5⟩:=yk he b h2 k5
     refine⟨v1++u1,u2,b1++b2,by rw[List.append_assoc],⟨v1,u1,b1,b2,rfl,rfl,k2,j2⟩,?_,fun n hn=>?_,j5⟩
     ·rw[List.filterMap_append,k3,j3,cp,Ar]
     ·rw[cp] at hn
      rcases List.mem_append.1 hn with hn|hn
      ·exact k4 n hn
      ·exact j4 n hn
    ·cases h
   ·cases h
theorem Gi{vs:List Value}(h:bO V hp w [] vs):vs=[]:=by
 have:=h.1
 cases vs with
 | nil=>rfl
 | cons _ _=>cases this
theorem QQ(he:∀ n,(hp n).ok V hp w n){t:Ty}{s:S}{d:t.den}{ns:List Nat}{v:Value}(h:Si hp t s=some (d,ns))(ho:S.ok V hp w s v) :
 ∃ bs,E1 (V.Z true) w t v d bs/\bs.filterMap id=gP V ns/\∀ n∈ns,Lb hp n:=by
 unfold Si at h
 split at h
 ·rename_i x
  split at h
  ·cases h
  ·rename_i iw
   split at h
   ·rename_i d' YH hh
    injection h with h;injection h with h1 h2;subst h1;subst h2
    obtain⟨v1,v2,bs,k1,k2,k3,k4,k5⟩:=yk he t (vs:=[v]) hh ⟨rfl,fun j c u hc hu=>by
     cases j with
     | zero=>simp only[List.getElem?_cons_zero,Option.some.injEq] at hc hu;subst hc;subst hu;exact ho
     | succ j=>simp at hc⟩
    rw[Gi k5,List.append_nil] at k1
    refine⟨bs,⟨v1,?_,k2⟩,k3,k4⟩
    unfold rK
    rw[if_neg iw,k1]
   ·cases h
 ·rename_i cs
  split at h
  ·rename_i iw
   split at h
   ·rename_i d' YH hh
    injection h with h;injection h with h1 h2;subst h1;subst h2
    obtain⟨vs,e1,e2⟩:=ho
    obtain⟨v1,v2,bs,k1,k2,k3,k4,k5⟩:=yk he t hh e2
    rw[Gi k5,List.append_nil] at k1
    refine⟨bs,⟨v1,?_,k2⟩,k3,k4⟩
    unfold rK
    rw[if_pos iw,e1,<-k1]
   ·cases h
  ·cases h
 ·cases h
theorem BT(he:∀ n,(hp n).ok V hp w n):∀ {ts:List Ty} {ss:List S} {d:cj ts} {ns:List Nat} {vs:List Value},BS hp ts ss=some (d,ns)->ss.length=vs.length →
 (∀(i:Nat) s v,ss[i]? = some s->vs[i]? = some v->S.ok V hp w s v)->∃ bs,fu (V.Z true) w ts vs d bs/\bs.filterMap id=gP V ns/\∀ n∈ns,Lb hp n
 | [],[],d,ns,vs,h,hl,ho=>by
   injection h with h;injection h with h1 h2;subst h2
   have:vs=[]:=by cases vs with|nil=>rfl|cons _ _=>cases hl
   exact⟨[],⟨this,rfl⟩,rfl,fun n hn=>by cases hn⟩
 | [],_::_,d,ns,vs,h,hl,ho=>by cases h
 | [t],[s],d,ns,vs,h,hl,ho=>by
   match vs,hl with
   | [v],_ =>
     obtain⟨bs,k1,k2,k3⟩:=QQ he h (ho 0 s v rfl rfl)
     exact⟨bs,⟨v,rfl,k1⟩,k2,k3⟩
 | [t],[],d,ns,vs,h,hl,ho=>by cases h
 | [t],_::_::_,d,ns,vs,h,hl,ho=>by cases h
 | t::u::r,[],d,ns,vs,h,hl,ho=>by cases h
 | t::u::r,s::ss,d,ns,vs,h,hl,ho=>by
   unfold BS at h
   split at h
   ·rename_i x Gf h1
    split at h
    ·rename_i y ms h2
     injection h with h;injection h with e1 e2;subst e1;subst e2
     match vs,hl with
     | v::cI,hl =>
       obtain⟨b1,k1,k2,k3⟩:=QQ he h1 (ho 0 s v rfl rfl)
       obtain⟨b2,j1,j2,j3⟩:=BT he h2 (vs:=cI) (by simpa using hl) (fun i s u hs hu=>ho (i+1) s u (by simpa using hs) (by simpa using hu))
       refine⟨b1++b2,⟨v,cI,b1,b2,rfl,rfl,k1,j1⟩,?_,fun n hn=>?_⟩
       ·rw[List.filterMap_append,k2,j2,cp,Ar]
       ·rw[cp] at hn
        rcases List.mem_append.1 hn with hn|hn
        ·exact k3 n hn
        ·exact j3 n hn
    ·cases h
   ·cases h
theorem wx:∀ {ns:List Nat},vt ns=true->ns.Nodup
 | [],_=>List.nodup_nil
 | n::r,h=>by
   simp only[vt,Bool.and_eq_true,yd,Bool.not_eq_true',List.any_eq_false] at h
   refine List.nodup_cons.2 ⟨fun hn=>?_,wx h.2⟩
   have:=h.1 n hn
   simp at this
theorem zC{base:Nat}{M:LM}{w0:World}(m:Mem base M w0 V hp w):∀ {ns:List Nat},ns.Nodup->(∀ n∈ns,Lb hp n)->(gP V ns).Nodup
 | [],_,_=>List.nodup_nil
 | n::r,h,hr=>by
   obtain⟨h1,h2⟩:=List.nodup_cons.1 h
   have ih:=zC m h2 (fun k hk=>hr k (List.mem_cons_of_mem _ hk))
   unfold gP
   split
   ·rename_i hh
    refine List.nodup_cons.2 ⟨fun hm=>?_,ih⟩
    obtain⟨k,k1,k2,k3⟩:=zx hm
    obtain⟨_,_,e1⟩:=hr n (List.mem_cons_self ..)
    obtain⟨_,_,e2⟩:=hr k (List.mem_cons_of_mem _ k1)
    have:=m.gi k n (by rw[e2];rfl) (by rw[e1];rfl) k2 hh k3
    subst this
    exact h1 k1
   ·exact ih
theorem la{base:Nat}{M:LM}{w0:World}(hT:cv P T){st:St}{a:Act}(r:Rel base M w0 V st a.tmps w):∀ {l:List ResultVar} {ss:List S},sL T st l=some ss →
 ∃ vs:List Value,ss.length=vs.length/\(∀(i:Nat) s v,ss[i]? = some s->vs[i]? = some v->S.ok V st.an w s v) ∧
  ∀ f:ResultVar->Sem Value,(∀ t,f (.tmp t)=pure (a.tmps.getD t undef))->(∀ b t,f (.cell b t)=do loadVar t (<-asAddr (a.tmps.getD b undef)))->(l.mapM f).run P w = .ok vs w
 | [],ss,h=>by injection h with h;subst h;exact⟨[],rfl,(fun i s v h=>by cases h),fun f _ _=>by simp⟩
 | x::xs,ss,h=>by
   unfold sL at h
   split at h
   ·rename_i s ss' h1 h2
    injection h with h;subst h
    obtain⟨vs,k1,k2,k3⟩:=la hT r h2
    have one:∃ v,S.ok V st.an w s v/\∀ f:ResultVar->Sem Value,(∀ t,f (.tmp t)=pure (a.tmps.getD t undef))->(∀ b t,f (.cell b t)=do loadVar t (<-asAddr (a.tmps.getD b undef)))->(f x).run P w = .ok v w:=by
     cases x with
     | tmp t =>
       injection h1 with h1;subst h1
       exact⟨_,r.eval (.tmp t),fun f hf _=>by rw[hf,Sem.run_pure];rfl⟩
     | cell b t =>
       simp only[ach] at h1
       split at h1
       ·rename_i m o hb
        have hv:=r.eval (.tmp b)
        rw[hb] at hv
        rw[fv] at h1
        cases hq:GG T st.an t (.box m o) with
        | none=>rw[hq] at h1;cases h1
        | some q =>
          rw[hq] at h1
          injection h1 with h1;subst h1
          obtain⟨_,_,v,e1,e2⟩:=JD (v:=a.tmps.getD b undef) hT (kN.cE r) hq hv
          refine⟨v,e2,fun f _ hf=>?_⟩
          have hp:a.tmps.getD b undef = .pointer (some ⟨V.aF m,o,none⟩):=hv.1
          rw[hf]
          rw[hp] at e1 ⊢
          rw[<-e1]
          unfold Instr.loadAt Instr.sureAddr asAddr
          simp
       ·cases h1
    obtain⟨v,j1,j2⟩:=one
    refine⟨v::vs,by simp[k1],fun i s' u hs hu=>?_,fun f hf hc=>?_⟩
    ·cases i with
     | zero=>simp only[List.getElem?_cons_zero,Option.some.injEq] at hs hu;subst hs;subst hu;exact j1
     | succ i=>exact k2 i s' u (by simpa using hs) (by simpa using hu)
    ·rw[List.mapM_cons,Sem.run_bind,j2 f hf hc,Result.andThen_ok,Sem.run_bind,k3 f hf hc,Result.andThen_ok,Sem.run_pure]
   ·cases h
theorem lM{fn:Func}{tmps:Array Value}{w:World}{vs:List Value}(h:∀ f:ResultVar->Sem Value,(∀ t,f (.tmp t)=pure (tmps.getD t undef))->(∀ b t,f (.cell b t)=do loadVar t (<-asAddr (tmps.getD b undef)))->(fn.results.toList.mapM f).run P w = .ok vs w) :
 (results fn tmps).run P w = .ok (qf vs) w:=by
 have hr:fn.results=fn.results.toList.toArray:=by simp
 unfold results
 rw[hr,List.mapM_toArray]
 simp only[Sem.run_bind,map_eq_pure_bind]
 rw[h _ (fun t=>rfl) (fun b t=>rfl)]
 simp only[Result.andThen_ok,Sem.run_pure]
 congr 1
 match vs with
 | []=>rfl
 | [t]=>rfl
 | t::u::r=>simp[qf]
theorem P6(hm:P.follows .mixedOrders=true)(hT:cv P T)(hΓ:eI P Γ)(hR:cV P R){f:FuncId}{fn:Func}(hf:P.funcs[f]? = some fn){c:PC}{A:cj c.ts->Nat->Option bg}
 (h:aw T Γ R fn c A):n8 P f c:=by
 intro w args d hargs eS
 unfold aw at h
 split at h
 ·rename_i code hb
  have hv:=h d (Hh hargs) eS
  refine calls_of_wp hf hb (C_ hm hT hΓ hR code (A d) _ _ _ _ w (JE hargs fn.ntmps) hv (fun e A' aV a' w' hk bb=>?_))
  obtain⟨hd,V,r⟩:=bb
  have key:e ≠ .normal\/e = .normal->OM T fn c.rs (c.F d) e aV->(∃ i,e = .exit i)\/∃ v,(results fn a'.tmps).run P w' = .ok v w'/\vK w w' c.rs v (c.F d):=by
   intro _ hp
   unfold OM at hp
   split at hp
   ·exact hp.elim
   ·right
    split at hp
    ·rename_i ss nP
     split at hp
     ·rename_i x ns ho
      split at hp
      ·rename_i cR
       obtain⟨vs,e1,e2,e3⟩:=la hT r nP
       refine⟨_,lM e3,?_⟩
       obtain⟨bs,k1,k2,k3⟩:=BT (vs:=vs) r.mem.cE ho e1 e2
       rw[<-hp]
       refine⟨⟨V.Z true,bs,_,rfl,k1,by rw[k2];exact zC r.mem (wx cR) k3,fun b hb=>?_,fun b hb=>?_⟩,r.mem.kept⟩
       ·have fO:b∈bs.filterMap id:=List.mem_filterMap.2 ⟨some b,hb,rfl⟩
        rw[k2] at fO
        obtain⟨n,h1,h2,rfl⟩:=zx fO
        obtain⟨e,xs,h3⟩:=k3 n h1
        obtain⟨_,h4,h5⟩:=r.mem.own n (by rw[h3];rfl) h2
        exact⟨r.mem.fY n e xs h3 h2,h4,fun hz=>h5 (Vl.db hz)⟩
       ·rcases hb with hb|⟨hb,_⟩
        ·exact r.mem.z1 b hb
        ·cases hb
      ·exact hp.elim
     ·exact hp.elim
    ·exact hp.elim
  have iM:=key (Classical.em _ |>.symm) hk
  cases e with
  | normal =>
    rcases iM with ⟨i,h⟩|⟨v,h1,h2⟩
    ·cases h
    ·exact⟨hd,v,h1,v,rfl,h2⟩
  | exit i=>exact hk.elim
  | ret =>
    rcases iM with ⟨i,h⟩|⟨v,h1,h2⟩
    ·cases h
    ·exact⟨hd,v,h1,v,rfl,h2⟩
 ·exact h.elim
end
end Go.SX
/- From a statement's arguments to data; from a contract to a statement. No condition. -/
namespace Go.SX
open Go.RowKit Go.WideShapes Go.ChangeShapes
set_option linter.unusedVariables false
set_option linter.unusedSimpArgs false
def LN(P:Program)(chk:Ty->TypeId->Bool):Ty->List Field->Nat->Bool
 | .pr a b,f::g::r,o=>f.offset == o&&P.cellsOf f.type == a.size&&chk a f.type&&LN P chk b (g::r) (o+a.size)
 | t,[f],o=>f.offset == o&&P.cellsOf f.type == t.size&&chk t f.type
 | _,_,_=>false
def D3(P:Program):Nat->Ty->TypeId->Bool
 | 0,_,_=>false
 | n+1,ty,t =>
   match ty,P.underlying t with
   | .int k,some (.int k')=>decide (k'=k)
   | .bool,some .bool=>true
   | .str,some .string=>true
   | .sl e,some (.slice te)=>P.cellsOf te == e.size&&D3 P n e te
   | .st D2,some (.struct fs)=>P.cellsOf t == D2.size&&LN P (D3 P n) D2 fs.toList 0
   | _,_=>false
section
variable {H : Type} {enc : TypeId × Value → H} {P : Program} {w : World} {base : Nat} {spare : Nat → Bool} {held : Bool}
theorem U0{k:IntKind}{n:Int}(h:(Lit.int k n).wf=true):k.min<=n/\n<=k.max:=by
 simpa[Lit.wf] using h
theorem Dx{a:Addr}{n:Nat}{cs:List Value}(h:w.cells? base a n=some cs):cs.length=n/\∀ j,j<n->w.cell? (a.add j)=cs[j]? := by
 unfold World.cells? at h
 split at h
 ·exact⟨by simpa using mapM_some_length h,fun j hj=>mapM_some_get h j j (by simp[hj])⟩
 ·cases h
theorem Lj(b off n:Nat):(Addr.mk b off none).add n=⟨b,off+n,none⟩:=by
 unfold Addr.add
 split
 ·rename_i h;subst h;rfl
 ·rfl
theorem ZZ:∀(m:Nat) (ty:Ty) (t:TypeId) (fuel:Nat) (cs:List Value) (x:DataW H×List MemPlace),D3 P m ty t=true->DataW.trod enc P w base spare held fuel t cs=some x->∃ d,aI gO w ty cs d:=by
 intro m
 induction m with
 | zero=>intro ty t fuel cs x h;cases h
 | succ m ih =>
   intro ty t fuel cs x h hx
   unfold D3 at h
   split at h
   ·rename_i k k' hu
    have:=of_decide_eq_true h
    subst this
    obtain⟨n,rfl,_,hw⟩:=DataW.trod_int hu hx
    exact⟨n,rfl,U0 hw⟩
   ·rename_i hu
    obtain⟨b,rfl,_⟩:=DataW.trod_bool hu hx
    exact⟨b,rfl⟩
   ·rename_i hu
    obtain⟨s,rfl,_,hs⟩:=DataW.trod_string hu hx
    exact⟨s,rfl,hs⟩
   ·rename_i e te hu
    simp only[Bool.and_eq_true,beq_iff_eq] at h
    obtain⟨hc,he⟩:=h
    rcases DataW.trod_slice hu hx with ⟨rfl,_⟩|⟨a,len,cap,elems,rest,n,_,rfl,_,_,h2,h3,h4,h5,_,_⟩
    ·exact⟨[],none,0,rfl,Nat.le_refl _,Nat.zero_le _,fun i hi=>by simp at hi⟩
    ·have each:∀ i,i<len->∃ es d,w.cells? base (a.add (i*P.cellsOf te)) (P.cellsOf te)=some es/\aI gO w e es d:=by
      intro i hi
      have:=h5 i hi
      rw[List.getElem?_eq_getElem (by omega)] at this
      obtain⟨es,k1,k2⟩:=Option.bind_eq_some_iff.1 this
      obtain⟨d,hd⟩:=ih e te n es _ he k2
      exact⟨es,d,k1,hd⟩
     have list:∀ l,l<=len->∃ xs:List e.den,xs.length=l/\∀ i (hi:i<xs.length),∃ es,w.cells? base (a.add (i*P.cellsOf te)) (P.cellsOf te)=some es/\aI gO w e es xs[i]:=by
      intro l
      induction l with
      | zero=>intro _;exact⟨[],rfl,fun i hi=>by simp at hi⟩
      | succ l ihl =>
        intro hl
        obtain⟨xs,k1,k2⟩:=ihl (by omega)
        obtain⟨es,d,k3,k4⟩:=each l (by omega)
        refine⟨xs++[d],by simp[k1],fun i hi=>?_⟩
        rcases Nat.lt_or_ge i xs.length with cF|cF
        ·rw[List.getElem_append_left cF];exact k2 i cF
        ·have:i=l:=by simp at hi;omega
         subst this
         rw[List.getElem_append_right cF]
         simp only[k1,Nat.sub_self,List.getElem_cons_zero]
         exact⟨es,k3,k4⟩
     obtain⟨xs,k1,k2⟩:=list len (Nat.le_refl _)
     refine⟨xs,some a,cap,by rw[k1],by omega,by unfold cY;unfold maxLen at h3;omega,fun i hi=>?_⟩
     obtain⟨es,k3,k4⟩:=k2 i hi
     obtain⟨k5,k6⟩:=Dx k3
     have hp:=e.size_pos
     have x7:a.spot=none:=by
      obtain⟨es0,k30,_⟩:=k2 0 (by omega)
      obtain⟨k50,k60⟩:=Dx k30
      have h0:=k60 0 (by omega)
      rw[List.getElem?_eq_getElem (by omega)] at h0
      simpa[Addr.add] using World.cell?_spot h0
     refine⟨a,rfl,x7,trivial,es,by omega,fun j hj=>?_,k4⟩
     have:=k6 j (by omega)
     rw[List.getElem?_eq_getElem hj] at this
     obtain⟨b,off,spot⟩:=a
     simp only at x7
     subst x7
     rw[<-this]
     rw[Lj,Lj,hc]
   ·rename_i D2 fs hu
    simp only[Bool.and_eq_true,beq_iff_eq] at h
    obtain⟨hc,hf⟩:=h
    obtain⟨xs,n,_,_,hl,vg,aez⟩:=DataW.trod_struct hu hx
    rw[hc] at hl
    have key:∀(fl:List Field) (ty:Ty) (o:Nat),LN P (D3 P m) ty fl o=true->o+ty.size<=cs.length →
     (∀ f∈fl,∃ y,DataW.trod enc P w base spare held n f.type ((cs.drop f.offset).take (P.cellsOf f.type))=some y)->∃ d,aI gO w ty ((cs.drop o).take ty.size) d:=by
     intro fl
     induction fl with
     | nil=>intro ty o h;unfold LN at h;split at h<;>first|cases h|(rename_i h0;cases h0)|(rename_i h0 _;cases h0)
     | cons f fl ihf =>
       intro ty o h ho hy
       have one:∀ {ty:Ty},(f.offset == o&&P.cellsOf f.type == ty.size&&D3 P m ty f.type)=true->∃ d,aI gO w ty ((cs.drop o).take ty.size) d:=by
        intro ty h
        simp only[Bool.and_eq_true,beq_iff_eq] at h
        obtain⟨⟨h1,h2⟩,h3⟩:=h
        obtain⟨y,hy⟩:=hy f (List.mem_cons_self ..)
        rw[h1,h2] at hy
        exact ih ty f.type n _ y h3 hy
       cases fl with
       | nil=>exact one (by cases ty<;>exact h)
       | cons g r =>
         cases ty with
         | pr a b =>
           have h':(f.offset == o&&P.cellsOf f.type == a.size&&D3 P m a f.type&&LN P (D3 P m) b (g::r) (o+a.size))=true:=h
           rw[Bool.and_eq_true] at h'
           obtain⟨h1,h2⟩:=h'
           have cD:(Ty.pr a b).size=a.size+b.size:=rfl
           obtain⟨d1,k1⟩:=one h1
           obtain⟨d2,k2⟩:=ihf b (o+a.size) h2 (by rw[cD] at ho;omega) (fun f' Ui=>hy f' (List.mem_cons_of_mem _ Ui))
           refine⟨(d1,d2),_,_,?_,k1,k2⟩
           rw[cD,<-List.drop_drop,List.take_add]
         | _=>cases h
    obtain⟨d,hd⟩:=key fs.toList D2 0 hf (by omega) (fun f hf=>by
     obtain⟨i,hi,rfl⟩:=List.getElem_of_mem hf
     have cF:i<fs.size:=by simpa using hi
     have:=aez i (fs[i]) (Array.getElem?_eq_getElem cF)
     rw[List.getElem?_eq_getElem (by omega)] at this
     exact⟨_,by simpa using this⟩)
    rw[List.drop_zero,<-hl,List.take_length] at hd
    exact⟨d,hd⟩
   ·cases h
theorem VG{m:Nat}{ty:Ty}{t:TypeId}{v:Value}{d:DataW H}{ps:List MemPlace}{r:Reach}{b0:Nat}(h:D3 P m ty t=true)(hv:Value.okWide P w r b0 t v)(hd:DataW.Trod enc P w base spare held t v d ps) :
 ∃ x,E2 gO w ty v x:=by
 obtain⟨fuel,hf⟩:=hd
 obtain⟨x,hx⟩:=ZZ m ty t fuel _ _ h hf
 refine⟨x,v.cells.toList,?_,hx⟩
 unfold rK
 cases m with
 | zero=>cases h
 | succ m =>
   unfold D3 at h
   split at h
   ·rename_i k k' hu
    obtain⟨n,rfl⟩:=okWide_int hu hv
    rfl
   ·rename_i hu
    obtain⟨n,rfl⟩:=okWide_bool hu hv
    rfl
   ·rename_i hu
    obtain⟨n,rfl⟩:=okWide_string hu hv
    rfl
   ·rename_i e te hu
    obtain⟨a,len,cap,rfl⟩:=okWide_slice hu hv
    rfl
   ·rename_i D2 fs hu
    obtain⟨cs,rfl,_⟩:=okWide_struct hu hv
    rfl
   ·cases h
theorem JY{W W':World}(h:Kept W.heap.size wv W W'):Below W.heap.size W W' :=
 ⟨h.os,h.tape,h.output,h.size,fun k hk=>h.block k hk (fun h=>h)⟩
def HB(ts:List Ty):PC:={ ts:=ts,rs:=[.bool],pre:=fun _=>True,F:=fun _=>true }
theorem UO{f:FuncId}{ts:List Ty}(h:n8 P f (HB ts)){W:World}{args:List Value}{d:cj ts}(ha:mu gO W ts args d) :
 Calls P f args.toArray W fun e W'=>e = .returned (.bool true)/\Below W.heap.size W W' :=
 (h W args d ha trivial).mono fun e W' hr=>by
   obtain⟨v,rfl,⟨⟨Z1,bs,vs,rfl,hv,_⟩,hk⟩⟩:=hr
   obtain⟨u,rfl,cs,h1,h2,h3⟩:=hv
   have pW:cs=[u]:=h1
   have v7:cs=[.bool true]:=h2
   rw[pW] at v7
   injection v7 with v7 _
   exact⟨by rw[v7];rfl,JY hk⟩
end
end Go.SX
/- Functions that write into the rows that their first argument holds. No condition. -/
namespace Go.SX
open Go.RowKit
set_option linter.unusedVariables false
set_option linter.unusedSimpArgs false
structure MC where
 t:Ty
 pre:t.den->Int->Prop
 F:t.den->Int->Int
 G:t.den->Int->t.den
def az.yj:az->az
 | .row _ e xs=>.row false e xs
 | e=>e
def Ty.ko(p:Ty->Bool):Ty->Bool
 | .sl e=>p e
 | .st t=>t.ko p
 | .pr a b=>a.ko p&&b.ko p
 | .ptr _=>false
 | .ca _ _=>false
 | .gs _ _=>false
 | _=>true
def Ty.MK(t:Ty):Bool:=t.ko Ty.flat
def MJ(lk:Nat->az)(e:Ty):C->Option (List e.den×Option Nat)
 | .own n =>
   match lk n with
   | .row _ e' xs=>if h:e'=e then some (cA h xs,some n) else none
   | _=>none
 | .val (.slice none 0 0)=>some ([],none)
 | _=>none
def og(lk:Nat->az):(t:Ty)->List C->Option (t.den×List (Option Nat)×List C)
 | .int k,cs=>match iW (GH k) cs with|some (x,r)=>some (x,[],r)|none=>none
 | .bool,cs=>match iW rdBool cs with|some (x,r)=>some (x,[],r)|none=>none
 | .str,cs=>match iW rdStr cs with|some (x,r)=>some (x,[],r)|none=>none
 | .sl e,cs=>match iW (MJ lk e) cs with|some ((x,n),r)=>some (x,[n],r)|none=>none
 | .st t,cs=>og lk t cs
 | .pr a b,cs =>
   match og lk a cs with
   | some (x,ns,r) =>
     match og lk b r with
     | some (y,ms,r')=>some ((x,y),dX ns ms,r')
     | none=>none
   | none=>none
 | .ptr _,_=>none
 | .ca _ _,_=>none
 | .gs _ _,_=>none
def CV(lk:Nat->az)(t:Ty)(s:S):Option (t.den×List (Option Nat)) :=
 match s with
 | .c x=>if iQ t then none else match og lk t [x] with|some (d,ns,[])=>some (d,ns)|_=>none
 | .agg cs=>if iQ t then match og lk t cs with|some (d,ns,[])=>some (d,ns)|_=>none else none
 | _=>none
def hH:List (Option Nat)->List Nat
 | []=>[]
 | some n::r=>n::hH r
 | none::r=>hH r
def St.xA(st:St)(n:Nat)(e:az):St :=
 match st.an n,e with
 | .row fr _ _,.row _ ty ys=>{ (st.map (cN n)) with hp:=bP (st.map (cN n)).hp n (.row fr ty ys) }
 | _,_=>st
def St.ld(st:St):List (Option Nat)->List az->St
 | some n::ns,e::es=>(st.xA n e).ld ns es
 | none::ns,_::es=>st.ld ns es
 | _,_=>st
def ib(mc:MC):cL:=fun ss st K =>
 match ss with
 | [s,.c (.val (.int .i64 k))] =>
   match CV st.an mc.t s with
   | some (d,ns)=>if vt (hH ns) then mc.pre d k/\K (.c (.val (.int .i64 (mc.F d k)))) (st.ld ns (fresh mc.t (mc.G d k) 0).2) else False
   | none=>False
 | _=>False
def C2:List az->List az->Option Prop
 | .row _ e xs::r,.row _ e' ys::r'=>if e'=e then fj (some (ys.length=xs.length)) (C2 r r') else some False
 | [],[]=>none
 | _,_=>some False
def kC(lk:Nat->az):Nat->List az->Option Prop
 | _,[]=>none
 | k,.row _ e ys::r=>fj (match lk k with | .row false e' xs=>(if h:e'=e then some (cA h xs=ys) else some False)|_=>some False) (kC lk (k+1) r)
 | _,_::_=>some False
def fB(t:Ty)(d:t.den)(k:Int)(ntmps:Nat):St :=
 { ts:=jl (iQ t,(fresh t d 0).1) :: .c (.val (.int .i64 k))::kW .fh (ntmps-2),hp:=lmap az.yj (fresh t d 0).2 }
def uD(T:cC)(fn:Func)(t:Ty)(out:Int)(after:t.den)(e:Ex)(st:St):Prop :=
 match e with
 | .exit _=>False
 | _ =>
   match sL T st fn.results.toList with
   | some [.c (.val (.int .i64 r))]=>r=out/\cU (kC st.an 0 (fresh t after 0).2)
   | _=>False
def z9(T:cC)(Γ:FuncId->Option PC)(R:FuncId->Option cL)(fn:Func)(mc:MC)(A:mc.t.den->Int->Nat->Option bg):Prop :=
 match fn.body with
 | some code=>∀ d k,mc.t.wf d->i64.min<=k/\k<=i64.max->mc.pre d k →
    cU (C2 (fresh mc.t d 0).2 (fresh mc.t (mc.G d k) 0).2)/\vc T Γ R code (A d k) (fB mc.t d k fn.ntmps) fun e _ st=>uD T fn mc.t (mc.F d k) (mc.G d k) e st
 | none=>False
section
variable {P : Program} {T : cC} {Γ : FuncId → Option PC} {R : FuncId → Option cL} {base : Nat} {M : LM} {w0 : World} {V : Vl} {hp : Nat → az} {w w' : World}
theorem wk{fr:Bool}{e:Ty}{xs:List e.den}(h:e.flat=true):(az.row fr e xs).gE=[]:=by
 cases fr with
 | true=>rfl
 | false=>show (if e.bQ then aX e xs else [])=[];rw[oF h];rfl
theorem zd:∀(t:Ty) (d:t.den) (nx:Nat),(fresh t d nx).2=(fresh t d 0).2:=by
 intro t
 induction t with
 | int k=>intro d nx;rfl
 | bool=>intro d nx;rfl
 | str=>intro d nx;rfl
 | sl e ih=>intro d nx;rfl
 | st t ih=>intro d nx;exact ih d nx
 | pr a b fX fR =>
   intro d nx
   show dX (fresh a d.1 nx).2 (fresh b d.2 (nx+bL (fresh a d.1 nx).2)).2=dX (fresh a d.1 0).2 (fresh b d.2 (0+bL (fresh a d.1 0).2)).2
   rw[fX d.1 nx,fR d.2 (nx+_),fR d.2 (0+_)]
 | ptr t ih=>intro d nx;rfl
 | ca f t ih=>intro d nx;rfl
 | gs wh e ih=>intro d nx;rfl
structure aad (p:Ty->Bool) (V:Vl) (hp:Nat->az) (ns:List (Option Nat)) (es:List az):Prop where
 len:ns.length=es.length
 row:∀(j n:Nat),ns[j]? = some (some n)->∃ fr e xs,hp n = .row fr e xs/\p e=true/\es[j]? = some (.row true e xs)
 nil:∀(j:Nat),ns[j]? = some none->∃ e,p e=true/\es[j]? = some (.row true e [])
structure Wn (V:Vl) (ns:List (Option Nat)) (es:List az) (nx:Nat) (V':Vl) (aJ:Nat->az):Prop where
 an:∀(j:Nat) e xs,es[j]? = some (.row true e xs)->aJ (nx+j) = .row false e xs
 row:∀(j n:Nat),ns[j]? = some (some n)->(V'.has (nx+j)↔V.has n)/\V'.aF (nx+j)=V.aF n
 nil:∀(j:Nat),ns[j]? = some none->¬V'.has (nx+j)
theorem nT:∀ {ns:List (Option Nat)} {j m:Nat},ns[j]? = some (some m)->m∈hH ns
 | [],j,m,h=>by cases h
 | x::ns,j,m,h=>by
   cases j with
   | zero=>simp only[List.getElem?_cons_zero,Option.some.injEq] at h;subst h;exact List.mem_cons_self ..
   | succ j =>
     have:=nT (ns:=ns) (j:=j) (m:=m) (by simpa using h)
     cases x with
     | none=>exact this
     | some y=>exact List.mem_cons_of_mem _ this
theorem DL:∀ {ns:List (Option Nat)},(hH ns).Nodup->∀ {j j' m:Nat},ns[j]? = some (some m)->ns[j']? = some (some m)->j=j'
 | [],_,j,j',m,h,_=>by cases h
 | x::ns,cR,j,j',m,h,h'=>by
   have hr:(hH ns).Nodup:=by
    cases x with
    | none=>exact cR
    | some y=>exact (List.nodup_cons.1 (show (y::hH ns).Nodup from cR)).2
   have hx:x=some m->m ∉ hH ns:=by
    intro e;subst e
    exact (List.nodup_cons.1 (show (m::hH ns).Nodup from cR)).1
   cases j with
   | zero =>
     cases j' with
     | zero=>rfl
     | succ j' =>
       simp only[List.getElem?_cons_zero,Option.some.injEq] at h
       exact absurd (nT (ns:=ns) (j:=j') (by simpa using h')) (hx h)
   | succ j =>
     cases j' with
     | zero =>
       simp only[List.getElem?_cons_zero,Option.some.injEq] at h'
       exact absurd (nT (ns:=ns) (j:=j) (by simpa using h)) (hx h')
     | succ j'=>rw[DL hr (j:=j) (j':=j') (m:=m) (by simpa using h) (by simpa using h')]
theorem MI{p:Ty->Bool}(he:∀ n,(hp n).ok V hp w n):∀(t:Ty) {cs:List C} {d:t.den} {ns:List (Option Nat)} {rest:List C} {vs:List Value},t.ko p=true->og hp t cs=some (d,ns,rest)->bO V hp w cs vs →
 ∃ Rf Rg,vs=Rf++Rg/\bO V hp w rest Rg/\t.wf d/\aad p V hp ns (fresh t d 0).2 ∧
  ∀ nx V' aJ,Wn V ns (fresh t d 0).2 nx V' aJ->bO V' aJ w (fresh t d nx).1 Rf:=by
 intro t
 induction t with
 | int k =>
   intro cs d ns rest vs _ h ho
   simp only[og] at h
   split at h
   ·rename_i x r hh
    injection h with h;injection h with h1 h2;injection h2 with h2 h3;subst h1;subst h2;subst h3
    obtain⟨c,rfl,hc⟩:=bX hh
    obtain⟨v,cI,rfl,h1,h2⟩:=iy ho
    obtain⟨rfl,h3⟩:=vB hc h1
    exact⟨[_],cI,rfl,h2,h3,⟨rfl,(fun j n h=>by cases h),(fun j h=>by cases h)⟩,fun nx V' aJ _=>bu ⟨rfl,h3⟩ cu⟩
   ·cases h
 | bool =>
   intro cs d ns rest vs _ h ho
   simp only[og] at h
   split at h
   ·rename_i x r hh
    injection h with h;injection h with h1 h2;injection h2 with h2 h3;subst h1;subst h2;subst h3
    obtain⟨c,rfl,hc⟩:=bX hh
    obtain⟨v,cI,rfl,h1,h2⟩:=iy ho
    have h3:=wF hc h1
    subst h3
    exact⟨[_],cI,rfl,h2,trivial,⟨rfl,(fun j n h=>by cases h),(fun j h=>by cases h)⟩,fun nx V' aJ _=>bu ⟨rfl,trivial⟩ cu⟩
   ·cases h
 | str =>
   intro cs d ns rest vs _ h ho
   simp only[og] at h
   split at h
   ·rename_i x r hh
    injection h with h;injection h with h1 h2;injection h2 with h2 h3;subst h1;subst h2;subst h3
    obtain⟨c,rfl,hc⟩:=bX hh
    obtain⟨v,cI,rfl,h1,h2⟩:=iy ho
    obtain⟨rfl,h3⟩:=k_ hc h1
    exact⟨[_],cI,rfl,h2,h3,⟨rfl,(fun j n h=>by cases h),(fun j h=>by cases h)⟩,fun nx V' aJ _=>bu ⟨rfl,h3⟩ cu⟩
   ·cases h
 | sl e ih =>
   intro cs d ns rest vs eD h ho
   have eD:p e=true:=eD
   simp only[og] at h
   split at h
   ·rename_i x n r hh
    injection h with h;injection h with h1 h2;injection h2 with h2 h3;subst h1;subst h2;subst h3
    obtain⟨c,rfl,hc⟩:=bX hh
    obtain⟨v,cI,rfl,h1,h2⟩:=iy ho
    refine⟨[v],cI,rfl,h2,?_⟩
    unfold MJ at hc
    split at hc
    ·rename_i m
     split at hc
     ·rename_i e' xs hm
      split at hc
      ·rename_i hk;subst hk
       injection hc with hc;injection hc with q1 q2;subst q1;subst q2
       obtain⟨nN,e2,ic,q3,q4⟩:=h1
       rw[hm] at q3
       injection q3 with q5 q6 q7
       subst q5;subst q6;cases q7
       refine⟨?_,⟨rfl,fun j n hj=>?_,fun j hj=>?_⟩,fun nx V' aJ hl=>?_⟩
       ·have h0:=he m
        rw[hm] at h0
        rcases h0 with ⟨_,rfl⟩|⟨_,ak,el,_,k1,k2⟩
        ·exact⟨Nat.zero_le _,fun x hx=>by cases hx⟩
        ·refine⟨k1,fun x hx=>?_⟩
         obtain⟨i,hi,rfl⟩:=List.getElem_of_mem hx
         obtain⟨es,_,_,k3⟩:=k2 i hi
         exact k3.wf
       ·cases j with
        | zero=>simp only[List.getElem?_cons_zero,Option.some.injEq] at hj;subst hj;exact⟨_,_,_,hm,eD,rfl⟩
        | succ j=>simp at hj
       ·cases j with
        | zero=>simp only[List.getElem?_cons_zero,Option.some.injEq] at hj;cases hj
        | succ j=>simp at hj
       ·obtain⟨a1,a2⟩:=hl.row 0 m rfl
        have a3:=hl.an 0 e' xs rfl
        rw[Nat.add_zero] at a1 a2 a3
        refine bu ⟨_,_,_,a3,?_⟩ cu
        rcases q4 with ⟨b1,b2,b3⟩|⟨b1,cap,ak,el,b2,b3,b4,b5⟩
        ·exact .inl ⟨fun h=>b1 (a1.1 h),b2,b3⟩
        ·exact .inr ⟨a1.2 b1,cap,ak,el,by rw[a2];exact b2,by rw[a2];exact b3,b4,b5⟩
      ·cases hc
     ·cases hc
    ·injection hc with hc;injection hc with q1 q2;subst q1;subst q2
     refine⟨⟨Nat.zero_le _,fun x hx=>by cases hx⟩,⟨rfl,fun j n hj=>?_,fun j hj=>?_⟩,fun nx V' aJ hl=>?_⟩
     ·cases j with
      | zero=>simp only[List.getElem?_cons_zero,Option.some.injEq] at hj;cases hj
      | succ j=>simp at hj
     ·cases j with
      | zero=>exact⟨e,eD,rfl⟩
      | succ j=>simp at hj
     ·have a1:=hl.nil 0 rfl
      have a3:=hl.an 0 e [] rfl
      rw[Nat.add_zero] at a1 a3
      exact bu ⟨_,_,_,a3,.inl ⟨a1,h1.1,rfl⟩⟩ cu
    ·cases hc
   ·cases h
 | st t ih=>exact fun hl h ho=>ih hl h ho
 | pr a b fX fR =>
   intro cs d ns rest vs eD h ho
   have WT:(a.ko p&&b.ko p)=true:=eD
   rw[Bool.and_eq_true] at WT
   simp only[og] at h
   split at h
   ·rename_i x Gf r1 hx
    split at h
    ·rename_i y ns2 r2 hy
     injection h with h;injection h with h1 h2;injection h2 with h2 h3;subst h1;subst h2;subst h3
     obtain⟨u1,u2,rfl,k1,k2,k3,k4⟩:=fX WT.1 hx ho
     obtain⟨u3,u4,rfl,l1,l2,l3,l4⟩:=fR WT.2 hy k1
     have qw:(fresh (.pr a b) (x,y) 0).2=(fresh a x 0).2++(fresh b y 0).2:=by
      show dX (fresh a x 0).2 (fresh b y (0+bL (fresh a x 0).2)).2=_
      rw[cp,zd b]
     rw[cp,qw]
     refine⟨u1++u3,u4,by rw[List.append_assoc],l1,⟨k2,l2⟩,⟨by simp[k3.len,l3.len],fun j n hj=>?_,fun j hj=>?_⟩,fun nx V' aJ hl=>?_⟩
     ·rw[List.getElem?_append] at hj
      split at hj
      ·rename_i aT
       obtain⟨fr,e,xs,g1,g2,g3⟩:=k3.row j n hj
       exact⟨fr,e,xs,g1,g2,by rw[List.getElem?_append_left (by rw[<-k3.len];exact aT)];exact g3⟩
      ·rename_i aT
       obtain⟨fr,e,xs,g1,g2,g3⟩:=l3.row (j-Gf.length) n hj
       exact⟨fr,e,xs,g1,g2,by rw[List.getElem?_append_right (by rw[<-k3.len];omega),<-k3.len];exact g3⟩
     ·rw[List.getElem?_append] at hj
      split at hj
      ·rename_i aT
       obtain⟨e,g2,g3⟩:=k3.nil j hj
       exact⟨e,g2,by rw[List.getElem?_append_left (by rw[<-k3.len];exact aT)];exact g3⟩
      ·rename_i aT
       obtain⟨e,g2,g3⟩:=l3.nil (j-Gf.length) hj
       exact⟨e,g2,by rw[List.getElem?_append_right (by rw[<-k3.len];omega),<-k3.len];exact g3⟩
     ·have c1:(fresh (.pr a b) (x,y) nx).1=(fresh a x nx).1++(fresh b y (nx+Gf.length)).1:=by
       show dX (fresh a x nx).1 (fresh b y (nx+bL (fresh a x nx).2)).1=_
       rw[cp,dz,zd a,k3.len]
      rw[c1]
      refine gW (k4 nx V' aJ ⟨fun j e xs hj=>hl.an j e xs ?_,fun j n hj=>hl.row j n ?_,fun j hj=>hl.nil j ?_⟩)
       (l4 (nx+Gf.length) V' aJ ⟨fun j e xs hj=>?_,fun j n hj=>?_,fun j hj=>?_⟩)
      ·rw[List.getElem?_append_left (List.getElem?_eq_some_iff.1 hj).1];exact hj
      ·rw[List.getElem?_append_left (List.getElem?_eq_some_iff.1 hj).1];exact hj
      ·rw[List.getElem?_append_left (List.getElem?_eq_some_iff.1 hj).1];exact hj
      ·rw[Nat.add_assoc]
       refine hl.an (Gf.length+j) e xs ?_
       rw[List.getElem?_append_right (by rw[<-k3.len];omega),<-k3.len,Nat.add_sub_cancel_left];exact hj
      ·rw[Nat.add_assoc]
       refine hl.row (Gf.length+j) n ?_
       rw[List.getElem?_append_right (by omega),Nat.add_sub_cancel_left];exact hj
      ·rw[Nat.add_assoc]
       refine hl.nil (Gf.length+j) ?_
       rw[List.getElem?_append_right (by omega),Nat.add_sub_cancel_left];exact hj
    ·cases h
   ·cases h
 | ptr t ih=>intro cs d ns rest vs h;cases h
 | ca f t ih=>intro cs d ns rest vs h;cases h
 | gs wh e ih=>intro cs d ns rest vs h;cases h
theorem EC{p:Ty->Bool}(he:∀ n,(hp n).ok V hp w n){t:Ty}{s:S}{d:t.den}{ns:List (Option Nat)}{v:Value}(hl:t.ko p=true)(h:CV hp t s=some (d,ns))(ho:S.ok V hp w s v) :
 t.wf d/\aad p V hp ns (fresh t d 0).2/\∀ V' aJ,Wn V ns (fresh t d 0).2 0 V' aJ->S.ok V' aJ w (jl (iQ t,(fresh t d 0).1)) v:=by
 unfold CV at h
 split at h
 ·rename_i x
  split at h
  ·cases h
  ·rename_i iw
   split at h
   ·rename_i d' YH hc
    injection h with h;injection h with h1 h2;subst h1;subst h2
    obtain⟨Rf,Rg,e1,k1,k2,k3,k4⟩:=MI he t (vs:=[v]) hl hc (bu ho cu)
    have sA:Rg=[]:=by have:=k1.1;simpa using this.symm
    subst sA
    rw[List.append_nil] at e1
    subst e1
    refine⟨k2,k3,fun V' aJ hk=>?_⟩
    have cm:=k4 0 V' aJ hk
    unfold jl
    rw[if_neg (by simpa using iw)]
    have tx:=cm.1
    split
    ·rename_i c hcc
     simp only at hcc
     rw[hcc] at cm
     exact cm.2 0 c v rfl rfl
    ·trivial
   ·cases h
 ·rename_i cs
  split at h
  ·rename_i iw
   split at h
   ·rename_i d' YH hc
    injection h with h;injection h with h1 h2;subst h1;subst h2
    obtain⟨us,rfl,ho⟩:=ho
    obtain⟨Rf,Rg,e1,k1,k2,k3,k4⟩:=MI he t hl hc ho
    have sA:Rg=[]:=by have:=k1.1;simpa using this.symm
    subst sA
    rw[List.append_nil] at e1
    refine⟨k2,k3,fun V' aJ hk=>?_⟩
    have cm:=k4 0 V' aJ hk
    unfold jl
    rw[if_pos iw]
    exact⟨us,rfl,by rw[e1];exact cm⟩
   ·cases h
  ·cases h
 ·cases h
theorem EH{st:St}{ts:Array Value}(r:Rel base M w0 V st ts w)(k:Kept w.heap.size wv w w'):Rel base M w0 V st ts w':=by
 have m:=r.mem
 have x:VX V st.an w V st.an w':=⟨fun _ _=>⟨rfl,Iff.rfl,rfl⟩,fun _ h=>h,fun _ h=>h,fun b h=>k.block b (m.qu h) (fun x=>x),fun n hl hh=>k.block _ (m.own n hl hh).2.1 (fun x=>x)⟩
 refine⟨r.len,fun i s v hs hv=>S.kt x (r.iZ i s v hs hv),?_⟩
 have cD:=k.size
 refine⟨fun n=>?_,m.box,fun n hl hh=>?_,m.fY,m.gi,m.z0,fun b hb=>?_,m.kept.trans k,m.jO,m.oh,m.gE⟩
 ·cases hl:(st.an n).live with
  | true=>exact az.kt x (m.cE n) (fun cs=>m.box n cs) hl
  | false =>
    cases he:st.an n with
    | dead=>trivial
    | bx cs=>rw[he] at hl;cases hl
    | row fr e xs=>rw[he] at hl;cases hl
 ·obtain⟨h1,h2,h3⟩:=m.own n hl hh
  exact⟨h1,by omega,h3⟩
 ·obtain⟨h1,h2⟩:=m.z1 b hb
  exact⟨h1,by omega⟩
theorem U3(hp:List az)(n:Nat)(h:n<hp.length):bP hp n (nth .dead hp n)=hp:=by
 rw[ga,cT,List.getElem?_eq_getElem h]
 simp
theorem Xy{st:St}{ts:Array Value}(r:Rel base M w0 V st ts w){n:Nat}{fr:Bool}{e:Ty}{xs ys:List e.den}(hn:st.an n = .row fr e xs)(eD:e.flat=true)(hlen:ys.length=xs.length)
 (jh:∀ b,(V.has n->b≠V.aF n)->w'.heap[b]? = w.heap[b]?) (QC:w'.os=w.os/\w'.tape=w.tape/\w'.output=w.output) (cD:w'.heap.size=w.heap.size)
 (hc:V.has n->∃ ak el ba dC,w.heap[V.aF n]? = some (.cells ak el (0,0))/\w'.heap[V.aF n]? = some (.cells ba dC (0,0))/\ba.size=ak.size/\gl gO w' e ba ys) :
 Rel base M w0 V { (st.map (cN n)) with hp:=bP (st.map (cN n)).hp n (.row fr e ys) } ts w':=by
 have m:=r.mem
 have hl:(st.an n).live=true:=by rw[hn];rfl
 have fQ:=m.cE n
 rw[hn] at fQ
 by_cases hh:V.has n
 ·obtain⟨ak,el,ba,dC,k1,k2,k3,k4⟩:=hc hh
  rcases fQ with ⟨q,_⟩|⟨_,ue,Fz,q1,q2,q3⟩
  ·exact absurd hh q
  ·have oH:=m.own n hl hh
   have kw:Wr V st.an w n (aD st.an n (.row fr e ys)) w' :=
    ⟨fun k hk=>by simp only[aD,if_neg hk],fun b hb=>jh b (fun _=>hb),hh,.inr ⟨fr,fr,e,xs,ys,hn,by simp only[aD,if_true],hlen.symm,ak,ba,el,dC,k1,k2,k3.symm⟩⟩
   have iM:Kept base M w0 w':=by
    refine⟨QC.1.trans m.kept.os,QC.2.1.trans m.kept.tape,QC.2.2.trans m.kept.output,by rw[cD];exact m.kept.size,fun b hb hM=>?_,fun b v2 e2 hb hM hv=>?_⟩
    ·rw[jh b (fun _ e=>by subst e;rcases oH.1 with h|h;omega;exact hM h)]
     exact m.kept.block b hb hM
    ·obtain⟨v3,e3,h3,h4⟩:=m.kept.shape b v2 e2 hb hM hv
     by_cases hbe:b=V.aF n
     ·subst hbe
      rw[k1] at h3
      injection h3 with h3
      injection h3 with h3 _ _
      subst h3
      exact⟨ba,dC,k2,by rw[k3];exact h4⟩
     ·exact⟨v3,e3,by rw[jh b (fun _=>hbe)];exact h3,h4⟩
   refine Cf r kw rfl iM cD ?_ (fun e2 ic heq=>?_) (fun cs heq=>by cases heq) (fun aT=>?_) (fun _ q hq=>by rw[wk eD] at hq;cases hq)
   ·refine .inr ⟨hh,ba,dC,k2,by rw[hlen];exact q2,fun i hi=>?_⟩
    obtain⟨es,a1,a2,a3⟩:=k4 i hi
    exact⟨es,a1,a2,a3.flat eD⟩
   ·injection heq with h1 h2 h3
    subst h1
    exact m.fY n e xs hn hh
   ·refine m.jO n ?_ hh
    rw[hn]
    cases fr with
    | true=>exact aT.elim
    | false=>exact aT
 ·rcases fQ with ⟨_,q⟩|⟨q,_⟩
  ·have hy:ys=xs:=by rw[q] at hlen ⊢;exact List.length_eq_zero_iff.1 hlen
   rw[hy]
   have r1:=(EH (w':=w') r ⟨QC.1,QC.2.1,QC.2.2,by omega,fun b _ _=>jh b (fun h=>absurd h hh),fun _ _ _ _ h _=>h.elim⟩).kill (DJ n)
   have aT:n<(st.map (cN n)).hp.length:=by
    show n<(lmap _ _).length
    rw[bS,List.length_map];exact iJ hl
   have he:(st.map (cN n)).an n = .row fr e xs:=by
    rw[jr];show (st.an n).map _=_;rw[hn];rfl
   have hs:=U3 (st.map (cN n)).hp n aT
   rw[show nth .dead (st.map (cN n)).hp n = .row fr e xs from he] at hs
   rw[hs]
   exact r1
  ·exact absurd q hh
theorem Xz{st:St}{n m:Nat}{fr a_:Bool}{e:Ty}{xs:List e.den}{nN:Bool}{e2:Ty}{ys:List e2.den}(hn:st.an n = .row fr e xs)(hm:m≠n){f3:Bool}{e3:Ty}{zs:List e3.den}(h:st.an m = .row f3 e3 zs) :
 (st.xA n (.row nN e2 ys)).an m = .row f3 e3 zs:=by
 unfold St.xA
 rw[hn]
 simp only
 have aT:n<(st.map (cN n)).hp.length:=by
  show n<(lmap _ _).length
  rw[bS,List.length_map];exact iJ (by rw[hn];rfl)
 rw[gZ aT]
 simp only[aD,if_neg hm]
 show (st.map (cN n)).an m=_
 rw[jr]
 show (st.an m).map _=_
 rw[h];rfl
theorem Ce {ts : Array Value} : ∀ (ns : List (Option Nat)) (es : List az) {st : St} {w : World}, Rel base M w0 V st ts w → (hH ns).Nodup → ns.length = es.length →
    (w.heap.size ≤ w'.heap.size ∧ w'.os = w.os ∧ w'.tape = w.tape ∧ w'.output = w.output) → (∀ b, b < w.heap.size → (∀ n ∈ hH ns, V.has n → b ≠ V.aF n) → w'.heap[b]? = w.heap[b]?) →
    (∀ (j n : Nat) e, ns[j]? = some (some n) → es[j]? = some e → ∃ fr ty xs ys, st.an n = .row fr ty xs ∧ ty.flat = true ∧ e = .row true ty ys ∧ ys.length = xs.length ∧
      (V.has n → ∃ ak el ba dC, w.heap[V.aF n]? = some (.cells ak el (0, 0)) ∧ w'.heap[V.aF n]? = some (.cells ba dC (0, 0)) ∧ ba.size = ak.size ∧ gl gO w' ty ba ys)) →
    Rel base M w0 V (st.ld ns es) ts w'
  | [], es, st, w, r, _, _, ho, hb, _ => by
    have : st.ld [] es = st := by unfold St.ld; rfl
    rw [this]
    exact EH r ⟨ho.2.1, ho.2.2.1, ho.2.2.2, ho.1, fun b aT _ => hb b aT (fun n hn => by cases hn), fun _ _ _ _ h _ => h.elim⟩
  | none :: ns, e :: es, st, w, r, cR, hl, ho, hb, ch => by
    have : st.ld (none :: ns) (e :: es) = st.ld ns es := by rw [St.ld]
    rw [this]
    exact Ce ns es r cR (by simpa using hl) ho hb (fun j n e h1 h2 => ch (j + 1) n e (by simpa using h1) (by simpa using h2))
  | some n :: ns, e :: es, st, w, r, cR, hl, ho, hb, ch => by
    have : st.ld (some n :: ns) (e :: es) = (st.xA n e).ld ns es := by rw [St.ld]
    rw [this]
    have Hu : (n :: hH ns).Nodup := cR
    rw [List.nodup_cons] at Hu
    obtain ⟨fr, ty, xs, ys, h1, h2, h3, h4, h5⟩ := ch 0 n e rfl rfl
    subst h3
    -- the world in which row n alone has changed
    obtain ⟨w1, fW⟩ : ∃ w1 : World, w1.os = w.os ∧ w1.tape = w.tape ∧ w1.output = w.output ∧ w1.heap.size = w.heap.size ∧ (∀ b, (V.has n → b ≠ V.aF n) → w1.heap[b]? = w.heap[b]?) ∧ (V.has n → w1.heap[V.aF n]? = w'.heap[V.aF n]?) := by
      by_cases hh : V.has n
      · obtain ⟨ak, el, ba, dC, k1, k2, _, _⟩ := h5 hh
        have aT : V.aF n < w.heap.size := (Array.getElem?_eq_some_iff.1 k1).1
        refine ⟨{ w with heap := w.heap.setIfInBounds (V.aF n) (.cells ba dC (0, 0)) }, rfl, rfl, rfl, by simp, fun b fO => ?_, fun _ => ?_⟩
        · show (w.heap.setIfInBounds _ _)[b]? = _
          rw [Array.getElem?_setIfInBounds, if_neg (fun e => fO hh e.symm)]
        · show (w.heap.setIfInBounds _ _)[V.aF n]? = _
          rw [Array.getElem?_setIfInBounds, if_pos rfl, if_pos aT, k2]
      · exact ⟨w, rfl, rfl, rfl, rfl, fun _ _ => rfl, fun h => absurd h hh⟩
    obtain ⟨o1, o2, o3, o4, o5, o6⟩ := fW
    have r1 : Rel base M w0 V (st.xA n (.row true ty ys)) ts w1 := by
      have hs : st.xA n (.row true ty ys) = { (st.map (cN n)) with hp := bP (st.map (cN n)).hp n (.row fr ty ys) } := by unfold St.xA; rw [h1]
      rw [hs]
      refine Xy r h1 h2 h4 o5 ⟨o1, o2, o3⟩ o4 (fun hh => ?_)
      obtain ⟨ak, el, ba, dC, k1, k2, k3, k4⟩ := h5 hh
      exact ⟨ak, el, ba, dC, k1, by rw [o6 hh]; exact k2, k3, fun i hi => by obtain ⟨es, a1, a2, a3⟩ := k4 i hi; exact ⟨es, a1, a2, a3.flat h2⟩⟩
    refine Ce ns es r1 Hu.2 (by simpa using hl) ⟨by rw [o4]; exact ho.1, by rw [o1]; exact ho.2.1, by rw [o2]; exact ho.2.2.1, by rw [o3]; exact ho.2.2.2⟩ (fun b aT fO => ?_) (fun j m e' hj fG => ?_)
    · rw [o4] at aT
      by_cases Yi : V.has n ∧ b = V.aF n
      · rw [Yi.2, o6 Yi.1]
      · rw [o5 b (fun hh e => Yi ⟨hh, e⟩)]
        refine hb b aT (fun m hm hh e => ?_)
        rcases List.mem_cons.1 (show m ∈ n :: hH ns from hm) with rfl | hm
        · exact Yi ⟨hh, e⟩
        · exact fO m hm hh e
    · obtain ⟨nN, ty2, ic, D5, g1, g2, g3, g4, g5⟩ := ch (j + 1) m e' (by simpa using hj) (by simpa using fG)
      have DH : m ≠ n := fun e => Hu.1 (by rw [← e]; exact nT hj)
      refine ⟨nN, ty2, ic, D5, Xz (a_ := true) h1 DH g1, g2, g3, g4, fun hh => ?_⟩
      obtain ⟨ak, el, ba, dC, k1, k2, k3, k4⟩ := g5 hh
      refine ⟨ak, el, ba, dC, ?_, k2, k3, k4⟩
      rw [o5 _ (fun hhn e => DH (r.mem.gi m n (by rw [g1]; rfl) (by rw [h1]; rfl) hh hhn e))]
      exact k1
  | some n :: ns, [], st, w, r, cR, hl, ho, hb, ch => by simp at hl
  | none :: ns, [], st, w, r, cR, hl, ho, hb, ch => by simp at hl
theorem DZ:∀ {as bs:List az},cU (C2 as bs)->as.length=bs.length/\∀(j:Nat) (f:Bool) (e:Ty) (xs:List e.den),as[j]? = some (.row f e xs)->∃ f' ys,bs[j]? = some (.row f' e ys)/\ys.length=xs.length
 | [],[],_=>⟨rfl,fun j f e xs h=>by cases h⟩
 | [],b::bs,h=>by cases b<;>exact h.elim
 | a::as,[],h=>by cases a<;>exact h.elim
 | .dead::as,b::bs,h=>by cases b<;>exact h.elim
 | .bx cs::as,b::bs,h=>by cases b<;>exact h.elim
 | .row f e xs::as,.dead::bs,h=>h.elim
 | .row f e xs::as,.bx cs::bs,h=>h.elim
 | .row f e xs::as,.row f' e' ys::bs,h=>by
   unfold C2 at h
   split at h
   ·rename_i he
    subst he
    obtain⟨h1,h2⟩:=dv.1 h
    have h1:ys.length=xs.length:=h1
    obtain⟨h3,h4⟩:=DZ h2
    refine⟨by simp[h3],fun j f2 e2 ic hj=>?_⟩
    cases j with
    | zero =>
      simp only[List.getElem?_cons_zero,Option.some.injEq,az.row.injEq] at hj
      obtain⟨q1,q2,q3⟩:=hj
      subst q2;cases q3
      exact⟨f',ys,rfl,h1⟩
    | succ j=>exact h4 j f2 e2 ic (by simpa using hj)
   ·exact h.elim
theorem se{lk:Nat->az}:∀ {es:List az} {k:Nat},cU (kC lk k es)->∀(j:Nat) (f:Bool) (e:Ty) (ys:List e.den),es[j]? = some (.row f e ys)->lk (k+j) = .row false e ys
 | [],k,_,j,f,e,ys,h=>by cases h
 | .dead::es,k,h,_,_,_,_,_=>h.elim
 | .bx cs::es,k,h,_,_,_,_,_=>h.elim
 | .row f0 e0 tE::es,k,h,j,f,e,ys,hj=>by
   unfold kC at h
   obtain⟨h1,h2⟩:=dv.1 h
   cases j with
   | zero =>
     simp only[List.getElem?_cons_zero,Option.some.injEq,az.row.injEq] at hj
     obtain⟨q1,q2,q3⟩:=hj
     subst q2;cases q3
     split at h1
     ·rename_i e' xs qy
      split at h1
      ·rename_i he
       subst he
       have h1:xs=tE:=h1
       rw[Nat.add_zero,qy,h1]
      ·exact h1.elim
     ·exact h1.elim
   | succ j =>
     have:=se h2 j f e ys (by simpa using hj)
     rw[<-this];congr 1;omega
theorem RH:∀(t:Ty) (d:t.den) (nx:Nat),∀ e∈(fresh t d nx).2,∀ f ty xs,e = .row f ty xs->f=true:=by
 intro t
 induction t with
 | int k=>intro d nx e he;simp[fresh] at he
 | bool=>intro d nx e he;simp[fresh] at he
 | str=>intro d nx e he;simp[fresh] at he
 | sl e ih=>intro d nx e' he f ty xs h;simp[fresh] at he;rw[he] at h;injection h with h;exact h.symm
 | st t ih=>exact fun d nx e he=>ih d nx e he
 | pr a b fX fR =>
   intro d nx e he
   unfold fresh at he
   simp only[cp,List.mem_append] at he
   exact he.elim (fX _ _ e) (fR _ _ e)
 | ptr t ih=>intro d nx e he;simp[fresh] at he
 | ca f t ih=>intro d nx e he;simp[fresh] at he
 | gs wh e ih=>intro d nx e he;simp[fresh] at he
theorem Tz (hm : P.follows .mixedOrders = true) (hT : cv P T) (hΓ : eI P Γ) (hR : cV P R) {f : FuncId} {fn : Func} (hf : P.funcs[f]? = some fn) {mc : MC} {A : mc.t.den → Int → Nat → Option bg}
    (hl : mc.t.MK = true) (h : z9 T Γ R fn mc A) : fS P f (ib mc) := by
  intro base M w0 V st ts w ss vs K r hlen gT bN
  unfold ib at bN
  split at bN
  · rename_i s k
    split at bN
    · rename_i d ns CQ
      split at bN
      · rename_i cR
        obtain ⟨eS, hK⟩ := bN
        have cR := wx cR
        match vs, hlen with
        | [v, u], _ =>
          have hv := gT 0 s v rfl rfl
          have hu : u = .int .i64 k ∧ i64.min ≤ k ∧ k ≤ i64.max := ok_int (V := V) (hp := st.an) (w := w) (gT 1 _ u rfl rfl)
          obtain ⟨rfl, pX⟩ := hu
          have mm := r.mem
          obtain ⟨F5, hL, oc⟩ := EC mm.cE hl CQ hv
          unfold z9 at h
          split at h
          · rename_i code hb
            obtain ⟨tR, Mo⟩ := h d k F5 pX eS
            obtain ⟨sl1, sl2⟩ := DZ tR
            generalize qw : (fresh mc.t d 0).2 = es at *
            generalize Hs : (fresh mc.t (mc.G d k) 0).2 = jc at *
            -- the callee's names
            let V0 : Vl := ⟨fun j => match ns[j]? with | some (some n) => V.aF n | _ => 0, fun j => match ns[j]? with | some (some n) => V.has n | _ => False, fun _ => False, fun _ => False⟩
            let M0 : LM := ⟨fun b => ∃ (j n : Nat), ns[j]? = some (some n) ∧ V.has n ∧ b = V.aF n, fun b j => ∃ n : Nat, ns[j]? = some (some n) ∧ V.has n ∧ b = V.aF n, fun _ => True, fun _ _ => trivial, fun _ => False⟩
            have ch : ∀ (j n : Nat), ns[j]? = some (some n) → (V0.has j ↔ V.has n) ∧ V0.aF j = V.aF n := by
              intro j n hj
              show ((match ns[j]? with | some (some n) => V.has n | _ => False) ↔ _) ∧ (match ns[j]? with | some (some n) => V.aF n | _ => 0) = _
              rw [hj]; exact ⟨Iff.rfl, rfl⟩
            have Es : ∀ (j : Nat), (∀ n, ns[j]? ≠ some (some n)) → ¬ V0.has j := by
              intro j hj hh
              have hh : (match ns[j]? with | some (some n) => V.has n | _ => False) := hh
              split at hh
              · rename_i n hn; exact hj n hn
              · exact hh
            have zj : ∀ (j : Nat), V0.has j → ∃ n, ns[j]? = some (some n) ∧ V.has n ∧ V0.aF j = V.aF n := by
              intro j hh
              by_cases hx : ∃ n, ns[j]? = some (some n)
              · obtain ⟨n, hn⟩ := hx
                exact ⟨n, hn, (ch j n hn).1.1 hh, (ch j n hn).2⟩
              · exact absurd hh (Es j (fun n hn => hx ⟨n, hn⟩))
            have RM : ∀ (j : Nat), (fB mc.t d k fn.ntmps).an j = match es[j]? with | some e => e.yj | none => .dead := by
              intro j
              show nth .dead (lmap az.yj (fresh mc.t d 0).2) j = _
              rw [qw, cT, bS, List.getElem?_map]
              cases es[j]? <;> rfl
            have KZ : ∀ (j : Nat) e, es[j]? = some e → ∃ ty xs, e = .row true ty xs ∧ ty.flat = true := by
              intro j e hj
              have aT : j < ns.length := by rw [hL.len]; exact (List.getElem?_eq_some_iff.1 hj).1
              have hn : ns[j]? = some ns[j] := List.getElem?_eq_getElem aT
              cases hx : ns[j] with
              | none =>
                rw [hx] at hn
                obtain ⟨ty, g1, g2⟩ := hL.nil j hn
                rw [hj] at g2; injection g2 with g2; exact ⟨ty, [], g2, g1⟩
              | some n =>
                rw [hx] at hn
                obtain ⟨fr, ty, xs, _, g1, g2⟩ := hL.row j n hn
                rw [hj] at g2; injection g2 with g2; exact ⟨ty, xs, g2, g1⟩
            have acU : ∀ (j : Nat) e xs, (fB mc.t d k fn.ntmps).an j = .row false e xs → es[j]? = some (.row true e xs) := by
              intro j e xs hj
              rw [RM] at hj
              cases hx : es[j]? with
              | none => rw [hx] at hj; cases hj
              | some e' =>
                obtain ⟨ty, ys, rfl, _⟩ := KZ j e' hx
                rw [hx] at hj
                have lr : az.row false ty ys = .row false e xs := hj
                injection lr with _ q1 q2
                subst q1; cases q2; rfl
            have de : ∀ j, ((fB mc.t d k fn.ntmps).an j).live = true → ∃ e xs, (fB mc.t d k fn.ntmps).an j = .row false e xs ∧ e.flat = true := by
              intro j hj
              rw [RM] at hj ⊢
              cases hx : es[j]? with
              | none => rw [hx] at hj; cases hj
              | some e' =>
                obtain ⟨ty, ys, rfl, eD⟩ := KZ j e' hx
                exact ⟨ty, ys, rfl, eD⟩
            have Zp : ∀ j fr e xs, (fB mc.t d k fn.ntmps).an j = .row fr e xs → fr = false := by
              intro j fr e xs hj
              obtain ⟨e2, ic, q1, _⟩ := de j (by rw [hj]; rfl)
              rw [hj] at q1; injection q1
            have Ys : ∀ j cs, (fB mc.t d k fn.ntmps).an j ≠ .bx cs := by
              intro j cs hj
              obtain ⟨e2, ic, q1, _⟩ := de j (by rw [hj]; rfl)
              rw [hj] at q1; cases q1
            have Mh : ∀ (j n : Nat), ns[j]? = some (some n) → (st.an n).live = true := by
              intro j n hj
              obtain ⟨fr, e, xs, q, _⟩ := hL.row j n hj
              rw [q]; rfl
            have zw : Mem w.heap.size M0 w V0 (fB mc.t d k fn.ntmps).an w := by
              refine ⟨fun j => ?_, fun j cs hj => absurd hj (Ys j cs), fun j hj hh => ?_, fun j e xs hj => absurd (Zp j _ e xs hj) (by simp), fun j j' hj lr hh nw fO => ?_, fun b h => h.elim, fun b h => h.elim, ⟨rfl, rfl, rfl, Nat.le_refl _, fun _ _ _ => rfl, fun b v2 e2 _ _ sA => ⟨v2, e2, sA, rfl⟩⟩, fun j hj hh => ?_, fun b hb => hb.elim, fun j hh q hq => ?_⟩
              · cases o0 : ((fB mc.t d k fn.ntmps).an j).live with
                | false =>
                  cases hx : (fB mc.t d k fn.ntmps).an j with
                  | dead => trivial
                  | bx cs => exact absurd hx (Ys j cs)
                  | row fr e xs => rw [hx] at o0; cases o0
                | true =>
                  obtain ⟨e, xs, hx, eD⟩ := de j o0
                  rw [hx]
                  have hj := acU j e xs hx
                  by_cases hn : ∃ n, ns[j]? = some (some n)
                  · obtain ⟨n, hn⟩ := hn
                    obtain ⟨fr, e', br, q1, _, q2⟩ := hL.row j n hn
                    rw [hj] at q2; injection q2 with q2; injection q2 with _ q3 q4
                    subst q3; cases q4
                    have h0 := mm.cE n
                    rw [q1] at h0
                    rcases h0 with ⟨a1, a2⟩ | ⟨a1, ak, el, a2, a3, a4⟩
                    · exact .inl ⟨fun hh => a1 ((ch j n hn).1.1 hh), a2⟩
                    · refine .inr ⟨(ch j n hn).1.2 a1, ak, el, by rw [(ch j n hn).2]; exact a2, a3, fun i hi => ?_⟩
                      obtain ⟨es2, b1, b2, b3⟩ := a4 i hi
                      exact ⟨es2, b1, b2, b3.flat eD⟩
                  · have aT : j < ns.length := by rw [hL.len]; exact (List.getElem?_eq_some_iff.1 hj).1
                    have Mi : ns[j]? = some none := by
                      have := List.getElem?_eq_getElem aT
                      cases mj : ns[j] with
                      | none => rw [mj] at this; exact this
                      | some n => rw [mj] at this; exact absurd ⟨n, this⟩ hn
                    obtain ⟨e', _, q2⟩ := hL.nil j Mi
                    rw [hj] at q2; injection q2 with q2; injection q2 with _ q3 q4
                    subst q3; cases q4
                    exact .inl ⟨Es j (fun n gR => hn ⟨n, gR⟩), rfl⟩
              · obtain ⟨n, hn, h2, h3⟩ := zj j hh
                rw [h3]
                refine ⟨.inr ⟨j, n, hn, h2, rfl⟩, (mm.own n (Mh j n hn) h2).2.1, fun hz => ?_⟩
                rcases hz with hz | ⟨_, hz⟩ <;> exact hz
              · obtain ⟨n, hn, h2, h3⟩ := zj j hh
                obtain ⟨n', gR, v7, LU⟩ := zj j' nw
                have : n = n' := mm.gi n n' (Mh j n hn) (Mh j' n' gR) h2 v7 (by rw [← h3, ← LU, fO])
                subst this
                exact DL cR hn gR
              · obtain ⟨n, hn, h2, h3⟩ := zj j hh
                exact ⟨n, hn, h2, h3⟩
              · exfalso
                obtain ⟨e, xs, hx, eD⟩ := de j (vo (BL hq))
                rw [hx, wk eD] at hq
                cases hq
            have acY : Wn V ns es 0 V0 (fB mc.t d k fn.ntmps).an := by
              refine ⟨fun j e xs hj => ?_, fun j n hj => ?_, fun j hj => ?_⟩
              · rw [Nat.zero_add, RM, hj]; rfl
              · rw [Nat.zero_add]; exact ch j n hj
              · rw [Nat.zero_add]; exact Es j (fun n hn => by rw [hj] at hn; cases hn)
            have Ml := oc V0 (fB mc.t d k fn.ntmps).an acY
            have EJ : Sat w.heap.size M0 w (fB mc.t d k fn.ntmps) { tmps := #[v, .int .i64 k] ++ Array.replicate (fn.ntmps - 2) undef, defers := [] } w := by
              refine ⟨rfl, V0, ⟨?_, fun i s' v' bb cr => ?_, zw⟩⟩
              · show (jl _ :: .c _ :: kW S.fh (fn.ntmps - 2)).length = _
                rw [iG]; simp; omega
              · have bb : (jl (iQ mc.t, (fresh mc.t d 0).1) :: .c (.val (.int .i64 k)) :: kW S.fh (fn.ntmps - 2))[i]? = some s' := bb
                have cr : ([v, Value.int .i64 k] ++ List.replicate (fn.ntmps - 2) undef)[i]? = some v' := by
                  rw [← cr]
                  simp only [Array.getElem?_append, List.getElem?_append, List.getElem?_toArray, List.size_toArray, Array.getElem?_replicate, List.getElem?_replicate]
                cases i with
                | zero =>
                  simp only [List.getElem?_cons_zero, Option.some.injEq, List.cons_append] at bb cr
                  subst bb; subst cr; exact Ml
                | succ i =>
                  cases i with
                  | zero =>
                    simp only [List.getElem?_cons_succ, List.getElem?_cons_zero, Option.some.injEq, List.cons_append] at bb cr
                    subst bb; subst cr; exact ⟨rfl, pX⟩
                  | succ i =>
                    simp only [List.getElem?_cons_succ, List.cons_append, List.nil_append, iG, List.getElem?_replicate] at bb cr
                    split at bb
                    · rename_i hi
                      injection bb with bb; subst bb
                      rw [if_pos hi] at cr
                      injection cr with cr; exact cr.symm
                    · cases bb
            refine calls_of_wp (args := #[v, .int .i64 k]) hf hb (C_ hm hT hΓ hR code (A d k) _ _ _ _ w EJ Mo (fun e A' aV a' w' hk bb => ?_))
            obtain ⟨hd, V1, r1⟩ := bb
            have key : uD T fn mc.t (mc.F d k) (mc.G d k) e aV → (∃ i, e = .exit i) ∨ ∃ v', (results fn a'.tmps).run P w' = .ok v' w' ∧ v' = .int .i64 (mc.F d k) ∧ (i64.min ≤ mc.F d k ∧ mc.F d k ≤ i64.max) ∧ cU (kC aV.an 0 jc) := by
              intro hp
              unfold uD at hp
              split at hp
              · exact hp.elim
              · right
                split at hp
                · rename_i rr nP
                  obtain ⟨et, je⟩ := hp
                  subst et
                  rw [Hs] at je
                  obtain ⟨vs, e1, e2, e3⟩ := la hT r1 nP
                  match vs, e1 with
                  | [x], _ =>
                    have h2 := ok_int (V := V1) (hp := aV.an) (w := w') (e2 0 _ x rfl rfl)
                    exact ⟨_, lM e3, h2.1, h2.2, je⟩
                · exact hp.elim
            have fin : cU (kC aV.an 0 jc) → (i64.min ≤ mc.F d k ∧ mc.F d k ≤ i64.max) →
                ∃ V' s' EP, K s' EP ∧ Rel base M w0 V' EP ts w' ∧ S.ok V' EP.an w' s' (.int .i64 (mc.F d k)) := by
              intro je mD
              have Bv := se je
              have m1 := r1.mem
              refine ⟨V, _, _, hK, Ce ns jc r cR (by rw [hL.len]; exact sl1) ⟨m1.kept.size, m1.kept.os, m1.kept.tape, m1.kept.output⟩ (fun b fO lu => m1.kept.block b fO (fun hM => ?_)) (fun j n e' hj fG => ?_), ⟨rfl, mD⟩⟩
              · obtain ⟨j, n, g1, g2, g3⟩ := hM
                exact lu n (nT g1) g2 g3
              · obtain ⟨fr, ty, xs, q1, q2, q3⟩ := hL.row j n hj
                obtain ⟨f', ys, q4, q5⟩ := sl2 j true ty xs q3
                have L5 := RH mc.t (mc.G d k) 0 e' (by rw [Hs]; exact List.mem_of_getElem? fG)
                rw [fG] at q4
                injection q4 with q4
                subst q4
                obtain rfl : f' = true := L5 f' ty ys rfl
                refine ⟨fr, ty, xs, ys, q1, q2, rfl, q5, fun hh => ?_⟩
                have CU := Bv j true ty ys fG
                rw [Nat.zero_add] at CU
                have h0 := r.mem.cE n
                rw [q1] at h0
                rcases h0 with ⟨a1, _⟩ | ⟨_, ak, el, a2, a3, a4⟩
                · exact absurd hh a1
                · have oH := r.mem.own n (by rw [q1]; rfl) hh
                  obtain ⟨ba, dC, b1, b2⟩ := m1.kept.shape (V.aF n) ak el oH.2.1 ⟨j, n, hj, hh, rfl⟩ a2
                  refine ⟨ak, el, ba, dC, a2, b1, b2, ?_⟩
                  have h1 := m1.cE j
                  rw [CU] at h1
                  rcases h1 with ⟨c1, c2⟩ | ⟨c1, dH, jb, c2, c3, c4⟩
                  · rw [c2]; intro i hi; exact absurd hi (Nat.not_lt_zero _)
                  · obtain ⟨n', gR, _, nv⟩ := m1.jO j (by rw [CU]; show (ty.flat || ty.bQ) = true; rw [q2]; rfl) c1
                    rw [hj] at gR
                    injection gR with gR; injection gR with gR
                    subst gR
                    rw [nv, b1] at c2
                    injection c2 with c2
                    injection c2 with c2 _ _
                    subst c2
                    exact fun i hi => by obtain ⟨es2, d1, d2, d3⟩ := c4 i hi; exact ⟨es2, d1, d2, d3.flat q2⟩
            have iM := key hk
            cases e with
            | normal =>
              rcases iM with ⟨i, h⟩ | ⟨v', h1, h2, h3, h4⟩
              · cases h
              · exact ⟨hd, v', h1, v', rfl, by rw [h2]; exact fin h4 h3⟩
            | exit i => exact hk.elim
            | ret =>
              rcases iM with ⟨i, h⟩ | ⟨v', h1, h2, h3, h4⟩
              · cases h
              · exact ⟨hd, v', h1, v', rfl, by rw [h2]; exact fin h4 h3⟩
          · exact h.elim
      · exact bN.elim
    · exact bN.elim
  · exact bN.elim
end
end Go.SX
/- slices.Delete on a row that the caller owns: the rule, and what a walk of its body must show. No condition. -/
namespace Go.SX
open Go.RowKit Go.Lib
set_option linter.unusedVariables false
set_option linter.unusedSimpArgs false
variable {P : Program}
theorem H4(w:World)(t e ty:TypeId)(z:Value)(ht:P.underlying t=some (.slice e))(hv:∀ w,(zeroValue e).run P w = .ok z w)(h1:∀ u∈z.cells,u.oneCell'=true)(hX:0<z.cells.size)(b o n c:Nat)(hn:0<n)
 (hc:∀ j,j<n*z.cells.size->(w.cell? ⟨b,o+j,none⟩).isSome=true) (hf:∀ j,j<n*z.cells.size->w.frozen? ⟨b,o+j,none⟩=false) :
 (Builtin.clear_ #[t] ty #[.slice (some ⟨b,o,none⟩) n c]).run P w = .ok (.tuple #[]) (w.setCells b o (Builtin.zeroCells z.cells n).toList):=by
 have hl:(Builtin.zeroCells z.cells n).toList.length=n*z.cells.size:=by simp[Builtin.zeroCells]
 have iw:=run_storeCells_cells (P:=P) b o (Builtin.zeroCells z.cells n).toList 0 w (by rw[hl];simpa using hc) (by rw[hl];simpa using hf) (by
  intro v cr
  simp only[Builtin.zeroCells,Array.toList_map,List.mem_map] at cr
  obtain⟨i,_,rfl⟩:=cr
  have:i%z.cells.size<z.cells.size:=Nat.mod_lt _ hX
  rw[getElem!_pos z.cells _ this]
  exact h1 _ (Array.getElem_mem this))
 simp only[Nat.add_zero] at iw
 obtain⟨m,rfl⟩:∃ m,n=m+1:=⟨n-1,by omega⟩
 simp[Builtin.clear_,run_underlying ht,hv,iw]
theorem gG(g:Nat):∀(vs:List Value) (o:Nat) (w:World),(w.setCells g o vs).heap.size=w.heap.size/\(∀ b,b≠g->(w.setCells g o vs).heap[b]? = w.heap[b]?) ∧
 (w.setCells g o vs).os=w.os/\(w.setCells g o vs).tape=w.tape/\(w.setCells g o vs).output=w.output
 | [],_,_=>⟨rfl,fun _ _=>rfl,rfl,rfl,rfl⟩
 | v::r,o,w=>by
   obtain⟨h1,h2,h3,h4,h5⟩:=gG g r (o+1) (w.setCell ⟨g,o,none⟩ v)
   refine⟨h1.trans (World.size_setCell ..),fun b hb=>(h2 b hb).trans ?_,h3,h4,h5⟩
   exact heap_setCell_other w ⟨g,o,none⟩ b v hb
theorem gF(g:Nat)(el:TypeId):∀(vs:List Value) (o:Nat) (w:World) (ak:Array Value),w.heap[g]? = some (.cells ak el (0,0))->o+vs.length<=ak.size →
 ∃ ba,(w.setCells g o vs).heap[g]? = some (.cells ba el (0,0))/\ba.size=ak.size/\∀ k,ba[k]? = if o<=k/\k<o+vs.length then vs[k-o]? else ak[k]?
 | [],o,w,ak,h,_=>⟨ak,h,rfl,fun k=>by rw[if_neg (by rw[List.length_nil];omega)]⟩
 | v::r,o,w,ak,h,hl=>by
   rw[List.length_cons] at hl
   have h1:=heap_setCell_same w g o ak el v h
   obtain⟨ba,k1,k2,k3⟩:=gF g el r (o+1) _ _ h1 (by rw[Array.size_setIfInBounds];omega)
   refine⟨ba,k1,by rw[k2];simp,fun k=>?_⟩
   rw[k3 k,List.length_cons]
   by_cases hk:o=k
   ·subst hk
    rw[if_neg (by omega),if_pos (by omega)]
    rw[Array.getElem?_setIfInBounds_self_of_lt (by omega)];simp
   ·by_cases oZ:o+1<=k/\k<o+1+r.length
    ·rw[if_pos oZ,if_pos (by omega),show k-o=(k-(o+1))+1 by omega]
     simp
    ·rw[if_neg oZ,if_neg (by omega)]
     simp[Array.getElem?_setIfInBounds,hk]
structure aac (P:Program) (f:FuncId) (sz:Nat):Prop where
 same:∀(v:Value) (i:Nat) (w:World),(v = .slice none 0 0/\i=0\/∃ aF n cap,v = .slice (some ⟨aF,0,none⟩) n cap/\n<=cap/\i<=n) →
  Calls P f #[v,.int .i64 i,.int .i64 i] w fun e w'=>e = .returned v/\w'=w
 cut:∀(aF n cap i j:Nat) (news:List Value) (w:World),n<=cap->i<j->j<=n->news.length=(n-j)*sz →
  (∀ t u,news[t]? = some u->w.cell? ⟨aF,j*sz+t,none⟩=some u)->(∀ u∈news,u.oneCell'=true) →
  (∀ t,t<n*sz->(w.cell? ⟨aF,t,none⟩).isSome=true/\w.frozen? ⟨aF,t,none⟩=false) →
  Calls P f #[.slice (some ⟨aF,0,none⟩) n cap,.int .i64 i,.int .i64 j] w fun e w'=>e = .returned (.slice (some ⟨aF,0,none⟩) (i+(n-j)) cap) ∧
   ∃ zs:List Value,zs.length=(n-(i+(n-j)))*sz/\w'=(w.drew.setCells aF (i*sz) news).setCells aF ((i+(n-j))*sz) zs
def xP(e:Ty):cL:=fun ss st K =>
 match ss with
 | [.c (.own m),.c (.val (.int .i64 i)),.c (.val (.int .i64 j))] =>
   match st.an m with
   | .row true e' xs =>
     if e'.cO=e.cO then
      (0<=i/\i<=j/\j<=(xs.length:Nat)) ∧
        K (.c (.own m)) { (st.map (bI m)) with hp:=bP (st.map (bI m)).hp m (.row true e' (xs.take i.toNat++xs.drop j.toNat)) }
     else False
   | _=>False
 | _=>False
theorem ig{w:World}{g:Nat}{ak:Array Value}{el:TypeId}(h:w.heap[g]? = some (.cells ak el (0,0)))(j:Nat):w.cell? ⟨g,j,none⟩=ak[j]? ∧ w.frozen? ⟨g,j,none⟩=false:=by
 constructor
 ·simp[World.cell?,h]
 ·simp[World.frozen?,h]
theorem Wy {f : FuncId} {e : Ty} (D : aac P f e.size) : fS P f (xP e) := by
  intro base M w0 V st ts w ss vs K r hlen nP hr
  unfold xP at hr
  split at hr
  case h_2 => exact hr.elim
  rename_i m i j
  split at hr
  case h_2 => exact hr.elim
  rename_i e' xs hm
  split at hr
  case isFalse => exact hr.elim
  rename_i he
  have W4 : e.size = e'.size := by rw [← b_ e, ← he, b_ e']
  rw [W4] at D
  obtain ⟨⟨qx, Yl, L_⟩, hK⟩ := hr
  obtain ⟨v0, v1, v2, rfl⟩ : ∃ v0 v1 v2, vs = [v0, v1, v2] := by
    match vs, hlen with
    | [a, b, c], _ => exact ⟨a, b, c, rfl⟩
  have k0 := nP 0 _ _ rfl rfl
  have k1 := nP 1 _ _ rfl rfl
  have k2 := nP 2 _ _ rfl rfl
  obtain ⟨rfl, _⟩ := (k1 : v1 = .int .i64 i ∧ _)
  obtain ⟨rfl, _⟩ := (k2 : v2 = .int .i64 j ∧ _)
  obtain ⟨fr0, e9, Y0, AB, ch⟩ := k0
  rw [hm] at AB
  injection AB with q1 q2 q3
  subst q1; subst q2
  have q3 := eq_of_heq q3
  subst q3
  obtain ⟨i, rfl⟩ := Int.eq_ofNat_of_zero_le qx
  obtain ⟨j, rfl⟩ := Int.eq_ofNat_of_zero_le (show 0 ≤ j by omega)
  simp only [Int.toNat_natCast] at hK
  have ahh : i ≤ j := by omega
  have abf : j ≤ xs.length := by omega
  have Ji := r.mem.cE m
  rw [hm] at Ji
  have hl : (st.an m).live = true := by rw [hm]; rfl
  have aT : m < st.hp.length := iJ hl
  have ec : (St.mk (st.map (bI m)).ts (bP (st.map (bI m)).hp m (.row true e' (xs.take i ++ xs.drop j)))).an m = .row true e' (xs.take i ++ xs.drop j) := by
    rw [gZ (by show m < (lmap _ _).length; rw [bS, List.length_map]; exact aT)]
    simp only [aD, if_true]
  have qz : (xs.take i ++ xs.drop j).length = i + (xs.length - j) := by rw [List.length_append, List.length_take, List.length_drop]; omega
  by_cases heq : i = j
  · subst heq
    have iN : xs.take i ++ xs.drop i = xs := List.take_append_drop i xs
    rw [iN] at hK ec
    refine (D.same v0 i w ?_).mono ?_
    · rcases ch with ⟨h1, h2, h3⟩ | ⟨h1, cap, ak, el, h2, h3, h4, h5⟩
      · exact .inl ⟨h2, by omega⟩
      · exact .inr ⟨_, _, _, h2, h5, abf⟩
    · rintro e1 w1 ⟨rfl, rfl⟩
      refine ⟨v0, rfl, V, _, _, hK, ?_, ⟨true, e', xs, ec, ch⟩⟩
      refine rC r hm r.mem.kept (Nat.le_refl _) (fun _ _ _ => rfl) (fun _ _ => ⟨rfl, Iff.rfl⟩) rfl rfl (fun aJ _ => Ji) (fun hh => ?_) (fun _ hh => r.mem.fY m e' xs hm hh) (fun h _ => False.elim h) (fun _ q hq => by cases hq)
      obtain ⟨q1, q2, _⟩ := r.mem.own m hl hh
      exact ⟨q1, q2, .inr ⟨hh, rfl⟩⟩
  · have zk : i < j := by omega
    rcases ch with ⟨h1, h2, h3⟩ | ⟨h1, cap, ak, el, h2, h3, h4, h5⟩
    · omega
    rcases Ji with ⟨g1, _⟩ | ⟨_, dH, jb, g2, g3, g4⟩
    · exact absurd h1 g1
    rw [h3] at g2
    injection g2 with g2
    injection g2 with g2a g2b _
    subst g2a; subst g2b
    have cD : ∀ a, a ≤ xs.length → a * e'.size ≤ ak.size := fun a ha => by rw [h4]; exact Nat.mul_le_mul_right _ (by omega)
    -- the cells that move
    obtain ⟨news, CR⟩ : ∃ news, news = (ak.toList.drop (j * e'.size)).take ((xs.length - j) * e'.size) := ⟨_, rfl⟩
    have hjn : j * e'.size + (xs.length - j) * e'.size = xs.length * e'.size := by rw [← Nat.add_mul]; congr 1; omega
    have nc : news.length = (xs.length - j) * e'.size := by
      have AD : ak.toList.length = ak.size := Array.length_toList
      rw [CR, List.length_take, List.length_drop, AD]
      have := cD xs.length (Nat.le_refl _)
      omega
    have RQ : ∀ t, t < (xs.length - j) * e'.size → news[t]? = ak[j * e'.size + t]? := by
      intro t ht
      rw [CR, List.getElem?_take, if_pos ht, List.getElem?_drop, Array.getElem?_toList]
    have nC : ∀ u ∈ news, u.oneCell' = true := by
      intro u hu
      obtain ⟨t, hu⟩ := List.mem_iff_getElem?.1 hu
      have ht := (List.getElem?_eq_some_iff.1 hu).1
      rw [nc] at ht
      rw [RQ t ht] at hu
      have hX := e'.size_pos
      have hx : j + t / e'.size < xs.length := by
        have := (Nat.div_lt_iff_lt_mul hX).2 ht
        omega
      obtain ⟨es, p1, p2, p3⟩ := g4 (j + t / e'.size) hx
      have xk : t % e'.size < es.length := by rw [p1]; exact Nat.mod_lt _ hX
      have := p2 (t % e'.size) _ (List.getElem?_eq_getElem xk)
      rw [show (j + t / e'.size) * e'.size + t % e'.size = j * e'.size + t by rw [Nat.add_mul, Nat.add_assoc, Nat.div_add_mod']] at this
      rw [this] at hu
      injection hu with hu
      subst hu
      exact p3.dA _ (List.getElem_mem xk)
    rw [h2]
    refine (D.cut (V.aF m) xs.length cap i j news w h5 zk abf nc (fun t u hu => ?_) nC (fun t ht => ?_)).mono ?_
    · have ht := (List.getElem?_eq_some_iff.1 hu).1
      rw [nc] at ht
      rw [(ig h3 _).1, ← RQ t ht]; exact hu
    · have := cD xs.length (Nat.le_refl _)
      refine ⟨?_, (ig h3 _).2⟩
      rw [(ig h3 _).1, Array.getElem?_eq_getElem (by omega)]; rfl
    · rintro e1 w1 ⟨rfl, zs, x_, rfl⟩
      have v_ : i * e'.size + news.length ≤ ak.size := by
        rw [nc, ← Nat.add_mul]; exact cD _ (by omega)
      obtain ⟨va, a1, a2, a3⟩ := gF (V.aF m) el news (i * e'.size) w.drew ak h3 v_
      obtain ⟨vb, b1, b2, b3⟩ := gF (V.aF m) el zs ((i + (xs.length - j)) * e'.size) _ va a1 (by rw [x_, a2, ← Nat.add_mul]; exact cD _ (by omega))
      obtain ⟨c1, c2, c3, c4, c5⟩ := gG (V.aF m) news (i * e'.size) w.drew
      obtain ⟨d1, d2, d3, d4, d5⟩ := gG (V.aF m) zs ((i + (xs.length - j)) * e'.size) (w.drew.setCells (V.aF m) (i * e'.size) news)
      have kl : ∀ b, b ≠ V.aF m → ((w.drew.setCells (V.aF m) (i * e'.size) news).setCells (V.aF m) ((i + (xs.length - j)) * e'.size) zs).heap[b]? = w.heap[b]? := fun b hb => (d2 b hb).trans (c2 b hb)
      obtain ⟨o1, o2, o3⟩ := r.mem.own m hl h1
      refine ⟨_, rfl, V, _, _, hK, ?_, ⟨true, e', _, ec, .inr ⟨h1, cap, vb, el, by rw [qz], b1, by rw [b2, a2, h4], by rw [qz]; omega⟩⟩⟩
      refine rC r hm ?_ (by rw [d1, c1]; exact Nat.le_refl _) (fun b _ hb => kl b (hb h1)) (fun _ _ => ⟨rfl, Iff.rfl⟩) rfl rfl (fun aJ _ => ?_) (fun hh => ⟨o1, by rw [d1, c1]; exact o2, .inr ⟨hh, rfl⟩⟩) (fun _ hh => r.mem.fY m e' xs hm hh) (fun h _ => False.elim h) (fun _ q hq => by cases hq)
      · refine ⟨d3.trans (c3.trans r.mem.kept.os), d4.trans (c4.trans r.mem.kept.tape), d5.trans (c5.trans r.mem.kept.output), by rw [d1, c1]; exact r.mem.kept.size, fun b hb hM => ?_, fun b ue Fz hb hM Jk => ?_⟩
        · rw [kl b (fun e => by subst e; rcases o1 with h | h; omega; exact hM h)]
          exact r.mem.kept.block b hb hM
        · obtain ⟨C8, pA, j1, j2⟩ := r.mem.kept.shape b ue Fz hb hM Jk
          by_cases Bs : b = V.aF m
          · subst Bs
            rw [h3] at j1
            injection j1 with j1
            injection j1 with j1 _ _
            subst j1
            exact ⟨vb, el, b1, by rw [b2, a2]; exact j2⟩
          · exact ⟨C8, pA, by rw [kl b Bs]; exact j1, j2⟩
      · refine .inr ⟨h1, vb, el, b1, by rw [qz]; omega, fun x hx => ?_⟩
        rw [qz] at hx
        have Ja : ∀ {f : Bool} {b : Nat}, V.Z f b → ((w.drew.setCells (V.aF m) (i * e'.size) news).setCells (V.aF m) ((i + (xs.length - j)) * e'.size) zs).heap[b]? = w.heap[b]? := fun hb => kl _ (fun e => by subst e; exact o3 (Vl.db hb))
        have KW : ∀ k, k < e'.size → vb[x * e'.size + k]? = ak[(if x < i then x else x + (j - i)) * e'.size + k]? := by
          intro k hk
          have hxb : x * e'.size + k < (i + (xs.length - j)) * e'.size := by
            have : (x + 1) * e'.size ≤ (i + (xs.length - j)) * e'.size := Nat.mul_le_mul_right _ (by omega)
            rw [Nat.add_mul, Nat.one_mul] at this
            omega
          rw [b3, if_neg (by omega), a3]
          by_cases Mq : x < i
          · have : (x + 1) * e'.size ≤ i * e'.size := Nat.mul_le_mul_right _ (by omega)
            rw [Nat.add_mul, Nat.one_mul] at this
            rw [if_neg (by omega), if_pos Mq]
          · have h6 : i * e'.size ≤ x * e'.size := Nat.mul_le_mul_right _ (by omega)
            have h7 : (i + (xs.length - j)) * e'.size = i * e'.size + news.length := by rw [nc, Nat.add_mul]
            rw [if_pos (by omega), if_neg Mq, RQ _ (by omega)]
            congr 1
            rw [show x + (j - i) = j + (x - i) by omega, Nat.add_mul, show x * e'.size = i * e'.size + (x - i) * e'.size by rw [← Nat.add_mul]; congr 1; omega]
            omega
        obtain ⟨es, p1, p2, p3⟩ := g4 (if x < i then x else x + (j - i)) (by split <;> omega)
        refine ⟨es, p1, fun k u hu => ?_, ?_⟩
        · have hk := (List.getElem?_eq_some_iff.1 hu).1
          rw [KW k (by omega)]
          exact p2 k u hu
        · have UB : (xs.take i ++ xs.drop j)[x]'(by omega) = xs[if x < i then x else x + (j - i)]'(by split <;> omega) := by
            rw [List.getElem_append]
            by_cases Mq : x < i
            · simp only [List.length_take, Mq]
              rw [dif_pos (by omega)]
              simp
            · rw [dif_neg (by rw [List.length_take]; omega)]
              simp only [List.getElem_drop, Mq, if_false]
              congr 1
              rw [List.length_take]
              omega
          rw [UB]
          exact p3.mono (fun b hb => hb) (fun b hb => Ja hb)
end Go.SX
/- A function that cuts places off the end of a row that its caller owns: the rule, and what is owed of its code. No condition. -/
namespace Go.SX
open Go.RowKit
set_option linter.unusedVariables false
set_option linter.unusedSimpArgs false
structure CC where
 e:Ty
 F:List e.den->Nat
def mP(e:Ty)(xs:List e.den)(ntmps:Nat):St:={ ts:=.c (.pre 0 xs.length)::kW .fh (ntmps-1),hp:=[.row false e xs] }
def Cy(T:cC)(fn:Func)(e:Ty)(xs:List e.den)(h:Nat)(ex:Ex)(st:St):Prop :=
 match ex with
 | .exit _=>False
 | _ =>
   match sL T st fn.results.toList with
   | some [.c (.pre 0 k)]=>k=h/\(match st.an 0 with | .row false e' ys=>(if hh:e'=e then cA hh ys=xs else False)|_=>False)
   | _=>False
def G5(T:cC)(Γ:FuncId->Option PC)(R:FuncId->Option cL)(fn:Func)(cc:CC)(A:List cc.e.den->Nat->Option bg):Prop :=
 match fn.body with
 | some code=>∀ xs,(Ty.sl cc.e).wf xs->vc T Γ R code (A xs) (mP cc.e xs fn.ntmps) fun e _ st=>Cy T fn cc.e xs (cc.F xs) e st
 | none=>False
def mW(cc:CC):cL:=fun ss st K =>
 match ss with
 | [.c (.own m)] =>
   match st.an m with
   | .row true e' xs=>if h:e'=cc.e then K (.c (.own m)) { (st.map (bI m)) with hp:=bP (st.map (bI m)).hp m (.row true cc.e ((cA h xs).take (cc.F (cA h xs)))) } else False
   | _=>False
 | [.c (.pre m k)] =>
   match st.an m with
   | .row true e' xs=>if h:e'=cc.e then K (.c (.own m)) { (st.map (bI m)) with hp:=bP (st.map (bI m)).hp m (.row true cc.e (((cA h xs).take k).take (cc.F ((cA h xs).take k)))) } else False
   | _=>False
 | _=>False
section
variable {P : Program} {T : cC} {Γ : FuncId → Option PC} {R : FuncId → Option cL} {base : Nat} {M : LM} {w0 : World} {V : Vl} {hp : Nat → az} {w w' : World}
theorem Lr(hm:P.follows .mixedOrders=true)(hT:cv P T)(hΓ:eI P Γ)(hR:cV P R){f:FuncId}{fn:Func}(hf:P.funcs[f]? = some fn){cc:CC}{A:List cc.e.den->Nat->Option bg}
 (hl:cc.e.flat=true) (h:G5 T Γ R fn cc A) {st:St} {ts:Array Value} (r:Rel base M w0 V st ts w) {m k:Nat} {xs:List cc.e.den} {v:Value} {K:S->St->Prop}
 (wc:st.an m = .row true cc.e xs) (hk:k<=xs.length) (ch:du V w m cc.e k v)
 (hK:K (.c (.own m)) { (st.map (bI m)) with hp:=bP (st.map (bI m)).hp m (.row true cc.e ((xs.take k).take (cc.F (xs.take k)))) }) :
 Calls P f #[v] w fun e w'=>∃ v,e = .returned v/\∃ V' s aV,K s aV/\Rel base M w0 V' aV ts w'/\S.ok V' aV.an w' s v:=by
 have mm:=r.mem
 have de:(st.an m).live=true:=by rw[wc];rfl
 have aT:m<st.hp.length:=iJ de
 unfold G5 at h
 split at h
 case h_2=>exact h.elim
 rename_i code hb
 generalize iP:xs.take k=zs at hK
 have x_:zs.length=k:=by rw[<-iP,List.length_take];omega
 have WX:=mm.cE m
 rw[wc] at WX
 have F5:(Ty.sl cc.e).wf zs:=by
  rcases WX with ⟨_,hx⟩|⟨_,ak,el,_,q1,q2⟩
  ·have:zs=[]:=by rw[<-iP,hx];simp
   rw[this]
   exact⟨Nat.zero_le _,fun x hx=>by cases hx⟩
  ·refine⟨by rw[x_];omega,fun x hx=>?_⟩
   rw[<-iP] at hx
   obtain⟨i,hi,rfl⟩:=List.getElem_of_mem (List.mem_of_mem_take hx)
   obtain⟨es,_,_,q3⟩:=q2 i hi
   exact q3.wf
 have Mo:=h zs F5
 let V0:Vl:=⟨fun _=>V.aF m,fun j=>j=0/\V.has m,fun _=>False,fun _=>False⟩
 let M0:LM:=⟨fun b=>V.has m/\b=V.aF m,fun b j=>j=0/\V.has m/\b=V.aF m,fun _=>True,fun _ _=>trivial,fun _=>False⟩
 have ec:∀ j,(mP cc.e zs fn.ntmps).an j=if j=0 then .row false cc.e zs else .dead:=by
  intro j
  cases j with
  | zero=>rfl
  | succ j=>rfl
 have h0:(mP cc.e zs fn.ntmps).an 0 = .row false cc.e zs:=rfl
 have eZ:∀ j,j≠0->(mP cc.e zs fn.ntmps).an j = .dead:=fun j hj=>by rw[ec,if_neg hj]
 have o0:∀ j,((mP cc.e zs fn.ntmps).an j).live=true->j=0:=by
  intro j hj
  by_cases e:j=0
  ·exact e
  ·rw[eZ j e] at hj;cases hj
 have zw:Mem w.heap.size M0 w V0 (mP cc.e zs fn.ntmps).an w:=by
  refine⟨fun j=>?_,fun j cs hj=>?_,fun j hj hh=>?_,fun j e ys hj=>?_,fun j j' hj lr _ _ _=>?_,fun b h=>h.elim,fun b h=>h.elim,⟨rfl,rfl,rfl,Nat.le_refl _,fun _ _ _=>rfl,fun b v2 e2 _ _ sA=>⟨v2,e2,sA,rfl⟩⟩,fun j hj hh=>?_,fun b hb=>hb.elim,fun j hh q hq=>?_⟩
  ·by_cases e:j=0
   ·subst e
    rw[h0]
    rcases WX with ⟨a1,a2⟩|⟨a1,ak,el,a2,a3,a4⟩
    ·exact .inl ⟨fun hh=>a1 hh.2,by rw[<-iP,a2];simp⟩
    ·refine .inr ⟨⟨rfl,a1⟩,ak,el,a2,by rw[x_];omega,fun i hi=>?_⟩
     obtain⟨es,b1,b2,b3⟩:=a4 i (by omega)
     refine⟨es,b1,b2,?_⟩
     have:zs[i]=xs[i]'(by omega):=by subst iP;rw[List.getElem_take]
     rw[this]
     exact b3.flat hl
   ·rw[eZ j e];trivial
  ·by_cases e:j=0
   ·subst e;rw[h0] at hj;cases hj
   ·rw[eZ j e] at hj;cases hj
  ·refine⟨.inr ⟨hh.2,rfl⟩,(mm.own m de hh.2).2.1,fun hz=>?_⟩
   rcases hz with hz|⟨_,hz⟩<;>exact hz
  ·by_cases e:j=0
   ·subst e;rw[h0] at hj;injection hj with q;cases q
   ·rw[eZ j e] at hj;cases hj
  ·rw[o0 j hj,o0 j' lr]
  ·by_cases e:j=0
   ·exact⟨e,hh.2,rfl⟩
   ·rw[eZ j e] at hj;exact hj.elim
  ·by_cases e:j=0
   ·subst e;rw[h0,wk hl] at hq;cases hq
   ·rw[eZ j e] at hq;cases hq
 have Ml:C.ok V0 (mP cc.e zs fn.ntmps).an w (.pre 0 zs.length) v:=by
  refine⟨false,cc.e,zs,h0,Nat.le_refl _,?_⟩
  rw[x_]
  rcases ch with ⟨a1,a2,a3⟩|⟨a1,cap,ak,el,a2,a3,a4,a5⟩
  ·exact .inl ⟨fun hh=>a1 hh.2,a2,a3⟩
  ·exact .inr ⟨⟨rfl,a1⟩,cap,ak,el,a2,a3,a4,a5⟩
 have EJ:Sat w.heap.size M0 w (mP cc.e zs fn.ntmps) { tmps := #[v]++Array.replicate (fn.ntmps-1) undef,defers:=[] } w:=by
  refine⟨rfl,V0,⟨?_,fun i s' v' bb cr=>?_,zw⟩⟩
  ·show (.c _::kW S.fh (fn.ntmps-1)).length=_
   rw[iG];simp;omega
  ·have bb:(S.c (.pre 0 zs.length)::kW S.fh (fn.ntmps-1))[i]? = some s':=bb
   have cr:([v]++List.replicate (fn.ntmps-1) undef)[i]? = some v':=by
    rw[<-cr]
    simp only[Array.getElem?_append,List.getElem?_append,List.getElem?_toArray,List.size_toArray,Array.getElem?_replicate,List.getElem?_replicate]
   cases i with
   | zero =>
     simp only[List.getElem?_cons_zero,Option.some.injEq,List.cons_append] at bb cr
     subst bb;subst cr;exact Ml
   | succ i =>
     simp only[List.getElem?_cons_succ,List.cons_append,List.nil_append,iG,List.getElem?_replicate] at bb cr
     split at bb
     ·rename_i hi
      injection bb with bb;subst bb
      rw[if_pos hi] at cr
      injection cr with cr;exact cr.symm
     ·cases bb
 refine calls_of_wp (args := #[v]) hf hb (C_ hm hT hΓ hR code (A zs) _ _ _ _ w EJ Mo (fun e A' aV a' w' iM bb=>?_))
 obtain⟨hd,V1,r1⟩:=bb
 have m1:=r1.mem
 have key:Cy T fn cc.e zs (cc.F zs) e aV->(∃ i,e = .exit i)\/∃ v',(results fn a'.tmps).run P w' = .ok v' w'/\C.ok V1 aV.an w' (.pre 0 (cc.F zs)) v'/\aV.an 0 = .row false cc.e zs:=by
  intro hp
  unfold Cy at hp
  split at hp
  ·exact hp.elim
  ·right
   split at hp
   ·rename_i kk nP
    obtain⟨et,je⟩:=hp
    subst et
    obtain⟨vs,e1,e2,e3⟩:=la hT r1 nP
    split at je
    ·rename_i e' ys hy
     split at je
     ·rename_i he
      subst he
      have je:ys=zs:=je
      subst je
      match vs,e1 with
      | [x],_=>exact⟨_,lM e3,e2 0 _ x rfl rfl,hy⟩
     ·exact je.elim
    ·exact je.elim
   ·exact hp.elim
 have fin:∀ v',C.ok V1 aV.an w' (.pre 0 (cc.F zs)) v'->aV.an 0 = .row false cc.e zs->∃ V' s EP,K s EP/\Rel base M w0 V' EP ts w'/\S.ok V' EP.an w' s v':=by
  intro v' hv hz
  obtain⟨Bo,e1,xs1,p1,p2,p3⟩:=hv
  rw[hz] at p1
  injection p1 with q1 q2 q3
  subst q1;subst q2;cases q3
  have aaP:=m1.cE 0
  rw[hz] at aaP
  have Mf:V1.has 0->V.has m/\V1.aF 0=V.aF m:=fun hh=>(m1.jO 0 (by rw[hz];show (cc.e.flat||cc.e.bQ)=true;rw[hl];rfl) hh).2
  let V':Vl:=⟨V.aF,fun n=>if n=m then V1.has 0 else V.has n,V.Z0,V.Z1⟩
  have Qu:V'.has m↔V1.has 0:=by show (if m=m then _ else _)↔_;rw[if_pos rfl]
  have KV:V.has m->base<=V.aF m:=fun hh=>mm.fY m _ _ wc hh
  obtain⟨o1,o2⟩:(V.has m->V.aF m<w.heap.size)/\(V.has m->¬V.Z false (V.aF m)):=⟨fun hh=>(mm.own m de hh).2.1,fun hh=>(mm.own m de hh).2.2⟩
  have kl:∀ b,b<w.heap.size->(V.has m->b≠V.aF m)->w'.heap[b]? = w.heap[b]? := fun b fO bo=>m1.kept.block b fO (fun hM=>bo hM.1 hM.2)
  have acT:(St.mk (st.map (bI m)).ts (bP (st.map (bI m)).hp m (.row true cc.e (zs.take (cc.F zs))))).an m = .row true cc.e (zs.take (cc.F zs)):=by
   rw[gZ (by show m<(lmap _ _).length;rw[bS,List.length_map];exact aT)]
   simp only[aD,if_true]
  have gK:(zs.take (cc.F zs)).length=cc.F zs:=by rw[List.length_take];omega
  refine⟨V',_,_,hK,?_,⟨true,cc.e,_,acT,?_⟩⟩
  ·refine rC r wc ?_ m1.kept.size kl (fun n hn=>⟨rfl,by show (if n=m then _ else _)↔_;rw[if_neg hn]⟩) rfl rfl (fun aJ _=>?_) (fun hh=>?_) (fun _ hh=>?_) (fun h _=>False.elim h) (fun _ q hq=>by cases hq)
   ·refine⟨m1.kept.os.trans mm.kept.os,m1.kept.tape.trans mm.kept.tape,m1.kept.output.trans mm.kept.output,Nat.le_trans mm.kept.size m1.kept.size,fun b fO hM=>?_,fun b ak el fO hM Jk=>?_⟩
    ·rw[kl b (Nat.lt_of_lt_of_le fO mm.kept.size) (fun hh e=>by have:=KV hh;omega)]
     exact mm.kept.block b fO hM
    ·obtain⟨v3,e3,j1,j2⟩:=mm.kept.shape b ak el fO hM Jk
     refine⟨v3,e3,?_,j2⟩
     rw[kl b (Nat.lt_of_lt_of_le fO mm.kept.size) (fun hh e=>by have:=KV hh;omega)]
     exact j1
   ·rcases aaP with ⟨a1,a2⟩|⟨a1,ak,el,a2,a3,a4⟩
    ·exact .inl ⟨fun hh=>a1 (Qu.1 hh),by rw[a2];simp⟩
    ·refine .inr ⟨Qu.2 a1,ak,el,by show w'.heap[V.aF m]? = _;rw[<-(Mf a1).2];exact a2,by rw[gK];omega,fun i hi=>?_⟩
     obtain⟨es,b1,b2,b3⟩:=a4 i (by omega)
     refine⟨es,b1,b2,?_⟩
     rw[List.getElem_take]
     exact b3.flat hl
   ·have L7:=Mf (Qu.1 hh)
    have:=o1 L7.1
    have cD:=m1.kept.size
    exact⟨.inl (KV L7.1),by show V.aF m<_;omega,.inr ⟨L7.1,rfl⟩⟩
   ·exact KV (Mf (Qu.1 hh)).1
  ·rw[gK]
   rcases p3 with ⟨a1,a2,a3⟩|⟨a1,cap,ak,el,a2,a3,a4,a5⟩
   ·exact .inl ⟨fun hh=>a1 (Qu.1 hh),a2,a3⟩
   ·refine .inr ⟨Qu.2 a1,cap,ak,el,?_,?_,a4,a5⟩
    ·rw[a2,(Mf a1).2]
    ·show w'.heap[V.aF m]? = _
     rw[<-(Mf a1).2];exact a3
 have abh:=key iM
 cases e with
 | normal =>
   rcases abh with ⟨i,h⟩|⟨v',h1,h2,h3⟩
   ·cases h
   ·exact⟨hd,v',h1,v',rfl,fin v' h2 h3⟩
 | exit i=>exact iM.elim
 | ret =>
   rcases abh with ⟨i,h⟩|⟨v',h1,h2,h3⟩
   ·cases h
   ·exact⟨hd,v',h1,v',rfl,fin v' h2 h3⟩
theorem Tx(hm:P.follows .mixedOrders=true)(hT:cv P T)(hΓ:eI P Γ)(hR:cV P R){f:FuncId}{fn:Func}(hf:P.funcs[f]? = some fn){cc:CC}{A:List cc.e.den->Nat->Option bg}
 (hl:cc.e.flat=true) (h:G5 T Γ R fn cc A):fS P f (mW cc):=by
 intro base M w0 V st ts w ss vs K r hlen gT bN
 unfold mW at bN
 split at bN
 ·rename_i m
  split at bN
  ·rename_i e' xs wc
   split at bN
   ·rename_i he
    subst he
    match vs,hlen with
    | [v],_ =>
      obtain⟨nN,e2,ic,q1,q2⟩:=gT 0 _ v rfl rfl
      rw[wc] at q1
      injection q1 with g1 g2 g3
      subst g1;subst g2;cases g3
      refine Lr hm hT hΓ hR hf hl h r wc (Nat.le_refl _) q2 ?_
      rw[List.take_length]
      exact bN
   ·exact bN.elim
  ·exact bN.elim
 ·rename_i m k
  split at bN
  ·rename_i e' xs wc
   split at bN
   ·rename_i he
    subst he
    match vs,hlen with
    | [v],_ =>
      obtain⟨nN,e2,ic,q1,q2,q3⟩:=gT 0 _ v rfl rfl
      rw[wc] at q1
      injection q1 with g1 g2 g3
      subst g1;subst g2;cases g3
      exact Lr hm hT hΓ hR hf hl h r wc q2 q3 bN
   ·exact bN.elim
  ·exact bN.elim
 ·exact bN.elim
end
end Go.SX
/- Functions that write the box behind their first argument, or hand back the address of a new one. No condition. -/
namespace Go.SX
open Go.RowKit
set_option linter.unusedVariables false
set_option linter.unusedSimpArgs false
structure BC where
 t:Ty
 ts:List Ty
 rs:List Ty
 pre:t.den->cj ts->Prop
 F:t.den->cj ts->cj rs
 G:t.den->cj ts->t.den
 drop:Bool
structure NC where
 t:Ty
 ts:List Ty
 rs:List Ty
 pre:cj ts->Prop
 F:cj ts->cj rs
 G:cj ts->t.den
section
variable {P : Program} {T : cC} {Γ : FuncId → Option PC} {R : FuncId → Option cL} {base : Nat} {M : LM} {w0 : World} {V : Vl} {hp : Nat → az} {w w' : World}
theorem RJ(m:Mem base M w0 V hp w){nx:Nat}{rs:List Ty}{d:cj rs}{Z1:Nat->Prop}{bs:List (Option Nat)}{vs:List Value}(h1:fu Z1 w' rs vs d bs)(h2:(bs.filterMap id).Nodup)
 (h3:∀ b,some b∈bs->w.heap.size<=b/\b<w'.heap.size/\¬Z1 b) (h4:∀ b,Z1 b->w.heap.size<=b/\b<w'.heap.size) (hk:Kept w.heap.size wv w w') (hd:∀ j,j<(dt rs d nx).2.length->hp (nx+j) = .dead) :
 Good base M w0 V hp w nx (dt rs d nx).1 (dt rs d nx).2 (Et rs d) (qf vs) w' (V.ext nx bs Z1):=by
 have hlen:=FK nx h1
 have x:=VX.uu m hk (nx:=nx) (es:=(dt rs d nx).2) (bs:=bs) (Z:=Z1) hlen.symm hd
 have hl:pk (V.ext nx bs Z1) (ey hp nx (dt rs d nx).2) Z1 nx (dt rs d nx).2 bs:=⟨fun j b hb=>Vl.lD hb,fun j b hb=>Vl.nG hb,fun j e he=>sx he,fun b hb=>.inr hb⟩
 obtain⟨g1,g2⟩:=I6 h1 hl
 refine⟨m.grow hk hlen.symm hd h2 h3 h4 (fun j cs hj=>?_) (fun j e he=>g2 j e he) (DC rs d nx),x,g1,fun p aJ=>?_⟩
 ·exact (FL rs d nx _ (List.mem_of_getElem? hj) cs rfl).elim
 ·unfold Et at aJ
  split at aJ
  ·injection aJ with aJ;subst aJ;exact qh h1
  ·cases aJ
structure ag9 (w w':World) (B n:Nat) (Z:Nat->Prop) (t:Ty) (rs:List Ty) (v:Value) (out:cj rs) (g:t.den):Prop where
 ex:∃(Z1:Nat->Prop) (bs:List (Option Nat)) (vs:List Value),v=qf vs/\fu Z1 w' rs vs out bs/\(bs.filterMap id).Nodup ∧
  (∀ b,some b∈bs->w.heap.size<=b/\b<w'.heap.size/\¬Z1 b)/\(∀ b,Z1 b->w.heap.size<=b/\b<w'.heap.size) ∧
  ∃ ba dC,w'.heap[B]? = some (.cells ba dC (0,0))/\ba.size=n/\aI (fun b=>Z b\/Z1 b) w' t ba.toList g
 os:w'.os=w.os/\w'.tape=w.tape/\w'.output=w.output
 size:w.heap.size<=w'.heap.size
 block:∀ b,b<w.heap.size->b≠B->w'.heap[b]? = w.heap[b]?
end
end Go.SX
/- Functions that write the box behind their first argument: the rule. No condition. -/
namespace Go.SX
open Go.RowKit
set_option linter.unusedVariables false
set_option linter.unusedSimpArgs false
section
variable {P : Program} {T : cC} {Γ : FuncId → Option PC} {R : FuncId → Option cL} {base : Nat} {M : LM} {w0 : World} {V : Vl} {hp : Nat → az} {w w' : World}
end
end Go.SX
/- Functions that hand back the address of a new box: the rule. No condition. -/
namespace Go.SX
open Go.RowKit
set_option linter.unusedVariables false
set_option linter.unusedSimpArgs false
section
variable {P : Program} {T : cC} {Γ : FuncId → Option PC} {R : FuncId → Option cL} {base : Nat} {M : LM} {w0 : World} {V : Vl} {hp : Nat → az} {w w' : World}
structure ag_ (w w':World) (Z:Nat->Prop) (t:Ty) (rs:List Ty) (v:Value) (out:cj rs) (g:t.den):Prop where
 ex:∃(B:Nat) (Z1:Nat->Prop) (bs:List (Option Nat)) (vs:List Value),v=qf (.pointer (some ⟨B,0,none⟩)::vs)/\fu Z1 w' rs vs out bs/\((some B::bs).filterMap id).Nodup ∧
  (∀ b,some b∈some B::bs->w.heap.size<=b/\b<w'.heap.size/\¬Z1 b)/\(∀ b,Z1 b->w.heap.size<=b/\b<w'.heap.size) ∧
  ∃ ba dC,w'.heap[B]? = some (.cells ba dC (0,0))/\aI (fun b=>Z b\/Z1 b) w' t ba.toList g
 kept:Kept w.heap.size wv w w'
end
end Go.SX
