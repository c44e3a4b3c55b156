/- A verified symbolic executor and its contracts (part SxH). No condition. -/
import Derived.Test.YtbnplfhajafhmaaGreatSxG
import Derived.Lib.Overlaps
import Derived.Lib.AppendZerosOnto
import Derived.Laws.Externs
import Derived.Laws.NewBlocks
import Derived.OwnWalk
set_option linter.unusedVariables false
set_option linter.unusedSimpArgs false
open Go.IntKind (i64 u8)
/- Functions whose results' blocks are told. No condition. -/
namespace Go.SX
open Go.RowKit
set_option linter.unusedVariables false
set_option linter.unusedSimpArgs false
def sN:List Ty->List Ty
 | []=>[]
 | t::r=>t.cc::sN r
def nf:(ts:List Ty)->aY ts->aY (sN ts)
 | [],_=>()
 | [t],d=>bu t d
 | t::u::r,d=>(bu t d.1,nf (u::r) d.2)
def j6:(ts:List Ty)->aY ts->List Nat
 | [],_=>[]
 | [t],d=>ids t d
 | t::u::r,d=>ids t d.1++j6 (u::r) d.2
structure TC where
 ts:List Ty
 eo:List Ty
 nd:Bool
 pre:aY ts->Prop
 F:aY ts->aY (sN eo)
def Ck(T:bN)(fn:Func)(nd:Bool)(eo:List Ty)(out:aY (sN eo))(e:Ex)(st:St):Prop :=
 match e with
 | .exit _=>False
 | _ =>
   match lh T st fn.results.toList with
   | some ss =>
     match pd st.au eo ss with
     | some (r,ns)=>if pb ns then (match nd with|true=>nf eo r=out/\(j6 eo r).Nodup|false=>nf eo r=out) else False
     | none=>False
   | none=>False
def nh(T:bN)(Γ:FuncId->Option PC)(R:FuncId->Option bW)(fn:Func)(c:TC)(A:aY c.ts->Nat->Option bq):Prop :=
 match fn.body with
 | some code=>∀ d,gB c.ts d->c.pre d->vc T Γ R code (A d) (St.start c.ts d fn.ntmps) fun e _ st=>Ck T fn c.nd c.eo (c.F d) e st
 | none=>False
def sP(P:Program)(f:FuncId)(c:TC):Prop :=
 ∀(w:World) (args:List Value) (d:aY c.ts),cG gH w c.ts args d->c.pre d →
  Calls P f args.toArray w fun e w'=>∃ v,e = .returned v/\∃ r:aY c.eo,nf c.eo r=c.F d/\(c.nd=true->(j6 c.eo r).Nodup)/\oD w w' c.eo v r
def oC(l k:List Nat):Prop:=∀ i∈l,i ∉ k
def C.apart(l:List Nat):C->Option Prop
 | .rg _ wh e b xs=>some (oC l (ids (.gs wh e) (b,xs)))
 | .rd _ e xs=>if e.bU then some (oC l (bV e xs)) else none
 | .at_ _ t d _=>if t.bU then some (oC l (ids t d)) else none
 | _=>none
def xg(l:List Nat):List C->Option Prop
 | []=>none
 | c::r=>eM (c.apart l) (xg l r)
def ax.apart(l:List Nat):ax->Option Prop
 | .row _ e xs=>if e.bU then some (oC l (bV e xs)) else none
 | .bx cs=>xg l cs
 | .dead=>none
def xu(l:List Nat):List ax->Option Prop
 | []=>none
 | e::r=>eM (e.apart l) (xu l r)
def qx(l:List Nat):List S->Option Prop
 | []=>none
 | .c x::r=>eM (x.apart l) (qx l r)
 | .agg cs::r=>eM (xg l cs) (qx l r)
 | _::r=>qx l r
def Ty.tell:Ty->Ty
 | .sl e=>.gs false e.tell
 | .st t=>.st t.tell
 | .pr a b=>.pr a.tell b.tell
 | t=>t
def Ty.dZ:Ty->Bool
 | .gs wh e=>!wh&&e.dZ
 | .sl e=>e.dZ
 | .st t=>t.dZ
 | .pr a b=>a.dZ&&b.dZ
 | _=>true
def kG(nm:Nat):List ax->St->(St->Prop)->Prop
 | [],st,K=>K st
 | .row true e xs::r,st,K =>
   if !e.flat&&!e.bU&&e.tell.dZ then
    (if h:e.tell.cc=e then ∀ a_:List e.tell.den,eW h (gG e.tell a_)=xs->kG (nm+1) r { st with hp:=bD st.hp nm (.row true e.tell a_) } K else kG (nm+1) r st K)
   else kG (nm+1) r st K
 | .row false _ _::r,st,K=>kG (nm+1) r st K
 | .bx _::r,st,K=>kG (nm+1) r st K
 | .dead::r,st,K=>kG (nm+1) r st K
def fN(c:TC):bW:=fun ss st K=>kG 0 st.hp st fun st =>
 match dP st.au c.ts ss with
 | some d=>c.pre d/\∀ r:aY c.eo,nf c.eo r=c.F d->(if c.nd then (j6 c.eo r).Nodup else True)->gB c.eo r->cT (eM (xu (j6 c.eo r) st.hp) (qx (j6 c.eo r) st.ts)) →
    K (bR c.eo r (aL st.hp)).1 (st.alloc (bR c.eo r (aL st.hp)).2)
 | none=>False
def Ty.wx:Ty->Bool
 | .gs _ _=>false
 | .st t=>t.wx
 | .pr a b=>a.wx&&b.wx
 | _=>true
section
variable {P : Program} {T : bN} {Γ : FuncId → Option PC} {R : FuncId → Option bW} {base : Nat} {M : LM} {w0 : World} {V : Vl} {hp : Nat → ax} {w w' : World}
theorem Sb{l:List Nat}(m:Mem base M w0 V hp w)(hl:∀ i∈l,w.heap.size<=i):∀ i∈l,¬V.Z false i:=fun i hi hz=>by have:=m.pP hz;have:=hl i hi;omega
theorem C.tQ{l:List Nat}{c:C}{v:Value}(h:C.ok V hp w c v)(hl:∀ i∈l,¬V.Z false i):cT (c.apart l):=by
 unfold C.apart
 split
 ·rename_i fr wh e b xs
  intro i hi hk
  have h':aF (V.Z fr) w (.gs wh e) [v] (b,xs):=h
  exact hl i hi (Vl.cN (aF.iw _ h' _ hk))
 ·rename_i fr e xs
  split
  ·intro i hi hk
   have h':aF (V.Z fr) w (.sl e) [v] xs:=h
   exact hl i hi (Vl.cN (aF.iw (.sl e) h' _ hk))
  ·trivial
 ·rename_i fr t d off
  split
  ·intro i hi hk
   obtain⟨b2,o,_,_,es,_,_,h5⟩:=h
   exact hl i hi (Vl.cN (aF.iw t h5 _ hk))
  ·trivial
 ·trivial
theorem tX{l:List Nat}(hl:∀ i∈l,¬V.Z false i):∀ {cs:List C} {vs:List Value},bz V hp w cs vs->cT (xg l cs)
 | [],_,_=>trivial
 | c::r,vs,h=>by
   obtain⟨v,bO,rfl,h1,h2⟩:=cF h
   exact gh (C.tQ h1 hl) (tX hl h2)
theorem ax.tQ{l:List Nat}{e:ax}{n:Nat}(h:e.ok V hp w n)(hl:∀ i∈l,¬V.Z false i):cT (e.apart l):=by
 cases e with
 | dead=>trivial
 | bx cs=>obtain⟨aq,el,_,h2⟩:=h;exact tX hl h2
 | row fr e xs =>
   unfold ax.apart
   simp only
   split
   ·intro i hi hk
    rcases h with ⟨_,h2⟩|⟨_,aq,el,_,_,h4⟩
    ·rw[h2] at hk;cases hk
    ·refine hl i hi (Vl.cN (tp (Z:=V.Z fr) (w:=w) (fun i hi=>by obtain⟨es,_,_,h6⟩:=h4 i hi;exact⟨es,h6⟩) _ hk))
   ·trivial
theorem Jx{st:St}{ts:Array Value}(r:Rel base M w0 V st ts w){l:List Nat}(hl:∀ i∈l,¬V.Z false i):cT (xu l st.hp):=by
 have key:∀(k:List ax),(∀ e∈k,∃ n,e.ok V st.au w n)->cT (xu l k):=by
  intro k
  induction k with
  | nil=>intro _;trivial
  | cons e k ih =>
    intro h
    obtain⟨n,hn⟩:=h e (List.mem_cons_self ..)
    exact gh (ax.tQ hn hl) (ih (fun e' fk=>h e' (List.mem_cons_of_mem _ fk)))
 refine key st.hp (fun e he=>?_)
 obtain⟨n,hn,rfl⟩:=List.getElem_of_mem he
 refine⟨n,?_⟩
 have:=r.mem.ck n
 have e1:st.au n=st.hp[n]:=by
  show nth .dead st.hp n=_
  rw[cB,List.getElem?_eq_getElem hn];rfl
 rw[e1] at this
 exact this
theorem A_{hp:Nat->ax}{l:List Nat}(hl:∀ i∈l,¬V.Z false i):∀ {k:List S},(∀ s∈k,∃ v,S.ok V hp w s v)->cT (qx l k)
 | [],_=>trivial
 | s::r,h=>by
   have ih:=A_ hl (k:=r) (fun s' aW=>h s' (List.mem_cons_of_mem _ aW))
   obtain⟨v,hv⟩:=h s (List.mem_cons_self ..)
   cases s with
   | c x=>exact gh (C.tQ hv hl) ih
   | agg cs=>obtain⟨vs,_,h2⟩:=hv;exact gh (tX hl h2) ih
   | m_ vs=>exact ih
   | ew=>exact ih
   | any=>exact ih
   | arr e xs=>exact ih
theorem Hw{st:St}{ts:Array Value}(r:Rel base M w0 V st ts w){l:List Nat}(hl:∀ i∈l,¬V.Z false i):cT (qx l st.ts):=by
 refine A_ (w:=w) (hp:=st.au) hl (fun s hs=>?_)
 obtain⟨i,hi,rfl⟩:=List.getElem_of_mem hs
 have c7:i<ts.size:=by rw[<-r.len];exact hi
 exact⟨ts[i],r.fI i _ _ (List.getElem?_eq_getElem hi) (Array.getElem?_eq_getElem c7)⟩
theorem ri{Z:Nat->Prop}:∀ {t:Ty} {cs:List Value} {d:t.den} {bs:List (Option Nat)},fQ Z w t cs d bs->∀ i∈ids t d,Z i
 | .int _,_,_,_,h,i,hi=>by cases hi
 | .bool,_,_,_,h,i,hi=>by cases hi
 | .str,_,_,_,h,i,hi=>by cases hi
 | .sl e,cs,xs,bs,h,i,hi=>by
   rcases h with ⟨_,rfl,_⟩|⟨b,cap,aq,el,_,_,_,_,_,_,h7⟩
   ·cases hi
   ·exact tp (fun j hj=>by obtain⟨es,_,_,k⟩:=h7 j hj;exact⟨es,k⟩) i hi
 | .st t,cs,d,bs,h,i,hi=>ri (t:=t) h i hi
 | .pr a b,cs,d,bs,h,i,hi=>by
   obtain⟨c1,c2,b1,b2,_,_,h1,h2⟩:=h
   rcases List.mem_append.1 hi with hi|hi
   ·exact ri h1 i hi
   ·exact ri h2 i hi
 | .ptr _,_,_,_,h,_,_=>h.elim
 | .bZ _ _,_,_,_,h,_,_=>h.elim
 | .gs _ _,_,_,_,h,_,_=>h.elim
theorem yq{Z:Nat->Prop}:∀ {ts:List Ty} {vs:List Value} {d:aY ts} {bs:List (Option Nat)},dw Z w ts vs d bs->∀ i∈j6 ts d,Z i
 | [],_,_,_,_,i,hi=>by cases hi
 | [t],_,_,_,h,i,hi=>by obtain⟨v,_,cs,_,h2⟩:=h;exact ri h2 i hi
 | t::u::r,_,d,_,h,i,hi=>by
   obtain⟨v,bO,b1,b2,_,_,⟨cs,_,h2⟩,h3⟩:=h
   rcases List.mem_append.1 (show i∈ids t d.1++j6 (u::r) d.2 from hi) with hi|hi
   ·exact ri h2 i hi
   ·exact yq h3 i hi
theorem MM(hm:P.follows .mixedOrders=true)(hT:bP P T)(hΓ:dh P Γ)(hR:cj P R){f:FuncId}{fn:Func}(hf:P.funcs[f]? = some fn){c:TC}{A:aY c.ts->Nat->Option bq}
 (h:nh T Γ R fn c A):sP P f c:=by
 intro w args d hargs dD
 unfold nh at h
 split at h
 ·rename_i code hb
  have hv:=h d (sW hargs) dD
  refine calls_of_wp hf hb (u4 hm hT hΓ hR code (A d) _ _ _ _ w (r_ hargs fn.ntmps) hv (fun e A' aN a' w' hk aW=>?_))
  obtain⟨hd,V,r⟩:=aW
  have key:Ck T fn c.nd c.eo (c.F d) e aN->(∃ i,e = .exit i)\/∃ v,(results fn a'.tmps).run P w' = .ok v w'/\∃ x:aY c.eo,nf c.eo x=c.F d/\(c.nd=true->(j6 c.eo x).Nodup)/\oD w w' c.eo v x:=by
   intro hp
   unfold Ck at hp
   split at hp
   ·exact hp.elim
   ·right
    split at hp
    ·rename_i ss iv
     split at hp
     ·rename_i x ns ho
      split at hp
      ·rename_i gE
       obtain⟨vs,e1,e2,e3⟩:=gU hT r iv
       have aH:nf c.eo x=c.F d/\(c.nd=true->(j6 c.eo x).Nodup):=by
        revert hp
        cases c.nd with
        | true=>exact fun h=>⟨h.1,fun _=>h.2⟩
        | false=>exact fun h=>⟨h,fun h=>by cases h⟩
       refine⟨_,hU e3,x,aH.1,aH.2,?_⟩
       obtain⟨bs,k1,k2,k3⟩:=mb (vs:=vs) r.mem.ck ho e1 e2
       refine⟨⟨V.Z true,bs,_,rfl,k1,by rw[k2];exact kt r.mem (l8 gE) k3,fun b hb=>?_,fun b hb=>?_⟩,r.mem.kept⟩
       ·have et:b∈bs.filterMap id:=List.mem_filterMap.2 ⟨some b,hb,rfl⟩
        rw[k2] at et
        obtain⟨n,h1,h2,rfl⟩:=iQ et
        obtain⟨e,xs,h3⟩:=k3 n h1
        obtain⟨_,h4,h5⟩:=r.mem.own n (by rw[h3];rfl) h2
        exact⟨r.mem.eK n e xs h3 h2,h4,fun hz=>h5 (Vl.cN hz)⟩
       ·rcases hb with hb|⟨hb,_⟩
        ·exact r.mem.z1 b hb
        ·cases hb
      ·exact hp.elim
     ·exact hp.elim
    ·exact hp.elim
  have gS:=key hk
  cases e with
  | normal =>
    rcases gS with ⟨i,h⟩|⟨v,h1,h2⟩
    ·cases h
    ·exact⟨hd,v,h1,v,rfl,h2⟩
  | exit i=>exact hk.elim
  | ret =>
    rcases gS with ⟨i,h⟩|⟨v,h1,h2⟩
    ·cases h
    ·exact⟨hd,v,h1,v,rfl,h2⟩
 ·exact h.elim
theorem build{α:Type}(n:Nat)(p:Nat->α->Prop)(h:∀ i,i<n->∃ x,p i x):∃ xs:List α,xs.length=n/\∀ i (hi:i<xs.length),p i xs[i]:=by
 induction n with
 | zero=>exact⟨[],rfl,fun i hi=>absurd hi (Nat.not_lt_zero _)⟩
 | succ n ih =>
   obtain⟨xs,h1,h2⟩:=ih (fun i hi=>h i (by omega))
   obtain⟨x,hx⟩:=h n (by omega)
   refine⟨xs++[x],by simp[h1],fun i hi=>?_⟩
   rcases Nat.lt_or_ge i xs.length with c7|c7
   ·rw[List.getElem_append_left c7];exact h2 i c7
   ·have:i=n:=by simp at hi;omega
    subst this
    rw[List.getElem_append_right c7]
    simp only[h1,Nat.sub_self,List.getElem_cons_zero]
    exact hx
theorem Gy{Z:Nat->Prop}{e:Ty}(ih:∀ {cs:List Value} {d:e.cc.den},aF Z w e.cc cs d->∃ d':e.den,bu e d'=d/\aF Z w e cs d'){cs:List Value}{d:List e.cc.den}(h:aF Z w (.sl e.cc) cs d) :
 ∃ xs:List e.den,xs.map (bu e)=d/\aF Z w (.sl e) cs xs:=by
 obtain⟨a,cap,h1,h2,h3,h4⟩:=h
 obtain⟨xs,k1,k2⟩:=build d.length (fun i (x:e.den)=>∃ hi:i<d.length,bu e x=d[i]/\∃ ad:Addr,a=some ad/\ad.spot=none/\Z ad.block/\∃ es,es.length=e.size/\lT w ad.block (ad.off+i*e.size) es/\aF Z w e es x) (fun i hi=>by
  obtain⟨ad,e1,e2,e3,es,e4,e5,e6⟩:=h4 i hi
  obtain⟨x,hx,kx⟩:=ih e6
  exact⟨x,hi,hx,ad,e1,e2,e3,es,by rw[<-bJ e];exact e4,by rw[<-bJ e];exact e5,kx⟩)
 refine⟨xs,List.ext_getElem (by simp[k1]) (fun i h1 h2=>?_),a,cap,by rw[k1];exact h1,by rw[k1];exact h2,by rw[k1];exact h3,fun i hi=>?_⟩
 ·rw[List.getElem_map]
  obtain⟨_,hx,_⟩:=k2 i (by simpa using h1)
  exact hx
 ·obtain⟨_,_,hx⟩:=k2 i hi
  exact hx
theorem ou{Z:Nat->Prop}:∀(t:Ty),t.dZ=true->∀ {cs:List Value} {d:t.cc.den},aF Z w t.cc cs d->∃ d':t.den,bu t d'=d/\aF Z w t cs d'
 | .int _,_,_,d,h=>⟨d,rfl,h⟩
 | .bool,_,_,d,h=>⟨d,rfl,h⟩
 | .str,_,_,d,h=>⟨d,rfl,h⟩
 | .ptr _,_,_,d,h=>⟨d,rfl,h⟩
 | .bZ _ _,_,_,d,h=>⟨d,rfl,h⟩
 | .st t,ht,_,d,h=>ou t ht h
 | .pr a b,ht,_,d,h=>by
   have wg:(a.dZ&&b.dZ)=true:=ht
   rw[Bool.and_eq_true] at wg
   obtain⟨c1,c2,h1,h2,h3⟩:=h
   obtain⟨x,hx,kx⟩:=ou a wg.1 h2
   obtain⟨y,hy,ky⟩:=ou b wg.2 h3
   refine⟨(x,y),?_,c1,c2,h1,kx,ky⟩
   show (bu a x,bu b y)=d
   rw[hx,hy];rfl
 | .sl e,ht,cs,d,h=>Gy (fun k=>ou e ht k) h
 | .gs wh e,ht,cs,d,h=>by
   have wg:(!wh&&e.dZ)=true:=ht
   rw[Bool.and_eq_true,Bool.not_eq_true'] at wg
   obtain⟨xs,k1,k2⟩:=Gy (fun k=>ou e wg.2 k) (show aF Z w (.sl e.cc) cs d from h)
   have Lx:=wg.1
   obtain⟨a,cap,h1,h2,h3,h4⟩:=k2
   cases xs with
   | nil =>
     exact⟨(0,[]),k1,⟨a,cap,h1,h2,h3,h4⟩,fun hp=>absurd hp (Nat.lt_irrefl _),fun hw=>by rw[Lx] at hw;cases hw⟩
   | cons x xr =>
     obtain⟨ad,e1,e2,e3,_⟩:=h4 0 (Nat.succ_pos _)
     refine⟨(ad.block,x::xr),k1,⟨a,cap,h1,h2,h3,h4⟩,fun _=>?_,fun hw=>by rw[Lx] at hw;cases hw⟩
     obtain⟨b,o,sp⟩:=ad
     simp only at e2
     subst e2
     exact⟨o,_,cap,by rw[h1,e1]⟩
theorem FQ{Z:Nat->Prop}{e:Ty}(ih:∀ {cs:List Value} {d:e.cc.den},aF Z w e.cc cs d->∃ d':e.den,bu e d'=d/\aF Z w e cs d'){cs:List Value}{d:List e.cc.den}{bs:List (Option Nat)}(h:fQ Z w (.sl e.cc) cs d bs) :
 ∃ xs:List e.den,xs.map (bu e)=d/\fQ Z w (.sl e) cs xs bs:=by
 rcases h with ⟨h1,rfl,h3⟩|⟨b,cap,aq,el,h1,h2,h3,h4,h5,h6,h7⟩
 ·exact⟨[],rfl,.inl ⟨h1,rfl,h3⟩⟩
 ·obtain⟨xs,k1,k2⟩:=build d.length (fun i (x:e.den)=>∃ hi:i<d.length,bu e x=d[i]/\∃ es,es.length=e.size/\(∀ j u,es[j]? = some u->aq[i*e.size+j]? = some u)/\aF Z w e es x) (fun i hi=>by
   obtain⟨es,e4,e5,e6⟩:=h7 i hi
   obtain⟨x,hx,kx⟩:=ih e6
   exact⟨x,hi,hx,es,by rw[<-bJ e];exact e4,by rw[<-bJ e];exact e5,kx⟩)
  refine⟨xs,List.ext_getElem (by simp[k1]) (fun i h1 h2=>?_),.inr ⟨b,cap,aq,el,by rw[k1];exact h1,h2,h3,by rw[<-bJ e];exact h4,by rw[k1];exact h5,by rw[k1];exact h6,fun i hi=>?_⟩⟩
  ·rw[List.getElem_map]
   obtain⟨_,hx,_⟩:=k2 i (by simpa using h1)
   exact hx
  ·obtain⟨_,_,hx⟩:=k2 i hi
   exact hx
theorem rj{Z:Nat->Prop}:∀(t:Ty),t.dZ=true->∀ {cs:List Value} {d:t.cc.den} {bs:List (Option Nat)},fQ Z w t.cc cs d bs->t.wx=true->∃ d':t.den,bu t d'=d/\fQ Z w t cs d' bs
 | .int _,_,_,d,_,h,_=>⟨d,rfl,h⟩
 | .bool,_,_,d,_,h,_=>⟨d,rfl,h⟩
 | .str,_,_,d,_,h,_=>⟨d,rfl,h⟩
 | .ptr _,_,_,d,_,h,_=>h.elim
 | .bZ _ _,_,_,d,_,h,_=>h.elim
 | .gs _ _,_,_,_,_,_,hg=>by cases hg
 | .st t,ht,_,d,_,h,hg=>rj t ht h hg
 | .pr a b,ht,_,d,_,h,hg=>by
   have wg:(a.dZ&&b.dZ)=true:=ht
   rw[Bool.and_eq_true] at wg
   have pS:(a.wx&&b.wx)=true:=hg
   rw[Bool.and_eq_true] at pS
   obtain⟨c1,c2,b1,b2,h1,je,h2,h3⟩:=h
   obtain⟨x,hx,kx⟩:=rj a wg.1 h2 pS.1
   obtain⟨y,hy,ky⟩:=rj b wg.2 h3 pS.2
   refine⟨(x,y),?_,c1,c2,b1,b2,h1,je,kx,ky⟩
   show (bu a x,bu b y)=d
   rw[hx,hy];rfl
 | .sl e,ht,cs,d,bs,h,_=>FQ (fun k=>ou e ht k) h
theorem Ms{st:St}{ts:Array Value}(r:Rel base M w0 V st ts w){n:Nat}{e e':Ty}(X7:e.bU=false)(nr:e.flat=false)(ht:e'.dZ=true)(h:e'.cc=e){xs:List e.den}(hn:st.au n = .row true e xs) :
 ∃ a_:List e'.den,eW h (gG e' a_)=xs/\Rel base M w0 V { st with hp:=bD st.hp n (.row true e' a_) } ts w/\∀ s v,S.ok V st.au w s v->S.ok V (St.mk st.ts (bD st.hp n (.row true e' a_))).au w s v:=by
 subst h
 have m:=r.mem
 have eB:=m.ck n
 rw[hn] at eB
 obtain⟨a_,k1,k2⟩:∃ a_:List e'.den,a_.map (bu e')=xs/\(ax.row true e' a_).ok V st.au w n:=by
  rcases eB with ⟨h1,h2⟩|⟨h1,aq,el,h2,h3,h4⟩
  ·exact⟨[],by rw[h2];rfl,.inl ⟨h1,rfl⟩⟩
  ·obtain⟨a_,j1,j2⟩:=build xs.length (fun i (x:e'.den)=>∃ hi:i<xs.length,bu e' x=xs[i]/\∃ es,es.length=e'.size/\(∀ j u,es[j]? = some u->aq[i*e'.size+j]? = some u)/\aF (V.Z true) w e' es x) (fun i hi=>by
    obtain⟨es,e4,e5,e6⟩:=h4 i hi
    obtain⟨x,hx,kx⟩:=ou e' ht e6
    exact⟨x,hi,hx,es,by rw[<-bJ e'];exact e4,by rw[<-bJ e'];exact e5,kx⟩)
   refine⟨a_,List.ext_getElem (by simp[j1]) (fun i g1 g2=>?_),.inr ⟨h1,aq,el,h2,by rw[j1];exact h3,fun i hi=>?_⟩⟩
   ·rw[List.getElem_map]
    obtain⟨_,hx,_⟩:=j2 i (by simpa using g1)
    exact hx
   ·obtain⟨_,_,hx⟩:=j2 i hi
    exact hx
 refine⟨a_,k1,?_⟩
 have eY:(st.au n).live=true:=by rw[hn];rfl
 have aZ:n<st.hp.length:=gP eY
 have hl:a_.length=xs.length:=by rw[<-k1,List.length_map]
 have dS:(St.mk st.ts (bD st.hp n (.row true e' a_))).au=az st.au n (.row true e' a_):=gj aZ _ _
 have cell:∀ {c:C} {v:Value},C.ok V st.au w c v->C.ok V (az st.au n (.row true e' a_)) w c v:=by
  intro c v h
  have cY:∀ {k:Nat} {fr:Bool} {e2:Ty} {ys:List e2.den},st.au k = .row fr e2 ys->∃ e3 zs,az st.au n (.row true e' a_) k = .row (if k=n then true else fr) e3 zs/\e3.size=e2.size/\zs.length=ys.length:=by
   intro k fr e2 ys hk
   by_cases cz:k=n
   ·subst cz
    rw[hn] at hk
    injection hk with q1 q2 q3
    subst q2;cases q3
    exact⟨e',a_,by simp only[az,if_true],(bJ e').symm,hl⟩
   ·exact⟨e2,ys,by simp only[az,if_neg cz];exact hk,rfl,rfl⟩
  have gR:∀ {k:Nat} {cs:List C},st.au k = .bx cs->az st.au n (.row true e' a_) k = .bx cs:=by
   intro k cs hk
   have cz:k≠n:=fun e=>by subst e;rw[hn] at hk;cases hk
   simp only[az,if_neg cz];exact hk
  have hr:∀ {k h0:Nat} {e2 e3:Ty} {v:Value},e3.size=e2.size->cR V w k e2 h0 v->cR V w k e3 h0 v:=by
   intro k h0 e2 e3 v hs q
   rcases q with q|⟨q1,cap,aq,el,q2,q3,q4,q5⟩
   ·exact .inl q
   ·exact .inr ⟨q1,cap,aq,el,q2,q3,by rw[hs];exact q4,q5⟩
  cases c with
  | own k =>
    obtain⟨fr,e2,ys,h1,h2⟩:=h
    obtain⟨e3,zs,g1,g2,g3⟩:=cY h1
    exact⟨_,e3,zs,g1,by rw[g3];exact hr g2 h2⟩
  | pre k h0 =>
    obtain⟨fr,e2,ys,h1,h3,h2⟩:=h
    obtain⟨e3,zs,g1,g2,g3⟩:=cY h1
    exact⟨_,e3,zs,g1,by rw[g3];exact h3,hr g2 h2⟩
  | eE k e2 ys=>obtain⟨⟨fr,e3,zs,h1⟩,h2⟩:=h;obtain⟨e4,us,g1,_⟩:=cY h1;exact⟨⟨_,e4,us,g1⟩,h2⟩
  | box k off=>obtain⟨h1,h2,cs,h3⟩:=h;exact⟨h1,h2,cs,gR h3⟩
  | iY k off=>obtain⟨cap,h1,h2,cs,h3⟩:=h;exact⟨cap,h1,h2,cs,gR h3⟩
  | dL k i off =>
    obtain⟨h0,fr,e2,ys,h1,h2,h3⟩:=h
    obtain⟨e3,zs,g1,g2,g3⟩:=cY h1
    exact⟨h0,_,e3,zs,g1,by rw[g3];exact h2,by rw[g2];exact h3⟩
  | fn g di=>exact⟨h.1,fun k hk=>⟨(h.2 k hk).1,let ⟨_,cs,h3⟩:=h.2 k hk;⟨cs,gR h3⟩⟩⟩
  | _=>exact h
 have cells:∀ {cs:List C} {vs:List Value},bz V st.au w cs vs->bz V (az st.au n (.row true e' a_)) w cs vs:=fun h=>⟨h.1,fun j c v hc hv=>cell (h.2 j c v hc hv)⟩
 have ei:∀ k,(az st.au n (.row true e' a_) k).live=true->(st.au k).live=true:=by
  intro k h
  by_cases cz:k=n
  ·subst cz;exact eY
  ·simp only[az,if_neg cz] at h;exact h
 have Ul:∀ s v,S.ok V st.au w s v->S.ok V (az st.au n (.row true e' a_)) w s v:=by
  intro s v h0
  cases s with
  | c y=>exact cell h0
  | agg cs=>obtain⟨vs,h1,h2⟩:=h0;exact⟨vs,h1,cells h2⟩
  | m_ zs =>
    obtain⟨vs,h1,h2,h3⟩:=h0
    refine⟨vs,h1,h2,fun j y v hy hv=>?_⟩
    have h4:=h3 j y v hy hv
    unfold eZ at h4 ⊢
    split
    ·rename_i hb;rw[if_pos hb] at h4;obtain⟨us,k1,k2⟩:=h4;exact⟨us,k1,cells k2⟩
    ·rename_i hb;rw[if_neg hb] at h4;exact cells h4
  | ew=>exact h0
  | any=>trivial
  | arr e2 ys=>exact S.sX h0
 refine⟨⟨r.len,fun i s v hs hv=>by rw[dS];exact Ul s v (r.fI i s v hs hv),?_⟩,fun s v h=>by rw[dS];exact Ul s v h⟩
 ·rw[dS]
  refine⟨fun k=>?_,fun k cs h=>?_,fun k h hh=>m.own k (ei k h) hh,fun k e2 kK h hh=>?_,fun k k' h h' hh lX he=>m.fw k k' (ei k h) (ei k' h') hh lX he,m.z0,m.z1,m.kept,fun k h hh=>?_,fun b hb=>?_,fun k hh i hi=>?_⟩
  ·by_cases cz:k=n
   ·subst cz
    simp only[az,if_true]
    exact k2
   ·simp only[az,if_neg cz]
    have h1:=m.ck k
    cases bb:st.au k with
    | dead=>trivial
    | bx cs=>rw[bb] at h1;obtain⟨aq,el,h2,h3⟩:=h1;exact⟨aq,el,h2,cells h3⟩
    | row fr e2 ys=>rw[bb] at h1;exact h1
  ·by_cases cz:k=n
   ·subst cz;simp only[az,if_true] at h;cases h
   ·simp only[az,if_neg cz] at h;exact m.box k cs h
  ·by_cases cz:k=n
   ·subst cz;exact m.eK k e'.cc xs hn hh
   ·simp only[az,if_neg cz] at h;exact m.eK k e2 kK h hh
  ·by_cases cz:k=n
   ·subst cz;simp only[az,if_true] at h;exact False.elim h
   ·simp only[az,if_neg cz] at h;exact m.lL k h hh
  ·obtain⟨q1,q2⟩:=m.lr b hb
   have Ax:0≠n:=fun e=>by subst e;rw[hn] at q1;cases q1
   simp only[az,if_neg Ax]
   exact⟨q1,q2⟩
  ·by_cases cz:k=n
   ·subst cz;simp only[az,if_true] at hi;cases hi
   ·simp only[az,if_neg cz] at hi;exact m.fL k hh i hi
theorem lQ{K:St->Prop}{ts:Array Value}:∀(l:List ax) {nm:Nat} {st:St},Rel base M w0 V st ts w->(∀(j:Nat) e,l[j]? = some e->st.hp[nm+j]? = some e)->kG nm l st K->∃ aN,Rel base M w0 V aN ts w/\K aN/\∀ s v,S.ok V st.au w s v->S.ok V aN.au w s v
 | [],nm,st,r,_,h=>⟨st,r,h,fun _ _ h=>h⟩
 | .bx cs::l,nm,st,r,hl,h=>lQ l r (fun j e he=>by have:=hl (j+1) e (by simpa using he);rwa [show nm+(j+1)=nm+1+j by omega] at this) h
 | .dead::l,nm,st,r,hl,h=>lQ l r (fun j e he=>by have:=hl (j+1) e (by simpa using he);rwa [show nm+(j+1)=nm+1+j by omega] at this) h
 | .row false e xs::l,nm,st,r,hl,h=>lQ l r (fun j e he=>by have:=hl (j+1) e (by simpa using he);rwa [show nm+(j+1)=nm+1+j by omega] at this) h
 | .row true e xs::l,nm,st,r,hl,h=>by
   have dm:∀(j:Nat) e,l[j]? = some e->st.hp[nm+1+j]? = some e:=fun j e he=>by have:=hl (j+1) e (by simpa using he);rwa [show nm+(j+1)=nm+1+j by omega] at this
   unfold kG at h
   split at h
   ·rename_i hc
    simp only[Bool.and_eq_true,Bool.not_eq_true'] at hc
    split at h
    ·rename_i hu
     have Tq:=hl 0 _ rfl
     rw[Nat.add_zero] at Tq
     have hn:st.au nm = .row true e xs:=by
      show nth .dead st.hp nm=_
      rw[cB,Tq];rfl
     obtain⟨a_,k1,k2,k3⟩:=Ms r hc.1.2 hc.1.1 hc.2 hu hn
     have key:∀(j:Nat) e2,l[j]? = some e2->(St.mk st.ts (bD st.hp nm (.row true e.tell a_))).hp[nm+1+j]? = some e2:=by
      intro j e2 he
      show (bD st.hp nm _)[nm+1+j]? = _
      rw[eS,List.getElem?_set_ne (by omega)]
      exact dm j e2 he
     obtain⟨Xk,g1,g2,g3⟩:=lQ l k2 key (h a_ k1)
     exact⟨Xk,g1,g2,fun s v hs=>g3 s v (k3 s v hs)⟩
    ·exact lQ l r dm h
   ·exact lQ l r dm h
theorem pn{f:FuncId}{c:TC}(h:sP P f c):fO P f (fN c):=by
 intro base M w0 V bK ts w ss vs K r0 hlen UR WB
 obtain⟨st,r,hr,US⟩:=lQ bK.hp r0 (fun j e he=>by rw[Nat.zero_add];exact he) WB
 have iv:∀(i:Nat) s v,ss[i]? = some s->vs[i]? = some v->S.ok V st.au w s v:=fun i s v h1 h2=>US s v (UR i s v h1 h2)
 split at hr
 ·rename_i d hd
  obtain⟨dD,hK⟩:=hr
  have hargs:=lg (gW.ck r) c.ts hd hlen iv
  refine (h w vs d hargs dD).mono ?_
  rintro e w' ⟨v,rfl,r',hu,hn,⟨Z1,bs,us,rfl,k1,k2,k3,k4⟩,hk⟩
  have g:=uv r.mem (nx:=aL st.hp) k1 k2 k3 k4 hk (fun j _=>lE st j)
  obtain⟨q1,q2⟩:=iU r g
  have hold:∀ i∈j6 c.eo r',¬V.Z false i:=Sb r.mem (fun i hi=>(k4 i (yq k1 i hi)).1)
  refine⟨_,rfl,_,_,_,hK r' hu ?_ (fX k1) (gh (Jx r hold) (Hw r hold)),q1,q2⟩
  split
  ·rename_i gE;exact hn gE
  ·trivial
 ·exact hr.elim
theorem uW{t:Ty}{cs:List Value}{v:Value}:iW t.cc cs v↔iW t cs v:=by
 have:jt t.cc=jt t:=by cases t<;>rfl
 unfold iW
 rw[this]
def wy:List Ty->Bool
 | []=>true
 | t::r=>t.wx&&t.dZ&&wy r
theorem Dj{Z:Nat->Prop}:∀(ts:List Ty),wy ts=true->∀ {vs:List Value} {d:aY (sN ts)} {bs:List (Option Nat)},dw Z w (sN ts) vs d bs->∃ d':aY ts,nf ts d'=d/\dw Z w ts vs d' bs
 | [],_,vs,d,bs,h=>⟨(),rfl,h⟩
 | [t],hg,vs,d,bs,h=>by
   simp only[wy,Bool.and_eq_true] at hg
   obtain⟨v,h1,cs,h2,h3⟩:=h
   obtain⟨d',k1,k2⟩:=rj t hg.1.2 h3 hg.1.1
   exact⟨d',k1,v,h1,cs,uW.1 h2,k2⟩
 | t::u::r,hg,vs,d,bs,h=>by
   have pS:(t.wx&&t.dZ&&wy (u::r))=true:=hg
   simp only[Bool.and_eq_true] at pS
   obtain⟨v,bO,b1,b2,h1,je,⟨cs,h2,h3⟩,h4⟩:=h
   obtain⟨x,k1,k2⟩:=rj t pS.1.2 h3 pS.1.1
   obtain⟨y,k3,k4⟩:=Dj (u::r) pS.2 h4
   refine⟨(x,y),?_,v,bO,b1,b2,h1,je,⟨cs,uW.1 h2,k2⟩,k4⟩
   show (bu t x,nf (u::r) y)=d
   rw[k1,k3];rfl
theorem w5{f:FuncId}{c:TC}{p:PC}(CW:p={ ts:=c.ts,rs:=sN c.eo,pre:=c.pre,F:=c.F })(h:rq P f p)(hg:wy c.eo=true)(hn:c.nd=false):sP P f c:=by
 subst CW
 intro w args d hargs dD
 refine (h w args d hargs dD).mono ?_
 rintro e w' ⟨v,rfl,⟨Z1,bs,vs,rfl,k1,k2,k3,k4⟩,hk⟩
 obtain⟨r,j1,j2⟩:=Dj c.eo hg k1
 exact⟨_,rfl,r,j1,(fun h=>by rw[hn] at h;cases h),⟨Z1,bs,vs,rfl,j2,k2,k3,k4⟩,hk⟩
theorem PT{Z:Nat->Prop}{e:Ty}{cs:List Value}{xs:List e.den}{bs:List (Option Nat)}(h:fQ Z w (.sl e) cs xs bs):fQ Z w (.sl e.cc) cs (xs.map (bu e)) bs:=by
 rcases h with ⟨h1,rfl,h3⟩|⟨b,cap,aq,el,h1,h2,h3,h4,h5,h6,h7⟩
 ·exact .inl ⟨h1,rfl,h3⟩
 ·refine .inr ⟨b,cap,aq,el,by rw[List.length_map];exact h1,h2,h3,by rw[bJ];exact h4,by rw[List.length_map];exact h5,by rw[List.length_map];exact h6,fun i hi=>?_⟩
  obtain⟨es,e4,e5,e6⟩:=h7 i (by rw[List.length_map] at hi;exact hi)
  exact⟨es,by rw[bJ];exact e4,by rw[bJ];exact e5,by rw[List.getElem_map];exact aF.un e e6⟩
theorem wB{Z:Nat->Prop}:∀(t:Ty) {cs:List Value} {d:t.den} {bs:List (Option Nat)},fQ Z w t cs d bs->fQ Z w t.cc cs (bu t d) bs
 | .int _,_,_,_,h=>h
 | .bool,_,_,_,h=>h
 | .str,_,_,_,h=>h
 | .ptr _,_,_,_,h=>h.elim
 | .bZ _ _,_,_,_,h=>h.elim
 | .gs _ _,_,_,_,h=>h.elim
 | .st t,_,_,_,h=>wB t h
 | .pr a b,_,_,_,h=>by
   obtain⟨c1,c2,b1,b2,h1,je,h2,h3⟩:=h
   exact⟨c1,c2,b1,b2,h1,je,wB a h2,wB b h3⟩
 | .sl e,cs,d,bs,h=>by
   exact PT h
theorem IS{Z:Nat->Prop}:∀(ts:List Ty) {vs:List Value} {d:aY ts} {bs:List (Option Nat)},dw Z w ts vs d bs->dw Z w (sN ts) vs (nf ts d) bs
 | [],_,_,_,h=>h
 | [t],_,_,_,h=>by obtain⟨v,h1,cs,h2,h3⟩:=h;exact⟨v,h1,cs,uW.2 h2,wB t h3⟩
 | t::u::r,_,_,_,h=>by
   obtain⟨v,bO,b1,b2,h1,je,⟨cs,h2,h3⟩,h4⟩:=h
   exact⟨v,bO,b1,b2,h1,je,⟨cs,uW.2 h2,wB t h3⟩,IS (u::r) h4⟩
theorem rk{f:FuncId}{c:TC}(h:sP P f c):rq P f { ts:=c.ts,rs:=sN c.eo,pre:=c.pre,F:=c.F }:=by
 intro w args d hargs dD
 refine (h w args d hargs dD).mono ?_
 rintro e w' ⟨v,rfl,r,hu,_,⟨Z1,bs,vs,rfl,k1,k2,k3,k4⟩,hk⟩
 have hu:nf c.eo r=c.F d:=hu
 refine⟨_,rfl,⟨Z1,bs,vs,rfl,?_,k2,k3,k4⟩,hk⟩
 show dw Z1 w' (sN c.eo) vs (c.F d) bs
 rw[<-hu]
 exact IS c.eo k1
end
end Go.SX
/- Writes into told blocks: what stays true. No condition. -/
namespace Go.SX
open Go.RowKit
set_option linter.unusedVariables false
set_option linter.unusedSimpArgs false
def dk(keep:Bool):C->C
 | .rg fr wh e b xs=>if keep&&e.kX then .rg fr wh e b xs else .any
 | .rd _ _ _=>.any
 | .eE _ _ _=>.any
 | .at_ _ _ _ _=>.any
 | .bZ _ _ _ _=>.any
 | c=>c
def me(n:Nat)(l:List Nat):Nat->List ax->Option Prop
 | _,[]=>none
 | k,.row _ e xs::r=>eM (if Nat.beq k n||e.flat then none else if e.kX then some (oC l (bV e xs)) else some False) (me n l (k+1) r)
 | k,.bx _::r=>me n l (k+1) r
 | k,.dead::r=>me n l (k+1) r
def C.mu(l:List Nat):C->Option Prop
 | .rg _ wh e b xs=>if e.kX then some (oC l (ids (.gs wh e) (b,xs))) else none
 | _=>none
def gY(l:List Nat):List C->Option Prop
 | []=>none
 | c::r=>eM (c.mu l) (gY l r)
def sd(l:List Nat):List (Bool×List C)->Option Prop
 | []=>none
 | v::r=>eM (gY l v.2) (sd l r)
def lR(l:List Nat):List S->Option Prop
 | []=>none
 | .c x::r=>eM (x.mu l) (lR l r)
 | .agg cs::r=>eM (gY l cs) (lR l r)
 | .m_ vs::r=>eM (sd l vs) (lR l r)
 | _::r=>lR l r
def tU(l:List Nat):List ax->Option Prop
 | []=>none
 | .bx cs::r=>eM (gY l cs) (tU l r)
 | _::r=>tU l r
def St.drop(st:St)(m:Nat):St:={ (st.map (bB m)) with hp:=bD (st.map (bB m)).hp m .dead }
def St.xj(st:St):List Nat->St
 | []=>st
 | m::r=>(st.drop m).xj r
def ff(n:Nat):Nat->List ax->List Nat
 | _,[]=>[]
 | k,.row _ e _::r=>if Nat.beq k n||e.flat||e.kX then ff n (k+1) r else k::ff n (k+1) r
 | k,.bx _::r=>ff n (k+1) r
 | k,.dead::r=>ff n (k+1) r
section
variable {P : Program} {T : bN} {Γ : FuncId → Option PC} {R : FuncId → Option bW} {base : Nat} {M : LM} {w0 : World} {V : Vl} {hp : Nat → ax} {w w' : World}
theorem vN{l:List Nat}:∀ {cs:List C},cT (gY l cs)->∀ c∈cs,cT (c.mu l)
 | [],_,c,hc=>by cases hc
 | x::r,h,c,hc=>by
   obtain⟨h1,h2⟩:=dB.1 h
   rcases List.mem_cons.1 hc with rfl|hc
   ·exact h1
   ·exact vN h2 c hc
theorem vz{l:List Nat}:∀ {vs:List (Bool×List C)},cT (sd l vs)->∀ v∈vs,cT (gY l v.2)
 | [],_,c,hc=>by cases hc
 | x::r,h,c,hc=>by
   obtain⟨h1,h2⟩:=dB.1 h
   rcases List.mem_cons.1 hc with rfl|hc
   ·exact h1
   ·exact vz h2 c hc
def S.mu(l:List Nat):S->Prop
 | .c x=>cT (x.mu l)
 | .agg cs=>cT (gY l cs)
 | .m_ vs=>cT (sd l vs)
 | _=>True
theorem w8{l:List Nat}:∀ {ts:List S},cT (lR l ts)->∀ s∈ts,s.mu l
 | [],_,c,hc=>by cases hc
 | x::r,h,c,hc=>by
   have h2:x.mu l/\cT (lR l r):=by
    cases x with
    | c x=>exact dB.1 h
    | agg cs=>exact dB.1 h
    | m_ vs=>exact dB.1 h
    | ew=>exact⟨trivial,h⟩
    | any=>exact⟨trivial,h⟩
    | arr e xs=>exact⟨trivial,h⟩
   rcases List.mem_cons.1 hc with rfl|hc
   ·exact h2.1
   ·exact w8 h2.2 c hc
theorem mw{l:List Nat}:∀ {es:List ax},cT (tU l es)->∀ cs,.bx cs∈es->cT (gY l cs)
 | [],_,c,hc=>by cases hc
 | x::r,h,c,hc=>by
   cases x with
   | bx cs =>
     obtain⟨h1,h2⟩:=dB.1 h
     rcases List.mem_cons.1 hc with e|hc
     ·injection e with e;subst e;exact h1
     ·exact mw h2 c hc
   | row fr e xs =>
     rcases List.mem_cons.1 hc with e|hc
     ·cases e
     ·exact mw (es:=r) h c hc
   | dead =>
     rcases List.mem_cons.1 hc with e|hc
     ·cases e
     ·exact mw (es:=r) h c hc
theorem vw{n:Nat}{l:List Nat}:∀ {es:List ax} {k:Nat},cT (me n l k es)->∀(j:Nat) (fr:Bool) (e:Ty) (xs:List e.den),es[j]? = some (.row fr e xs)->k+j≠n->e.flat=true\/(e.kX=true/\oC l (bV e xs))
 | [],k,_,j,fr,e,xs,h,_=>by cases h
 | x::r,k,h,j,fr,e,xs,hj,bb=>by
   cases j with
   | zero =>
     simp only[List.getElem?_cons_zero,Option.some.injEq] at hj
     subst hj
     obtain⟨h1,_⟩:=dB.1 h
     have cz:Nat.beq k n=false:=by
      cases hb:Nat.beq k n with
      | false=>rfl
      | true=>exact absurd (Nat.eq_of_beq_eq_true hb) bb
     rw[cz,Bool.false_or] at h1
     cases hf:e.flat with
     | true=>exact .inl rfl
     | false =>
       rw[hf] at h1
       simp only[Bool.false_eq_true,if_false] at h1
       split at h1
       ·rename_i hg;exact .inr ⟨hg,h1⟩
       ·exact h1.elim
   | succ j =>
     have hr:cT (me n l (k+1) r):=by
      cases x with
      | row ta e2 kK=>exact (dB.1 h).2
      | bx cs=>exact h
      | dead=>exact h
     exact vw hr j fr e xs (by simpa using hj) (by omega)
theorem Ja{base m:Nat}{hp:Nat->ax}{fr:Bool}{e:Ty}{xs:List e.den}(hm:hp m = .row fr e xs)(eB:(ax.row fr e xs).ok V hp w m)(jQ:fr=true->V.has m->base<=V.aE m) :
 ml V hp w (bB m) (V.freeze m base) (az (bF (bB m) hp) m .dead) w:=by
 have tn:=qS (base:=base) hm eB jQ
 have cY:∀ {n aV e'} {a_:List e'.den},az (bF (cV m fr e xs) hp) m .dead n = .row aV e' a_->az (bF (bB m) hp) m .dead n = .row aV e' a_:=by
  intro n aV e' a_ h
  by_cases hn:n=m
  ·simp only[az,if_pos hn] at h;cases h
  ·simp only[az,if_neg hn] at h ⊢
   unfold bF at h ⊢
   cases hq:hp n with
   | row a1 a2 a3=>rw[hq] at h;exact h
   | bx cs=>rw[hq] at h;cases h
   | dead=>rw[hq] at h;cases h
 have gR:∀ {n cs},az (bF (cV m fr e xs) hp) m .dead n = .bx cs->∃ cp,az (bF (bB m) hp) m .dead n = .bx cp:=by
  intro n cs h
  by_cases hn:n=m
  ·simp only[az,if_pos hn] at h;cases h
  ·simp only[az,if_neg hn] at h ⊢
   unfold bF at h ⊢
   cases hq:hp n with
   | row a1 a2 a3=>rw[hq] at h;cases h
   | bx cs=>exact⟨_,rfl⟩
   | dead=>rw[hq] at h;cases h
 have move:∀ {c v},C.ok (V.freeze m base) (az (bF (cV m fr e xs) hp) m .dead) w c v->C.ok (V.freeze m base) (az (bF (bB m) hp) m .dead) w c v:=by
  intro c v h
  cases c with
  | own n=>obtain⟨f1,e1,x1,h1,h2⟩:=h;exact⟨f1,e1,x1,cY h1,h2⟩
  | pre n k=>obtain⟨f1,e1,x1,h1,h3,h2⟩:=h;exact⟨f1,e1,x1,cY h1,h3,h2⟩
  | eE n e' ys=>obtain⟨⟨f1,e1,x1,h1⟩,h2⟩:=h;exact⟨⟨f1,e1,x1,cY h1⟩,h2⟩
  | box n off=>obtain⟨h1,h2,cs,h3⟩:=h;exact⟨h1,h2,gR h3⟩
  | iY n off=>obtain⟨cap,h1,h2,cs,h3⟩:=h;exact⟨cap,h1,h2,gR h3⟩
  | dL n i off=>obtain⟨h0,f1,e1,x1,h1,h2⟩:=h;exact⟨h0,f1,e1,x1,cY h1,h2⟩
  | fn f di=>exact⟨h.1,fun n hn=>⟨(h.2 n hn).1,let ⟨_,cs,h3⟩:=h.2 n hn;gR h3⟩⟩
  | _=>exact h
 intro c v h
 have kO:=C.cO h
 have ht:=tn c v h
 cases c with
 | own n =>
   show C.ok _ _ w (if n=m then .any else .own n) v
   split
   ·exact kO
   ·rename_i hn
    have h9:C.ok (V.freeze m base) _ w (if n=m then .rd fr e xs else .own n) v:=ht
    rw[if_neg hn] at h9
    exact move h9
 | pre n k =>
   show C.ok _ _ w (if n=m then .any else .pre n k) v
   split
   ·exact kO
   ·rename_i hn
    have h9:C.ok (V.freeze m base) _ w (if n=m then .rd fr e (xs.take k) else .pre n k) v:=ht
    rw[if_neg hn] at h9
    exact move h9
 | eE n e' ys =>
   show C.ok _ _ w (if n=m then .any else .eE n e' ys) v
   split
   ·exact kO
   ·rename_i hn
    have h9:C.ok (V.freeze m base) _ w (if n=m then .rd false e' ys else .eE n e' ys) v:=ht
    rw[if_neg hn] at h9
    exact move h9
 | dL n i o =>
   show C.ok _ _ w (if n=m then .any else .dL n i o) v
   split
   ·exact kO
   ·rename_i hn
    have h9:C.ok (V.freeze m base) _ w (if n=m then .at_ fr e (xs.getD i e.fe) o else .dL n i o) v:=ht
    rw[if_neg hn] at h9
    exact move h9
 | _=>exact move ht
theorem NY{st:St}{ts:Array Value}(r:Rel base M w0 V st ts w){m:Nat}{fr:Bool}{e:Ty}{xs:List e.den}(hm:st.au m = .row fr e xs):Rel base M w0 (V.freeze m base) (st.drop m) ts w:=by
 have mm:=r.mem
 have eB:=mm.ck m
 rw[hm] at eB
 exact r.Bz hm (Ja (base:=base) hm eB (fun hf hh=>by subst hf;exact mm.eK m e xs hm hh))
theorem Ew{st:St}{m n:Nat}(TP:n≠m)(hm:(st.au m).live=true):(st.drop m).au n=(st.au n).map (bB m):=by
 unfold St.drop
 rw[gj (by show m<(lmap _ _).length;rw[bt,List.length_map];exact gP hm)]
 simp only[az,if_neg TP]
 show (st.map (bB m)).au n=_
 rw[il];rfl
theorem Dd{ts:Array Value}{n:Nat}{fr:Bool}{e:Ty}{xs:List e.den}:∀(l:List Nat) {V:Vl} {st:St},Rel base M w0 V st ts w->st.au n = .row fr e xs->(∀ m∈l,m≠n)->(∀ m∈l,∃ fr e xs,st.au m = .row fr e xs)->l.Nodup →
 ∃ V',Rel base M w0 V' (st.xj l) ts w/\(st.xj l).au n = .row fr e xs/\V'.aE=V.aE/\V'.has=V.has
 | [],V,st,r,hn,_,_,_=>⟨V,r,hn,rfl,rfl⟩
 | m::l,V,st,r,hn,bb,cY,gE=>by
   obtain⟨f1,e1,x1,hm⟩:=cY m (List.mem_cons_self ..)
   have eY:(st.au m).live=true:=by rw[hm];rfl
   have Rp:=List.nodup_cons.1 gE
   have hd:=Dd (n:=n) (fr:=fr) (e:=e) (xs:=xs) l (NY r hm) ?_ (fun k hk=>bb k (List.mem_cons_of_mem _ hk)) (fun k hk=>?_) Rp.2
   ·exact hd
   ·rw[Ew (fun e=>bb m (List.mem_cons_self ..) e.symm) eY,hn];rfl
   ·obtain⟨f2,e2,x2,mW⟩:=cY k (List.mem_cons_of_mem _ hk)
    exact⟨f2,e2,x2,by rw[Ew (fun e=>Rp.1 (by rw[<-e];exact hk)) eY,mW];rfl⟩
theorem mB{n:Nat}:∀ {es:List ax} {k m:Nat},m∈ff n k es->k<=m/\m≠n/\∃ fr e xs,es[m-k]? = some (.row fr e xs)
 | [],k,m,h=>by cases h
 | x::es,k,m,h=>by
   have next:m∈ff n (k+1) es->k<=m/\m≠n/\∃ fr e xs,(x::es)[m-k]? = some (.row fr e xs):=by
    intro h
    obtain⟨h1,h2,fr,e,xs,h3⟩:=mB h
    refine⟨by omega,h2,fr,e,xs,?_⟩
    rw[show m-k=(m-(k+1))+1 by omega]
    simpa using h3
   cases x with
   | bx cs=>exact next h
   | dead=>exact next h
   | row fr e xs =>
     unfold ff at h
     split at h
     ·exact next h
     ·rename_i hc
      rcases List.mem_cons.1 h with rfl|h
      ·refine⟨Nat.le_refl _,fun e=>hc ?_,fr,e,xs,by simp⟩
       subst e;simp
      ·exact next h
theorem ik{n:Nat}:∀(es:List ax) (k:Nat),(ff n k es).Nodup
 | [],k=>List.nodup_nil
 | .bx cs::es,k=>ik es (k+1)
 | .dead::es,k=>ik es (k+1)
 | .row fr e xs::es,k=>by
   unfold ff
   split
   ·exact ik es (k+1)
   ·refine List.nodup_cons.2 ⟨fun h=>?_,ik es (k+1)⟩
    have:=(mB h).1
    omega
def Qn(V:Vl)(n:Nat)(l:List Nat)(b:Nat):Prop:=(V.has n/\b=V.aE n)\/b∈l
theorem Ke {st : St} {ts : Array Value} (r : Rel base M w0 V st ts w) {n : Nat} {fr : Bool} {e : Ty} {xs ys : List e.den} (hn : st.au n = .row fr e xs) (hlen : ys.length = xs.length) {l : List Nat} (hl : ∀ i ∈ l, V.Z false i)
    (cv : w.heap.size ≤ w'.heap.size) (iN : ∀ b, b < w.heap.size → ¬ Qn V n l b → w'.heap[b]? = w.heap[b]?) (hk : Kept base M w0 w')
    (cY : V.has n → ∃ aq el bn eg, w.heap[V.aE n]? = some (.cells aq el (0, 0)) ∧ w'.heap[V.aE n]? = some (.cells bn eg (0, 0)) ∧ bn.size = aq.size ∧ jO (V.Z fr) w' e bn ys)
    (SZ : ∀ m aV e' a_, m ≠ n → st.au m = .row aV e' a_ → e'.flat = true ∨ (e'.kX = true ∧ oC l (bV e' a_)))
    (keep : Bool) (CW : keep = true → cT (lR l st.ts)) (VV : keep = true → cT (tU l st.hp)) (Av : ∀ i ∈ (ax.row fr e ys).fL, i ∈ (ax.row fr e xs).fL) :
    Rel base M w0 V { (st.map (dk keep)) with hp := bD (st.map (dk keep)).hp n (.row fr e ys) } ts w' := by
  have m := r.mem
  have eY : (st.au n).live = true := by rw [hn]; rfl
  have aZ : n < st.hp.length := gP eY
  have dS : (St.mk (st.map (dk keep)).ts (bD (st.map (dk keep)).hp n (.row fr e ys))).au = az (bF (dk keep) st.au) n (.row fr e ys) := by
    rw [gj (by show n < (lmap _ _).length; rw [bt, List.length_map]; exact aZ)]
    congr 1
    exact il st _
  have Rv := m.ck n
  rw [hn] at Rv
  -- blocks of other names
  have nX : ∀ k, k ≠ n → (st.au k).live = true → V.has k → ¬ Qn V n l (V.aE k) := by
    intro k cz nq Lk hx
    rcases hx with ⟨h1, h2⟩ | h1
    · exact cz (m.fw k n nq eY Lk h1 h2)
    · exact (m.own k nq Lk).2.2 (hl _ h1)
  have I4 : ∀ k, k ≠ n → (st.au k).live = true → V.has k → w'.heap[V.aE k]? = w.heap[V.aE k]? := fun k cz nq Lk => iN _ (m.own k nq Lk).2.1 (nX k cz nq Lk)
  -- told words
  have zX : ∀ i, V.Z false i → i ∉ l → ¬ Qn V n l i := by
    intro i hz rP hx
    rcases hx with ⟨h1, h2⟩ | h1
    · subst h2; exact (m.own n eY h1).2.2 hz
    · exact rP h1
  have Pf : ∀ i, V.Z false i → i ∉ l → w'.heap[i]? = w.heap[i]? := fun i hz rP => iN i (m.pP hz) (zX i hz rP)
  have iO : ∀ k, k ≠ n → az (bF (dk keep) st.au) n (.row fr e ys) k = (st.au k).map (dk keep) := fun k cz => by simp only [az, if_neg cz]; rfl
  have tk : az (bF (dk keep) st.au) n (.row fr e ys) n = .row fr e ys := by simp only [az, if_true]
  have Q7 : ∀ {h : Nat} {v : Value}, cR V w n e h v → cR V w' n e h v := by
    intro h v k
    rcases k with k | ⟨k1, cap, aq, el, k2, k3, k4, k5⟩
    · exact .inl k
    · obtain ⟨se, CF, bn, eg, q1, q2, q3, _⟩ := cY k1
      rw [q1] at k3
      injection k3 with k3
      injection k3 with k3 _ _
      subst k3
      exact .inr ⟨k1, cap, bn, eg, k2, q2, by rw [q3]; exact k4, k5⟩
  have Q6 : ∀ {k h : Nat} {e' : Ty} {v : Value}, k ≠ n → (st.au k).live = true → cR V w k e' h v → cR V w' k e' h v := by
    intro k h e' v cz nq q
    rcases q with q | ⟨k1, cap, aq, el, k2, k3, k4, k5⟩
    · exact .inl q
    · exact .inr ⟨k1, cap, aq, el, k2, by rw [I4 k cz nq k1]; exact k3, k4, k5⟩
  have Jz : ∀ {k : Nat} {aV : Bool} {e' : Ty} {a_ : List e'.den}, k ≠ n → st.au k = .row aV e' a_ → az (bF (dk keep) st.au) n (.row fr e ys) k = .row aV e' a_ := by
    intro k aV e' a_ cz h
    rw [iO k cz, h]; rfl
  have Ng : ∀ {k : Nat} {cs : List C}, st.au k = .bx cs → ∃ cp, az (bF (dk keep) st.au) n (.row fr e ys) k = .bx cp := by
    intro k cs h
    have cz : k ≠ n := fun e => by subst e; rw [hn] at h; cases h
    exact ⟨_, by rw [iO k cz, h]; rfl⟩
  have cell : ∀ {c : C} {v : Value}, C.ok V st.au w c v → (keep = true → cT (c.mu l)) → C.ok V (az (bF (dk keep) st.au) n (.row fr e ys)) w' (dk keep c) v := by
    intro c v h ha
    cases c with
    | val u => exact h
    | gi => exact h
    | ga => exact h
    | any => exact h
    | rd aV e' zs => exact C.cO h
    | eE k e' zs => exact C.cO h
    | at_ aV t d off => exact C.cO h
    | bZ aV f t d => exact C.cO h
    | own k =>
      obtain ⟨aV, e', a_, h1, h2⟩ := h
      by_cases cz : k = n
      · subst cz
        rw [hn] at h1
        injection h1 with q1 q2 q3
        subst q1; subst q2; cases q3
        exact ⟨fr, e, ys, tk, by rw [hlen]; exact Q7 h2⟩
      · exact ⟨aV, e', a_, Jz cz h1, Q6 cz (by rw [h1]; rfl) h2⟩
    | pre k h0 =>
      obtain ⟨aV, e', a_, h1, h3, h2⟩ := h
      by_cases cz : k = n
      · subst cz
        rw [hn] at h1
        injection h1 with q1 q2 q3
        subst q1; subst q2; cases q3
        exact ⟨fr, e, ys, tk, by rw [hlen]; exact h3, Q7 h2⟩
      · exact ⟨aV, e', a_, Jz cz h1, h3, Q6 cz (by rw [h1]; rfl) h2⟩
    | box k off => obtain ⟨h1, h2, cs, h3⟩ := h; exact ⟨h1, h2, Ng h3⟩
    | iY k off => obtain ⟨cap, h1, h2, cs, h3⟩ := h; exact ⟨cap, h1, h2, Ng h3⟩
    | fn g di => exact ⟨h.1, fun k hk => ⟨(h.2 k hk).1, let ⟨_, cs, h3⟩ := h.2 k hk; Ng h3⟩⟩
    | dL k i off =>
      obtain ⟨h0, aV, e', a_, h1, h2, h3⟩ := h
      by_cases cz : k = n
      · subst cz
        rw [hn] at h1
        injection h1 with q1 q2 q3
        subst q1; subst q2; cases q3
        exact ⟨h0, fr, e, ys, tk, by rw [hlen]; exact h2, h3⟩
      · exact ⟨h0, aV, e', a_, Jz cz h1, h2, h3⟩
    | rg aV wh e' b zs =>
      show C.ok V _ w' (if keep && e'.kX then .rg aV wh e' b zs else .any) v
      split
      · rename_i OE
        rw [Bool.and_eq_true] at OE
        have h' : aF (V.Z aV) w (.gs wh e') [v] (b, zs) := h
        have K8 : oC l (ids (.gs wh e') (b, zs)) := by
          have h9 : cT (if e'.kX then some (oC l (ids (.gs wh e') (b, zs))) else none) := ha OE.1
          rw [if_pos OE.2] at h9
          exact h9
        refine aF.o0 (.gs wh e') OE.2 h' (fun i hi => ?_)
        have hz := aF.iw _ h' i hi
        exact ⟨hz, Pf i (Vl.cN hz) (fun rP => K8 i rP hi)⟩
      · exact C.cO h
  have cells : ∀ {cs : List C} {vs : List Value}, bz V st.au w cs vs → (keep = true → cT (gY l cs)) → bz V (az (bF (dk keep) st.au) n (.row fr e ys)) w' (lmap (dk keep) cs) vs := by
    intro cs vs h ha
    rw [bt]
    refine ⟨by rw [List.length_map]; exact h.1, fun j c v hc hv => ?_⟩
    rw [List.getElem?_map] at hc
    cases hx : cs[j]? with
    | none => rw [hx] at hc; cases hc
    | some y =>
      rw [hx] at hc
      simp only [Option.map_some, Option.some.injEq] at hc
      subst hc
      exact cell (h.2 j y v hx hv) (fun E5 => vN (ha E5) y (List.mem_of_getElem? hx))
  refine ⟨by show (lmap _ _).length = _; rw [bt, List.length_map]; exact r.len, fun i s v hs hv => ?_, ?_⟩
  · rw [dS]
    have aW : (lmap (S.map (dk keep)) st.ts)[i]? = some s := hs
    rw [bt, List.getElem?_map] at aW
    cases hx : st.ts[i]? with
    | none => rw [hx] at aW; cases aW
    | some x =>
      rw [hx] at aW
      simp only [Option.map_some, Option.some.injEq] at aW
      subst aW
      have h0 := r.fI i x v hx hv
      have ha : keep = true → x.mu l := fun E5 => w8 (CW E5) x (List.mem_of_getElem? hx)
      cases x with
      | c y => exact cell h0 ha
      | agg cs => obtain ⟨vs, h1, h2⟩ := h0; exact ⟨vs, h1, cells h2 ha⟩
      | m_ zs =>
        obtain ⟨vs, h1, h2, h3⟩ := h0
        refine ⟨vs, h1, by show (lmap _ zs).length = _; rw [bt, List.length_map]; exact h2, fun j y v hy hv => ?_⟩
        have Ip : (lmap (fun v => (v.1, lmap (dk keep) v.2)) zs)[j]? = some y := hy
        rw [bt, List.getElem?_map] at Ip
        cases hz : zs[j]? with
        | none => rw [hz] at Ip; cases Ip
        | some z =>
          rw [hz] at Ip
          simp only [Option.map_some, Option.some.injEq] at Ip
          subst Ip
          have h4 := h3 j z v hz hv
          have Fm : keep = true → cT (gY l z.2) := fun E5 => vz (ha E5) z (List.mem_of_getElem? hz)
          unfold eZ at h4 ⊢
          simp only
          split
          · rename_i hb; rw [if_pos hb] at h4; obtain ⟨us, k1, k2⟩ := h4; exact ⟨us, k1, cells k2 Fm⟩
          · rename_i hb; rw [if_neg hb] at h4; exact cells h4 Fm
      | ew => exact h0
      | any => trivial
      | arr e' zs => exact S.sX h0
  · rw [dS]
    have ei : ∀ k, (az (bF (dk keep) st.au) n (.row fr e ys) k).live = true → (st.au k).live = true := by
      intro k h
      by_cases cz : k = n
      · subst cz; exact eY
      · rw [iO k cz, lM] at h; exact h
    refine ⟨fun k => ?_, fun k cs h => ?_, fun k h hh => ?_, fun k e2 kK h hh => ?_, fun k k' h h' hh lX he => m.fw k k' (ei k h) (ei k' h') hh lX he, m.z0, fun b hb => ?_, hk, fun k h hh => ?_, fun b hb => ?_, fun k hh i hi => ?_⟩
    · by_cases cz : k = n
      · subst cz
        rw [tk]
        rcases Rv with ⟨k1, k2⟩ | ⟨k1, aq, el, k2, k3, k4⟩
        · exact .inl ⟨k1, by rw [k2] at hlen; exact List.length_eq_zero_iff.1 hlen⟩
        · obtain ⟨se, CF, bn, eg, q1, q2, q3, q4⟩ := cY k1
          exact .inr ⟨k1, bn, eg, q2, by rw [hlen]; exact k3, q4⟩
      · rw [iO k cz]
        have h1 := m.ck k
        cases bb : st.au k with
        | dead => trivial
        | bx cs =>
          rw [bb] at h1
          obtain ⟨aq, el, h2, h3⟩ := h1
          refine ⟨aq, el, by rw [I4 k cz (by rw [bb]; rfl) (m.box k cs bb)]; exact h2, cells h3 (fun E5 => mw (VV E5) cs ?_)⟩
          have np : nth .dead st.hp k = .bx cs := bb
          rw [cB] at np
          cases hx : st.hp[k]? with
          | none => rw [hx] at np; cases np
          | some y => rw [hx] at np; simp only [Option.getD_some] at np; subst np; exact List.mem_of_getElem? hx
        | row aV e' a_ =>
          rw [bb] at h1
          rcases h1 with h2 | ⟨h2, aq, el, h3, h4, h5⟩
          · exact .inl h2
          · refine .inr ⟨h2, aq, el, by rw [I4 k cz (by rw [bb]; rfl) h2]; exact h3, h4, fun i hi => ?_⟩
            obtain ⟨es, k1, k2, k3⟩ := h5 i hi
            refine ⟨es, k1, k2, ?_⟩
            rcases SZ k aV e' a_ cz bb with hf | ⟨hg, ha⟩
            · exact k3.flat hf
            · refine aF.o0 e' hg k3 (fun i' c7 => ?_)
              have hz := aF.iw e' k3 i' c7
              exact ⟨hz, Pf i' (Vl.cN hz) (fun rP => ha i' rP (List.mem_flatMap.2 ⟨_, List.getElem_mem hi, c7⟩))⟩
    · by_cases cz : k = n
      · subst cz; rw [tk] at h; cases h
      · rw [iO k cz] at h
        cases bb : st.au k with
        | bx cp => exact m.box k cp bb
        | dead => rw [bb] at h; cases h
        | row aV e' a_ => rw [bb] at h; cases h
    · obtain ⟨k1, k2, k3⟩ := m.own k (ei k h) hh
      exact ⟨k1, by omega, k3⟩
    · by_cases cz : k = n
      · subst cz
        rw [tk] at h
        injection h with h1 h2 h3
        subst h1
        exact m.eK k e xs hn hh
      · rw [iO k cz] at h
        cases bb : st.au k with
        | row aV e' a_ => rw [bb] at h; exact m.eK k e2 kK (by rw [bb]; exact h) hh
        | dead => rw [bb] at h; cases h
        | bx cs => rw [bb] at h; cases h
    · obtain ⟨h1, h2⟩ := m.z1 b hb
      exact ⟨h1, by omega⟩
    · by_cases cz : k = n
      · subst cz
        rw [tk] at h
        refine m.lL k ?_ hh
        rw [hn]
        cases fr with
        | true => exact False.elim h
        | false => exact h
      · rw [iO k cz] at h
        exact m.lL k (sG h) hh
    · obtain ⟨q1, q2⟩ := m.lr b hb
      have Ax : 0 ≠ n := fun e => by subst e; rw [hn] at q1; cases q1
      rw [iO 0 Ax, n7]
      exact ⟨q1, q2⟩
    · by_cases cz : k = n
      · subst cz
        rw [tk] at hi
        exact m.fL k hh i (by rw [hn]; exact Av i hi)
      · rw [iO k cz, zf] at hi
        exact m.fL k hh i hi
end
end Go.SX
/- Marks on told rows: rules. No condition. -/
namespace Go.SX
open Go.RowKit
set_option linter.unusedVariables false
set_option linter.unusedSimpArgs false
structure MT where
 t:Ty
 pre:t.den->Int->Prop
 F:t.den->Int->Int
 G:t.den->Int->t.den
def Ty.g1:Ty->Bool
 | .gs _ e=>e.flat
 | .sl _=>false
 | .st t=>t.g1
 | .pr a b=>a.g1&&b.g1
 | .ptr _=>false
 | .bZ _ _=>false
 | _=>true
section
variable {P : Program} {T : bN} {Γ : FuncId → Option PC} {R : FuncId → Option bW} {base : Nat} {M : LM} {w0 : World} {V : Vl} {hp : Nat → ax} {w w' : World}
def AG(has:Prop)(b0:Nat)(l:List Nat):LM:=⟨fun b=>(has/\b=b0)\/b∈l,fun b j=>j=0/\has/\b=b0,fun _=>True,fun _ _=>trivial,fun _=>False⟩
end
end Go.SX
/- Marks on told rows: the rules hold. No condition. -/
namespace Go.SX
open Go.RowKit
set_option linter.unusedVariables false
set_option linter.unusedSimpArgs false
section
variable {P : Program} {T : bN} {Γ : FuncId → Option PC} {R : FuncId → Option bW} {base : Nat} {M : LM} {w0 : World} {V : Vl} {hp : Nat → ax} {w w' : World}
theorem LO{has:Prop}{b0:Nat}{l:List Nat}(k0:Kept base M w0 w)(k:Kept w.heap.size (AG has b0 l) w w')(h1:has->base<=b0\/M b0)(h2:∀ i∈l,base<=i\/M i):Kept base M w0 w':=by
 refine⟨k.os.trans k0.os,k.tape.trans k0.tape,k.output.trans k0.output,Nat.le_trans k0.size k.size,fun b hb hM=>?_,fun b aq el hb hM hv=>?_⟩
 ·rw[k.block b (Nat.lt_of_lt_of_le hb k0.size) (fun hx=>?_)]
  ·exact k0.block b hb hM
  ·rcases hx with ⟨hh,e⟩|hx
   ·subst e;rcases h1 hh with h|h;omega;exact hM h
   ·rcases h2 b hx with h|h;omega;exact hM h
 ·obtain⟨v1,e1,g1,g2⟩:=k0.shape b aq el hb hM hv
  by_cases hx:(AG has b0 l) b
  ·obtain⟨v2,e2,g3,g4⟩:=k.shape b v1 e1 (Nat.lt_of_lt_of_le hb k0.size) hx g1
   exact⟨v2,e2,g3,g4.trans g2⟩
  ·exact⟨v1,e1,by rw[k.block b (Nat.lt_of_lt_of_le hb k0.size) hx];exact g1,g2⟩
theorem Rx{st:St}{n:Nat}{e:ax}(h:st.hp[n]? = some e):st.au n=e:=by
 show nth .dead st.hp n=e
 rw[cB,h];rfl
theorem Pz{st:St}{n:Nat}{e:ax}(h:st.au n=e)(hl:e.live=true):st.hp[n]? = some e:=by
 have h':nth .dead st.hp n=e:=h
 rw[cB] at h'
 cases hx:st.hp[n]? with
 | none=>rw[hx] at h';simp only[Option.getD_none] at h';subst h';cases hl
 | some y=>rw[hx] at h';exact congrArg some h'
theorem Gk{st:St}{ts:Array Value}(r:Rel base M w0 V st ts w){n:Nat}{fr:Bool}{e:Ty}{xs:List e.den}(hn:st.au n = .row fr e xs)(hw:fr=true\/n=0):(∀ i∈bV e xs,V.Z fr i)/\∀ i∈bV e xs,base<=i\/M i:=by
 have h0:=r.mem.ck n
 rw[hn] at h0
 have hz:∀ i∈bV e xs,V.Z fr i/\V.has n:=by
  intro i hi
  rcases h0 with ⟨_,h2⟩|⟨h1,aq,el,_,_,h4⟩
  ·rw[h2] at hi;cases hi
  ·exact⟨tp (fun j hj=>by obtain⟨es,_,_,k⟩:=h4 j hj;exact⟨es,k⟩) i hi,h1⟩
 refine⟨fun i hi=>(hz i hi).1,fun i hi=>?_⟩
 cases fr with
 | true =>
   rcases (hz i hi).1 with h|⟨h,_⟩
   ·exact .inl (r.mem.z1 i h).1
   ·cases h
 | false =>
   refine .inr (r.mem.fL n (hz i hi).2 i ?_ (hw.resolve_left (fun h=>by cases h)))
   rw[hn]
   show i∈(if e.bU then bV e xs else [])
   cases hg:e.bU with
   | true=>rw[if_pos rfl];exact hi
   | false =>
     have:bV e xs=[]:=l6 (.sl e) hg xs
     rw[this] at hi;cases hi
end
end Go.SX
/- A slice that a told row holds is written: the rule holds. No condition. -/
namespace Go.SX
open Go.RowKit
set_option linter.unusedVariables false
set_option linter.unusedSimpArgs false
section
variable {P : Program} {T : bN} {Γ : FuncId → Option PC} {R : FuncId → Option bW} {base : Nat} {M : LM} {w0 : World} {V : Vl} {hp : Nat → ax} {w w' : World}
end
end Go.SX
/- slices.Insert of one element into a row that the caller owns: the rule, and what a walk of its body must show. No condition. -/
namespace Go.SX
open Go.RowKit Go.Lib
set_option linter.unusedVariables false
set_option linter.unusedSimpArgs false
variable {P : Program}
theorem lx(w:World)(dT sT ty elem:TypeId)(i0:TypeInfo)(b o QE Uq:Nat)(a:Addr)(NZ Sr k:Nat)(cs:List Value)
 (hu:P.underlying dT=some (.slice elem)) (hi:P.info? elem=some i0) (hk:Nat.min NZ QE=k) (hn:cs.length=k*i0.size)
 (we:∀ j v,cs[j]? = some v->w.cell? (a.add j)=some v) (hc:∀ j,j<cs.length->(w.cell? ⟨b,o+j,none⟩).isSome=true) (hf:∀ j,j<cs.length->w.frozen? ⟨b,o+j,none⟩=false) (h1:∀ v∈cs,v.oneCell'=true) :
 (Builtin.copy_ #[dT,sT] ty #[.slice (some ⟨b,o,none⟩) QE Uq,.slice (some a) NZ Sr]).run P w = .ok (goInt k) (w.setCells b o cs):=by
 have hl:=run_firstCells_some (P:=P) w i0.size k a NZ Sr cs hn we
 have gf:=run_storeCells_cells (P:=P) b o cs 0 w (by simpa using hc) (by simpa using hf) h1
 simp only[Nat.add_zero] at gf
 simp[Builtin.copy_,run_underlying hu,Builtin.lenOf,sizeOf,typeInfo,hi,hk,hl,gf]
theorem Bi(w:World){o:Oper}{a:Act}{K:Act->World->Prop}{Q:Exit->Act->World->Prop}(d s:Operand)(t t':TypeId)
 (ho:o.op = .call { callee:=.builtin .copy,args := #[d,s],argTypes := #[t,t'] }) (v u:Value) (hd:a.eval d=v) (hs:a.eval s=u) {v':Value} {w':World}
 (hr:(Builtin.copy_ #[t,t'] o.type #[v,u]).run P w = .ok v' w') (h:K (a.put o.dst v') w'):o.wp P a w K Q:=by
 unfold Oper.wp execOp
 simp only[ho,resolve,invoke,builtin,Sem.run_bind,Sem.run_pure,Result.andThen_ok,List.map_toArray,List.map_cons,List.map_nil,hd,hs,hr]
 exact h
theorem oB(w:World){ops:Array Oper}{rest:List Oper}{o:Oper}{a:Act}{Q:Exit->Act->World->Prop}(V_:o.guard=none)(d s:Operand)(t t':TypeId)
 (ho:o.op = .call { callee:=.builtin .copy,args := #[d,s],argTypes := #[t,t'] }) (v u:Value) (hd:a.eval d=v) (hs:a.eval s=u) {v':Value} {w':World}
 (hr:(Builtin.copy_ #[t,t'] o.type #[v,u]).run P w = .ok v' w') (h:wpList P ops Q rest (a.put o.dst v') w'):wpList P ops Q (o::rest) a w :=
 wpList_plain V_ fun _ hK=>Bi w d s t t' ho v u hd hs hr (hK _ _ h)
theorem w3{ops:Array Oper}{o:Oper}{a:Act}{w:World}{K:Act->World->Prop}{Q:Exit->Act->World->Prop}{E:Prop}
 (hg:o.guard=none) (d x:Operand) (dT sT:TypeId) (k8:o.op=Op.call { callee:=Callee.builtin Builtin.copy,args := #[d,x],argTypes := #[dT,sT] })
 (v u:Value) (hd:a.eval d=v) (hx:a.eval x=u) {v':Value} {w':World} (hr:(Builtin.copy_ #[dT,sT] o.type #[v,u]).run P w = .ok v' w') (hK:K (a.put o.dst v') w') :
 if Region.wanted o (yielded ops a.tmps)=true then Oper.wp P o a w K Q else E:=by
 have hw:Region.wanted o (yielded ops a.tmps)=true:=by simp[Region.wanted,hg]
 rw[if_pos hw]
 exact Bi w d x dT sT k8 v u hd hx hr hK
theorem ra(b:Nat)(vs:List Value)(o:Nat)(w:World)(h:∀ j,j<vs.length->(w.cell? ⟨b,o+j,none⟩).isSome=true)(k:Nat)(hk:(w.cell? ⟨b,k,none⟩).isSome=true):((w.setCells b o vs).cell? ⟨b,k,none⟩).isSome=true:=by
 by_cases rQ:o<=k/\k<o+vs.length
 ·have:=World.cell?_setCells_in b vs o w h (k-o) (by omega)
  rw[show o+(k-o)=k by omega] at this
  rw[this];rfl
 ·rw[World.cell?_setCells_out b vs o w ⟨b,k,none⟩ (fun _ _=>by show k<o\/o+vs.length<=k;omega)]
  exact hk
theorem Is{α:Type}(V2 cs news:List α)(A N sz:Nat)(h1:∀ k,k<A->V2[k]? = cs[k]?)(h2:∀ k,k<sz->V2[A+k]? = news[k]?)(h3:∀ k,A<=k->k<N->V2[k+sz]? = cs[k]?)
 (hc:cs.length=N) (hn:news.length=sz) (hA:A<=N):V2.take (N+sz)=cs.take A++news++cs.drop A:=by
 apply List.ext_getElem?
 intro k
 have hl:(cs.take A).length=A:=by rw[List.length_take];omega
 have jf:(cs.take A++news).length=A+sz:=by rw[List.length_append,hl,hn]
 rw[List.getElem?_take]
 by_cases hk:k<N+sz
 ·rw[if_pos hk]
  by_cases np:k<A
  ·rw[List.getElem?_append_left (by omega),List.getElem?_append_left (by omega),List.getElem?_take,if_pos np]
   exact h1 k np
  ·by_cases mW:k<A+sz
   ·rw[List.getElem?_append_left (by omega),List.getElem?_append_right (by omega),hl]
    have:=h2 (k-A) (by omega)
    rw[show A+(k-A)=k by omega] at this
    exact this
   ·rw[List.getElem?_append_right (by omega),jf,List.getElem?_drop]
    have:=h3 (k-sz) (by omega) (by omega)
    rw[show k-sz+sz=k by omega] at this
    rw[this]
    congr 1
    omega
 ·rw[if_neg hk,List.getElem?_eq_none]
  rw[List.length_append,jf,List.length_drop]
  omega
structure Bl (P:Program) (f:FuncId) (sz fv:Nat) (S E:TypeId) (z:Value):Prop where
 tS:P.underlying S=some (.slice E)
 iE:(P.info? E).map (fun i=>(i.zero,i.size,i.bytes))=some (some z,sz,fv)
 hz:z.cells.size=sz
 h0:0<sz
 hb:sz<=fv
 shift:∀(b n c i vb m vc:Nat) (cs vs:List Value) (w:World),i<n->0<m->n+m<=c->n+m<=140737488355328->vb≠b->cs.length=n*sz->vs.length=m*sz →
  (∀(j:Nat) v,cs[j]? = some v->w.cell? ⟨b,j,none⟩=some v)->(∀ j,j<(n+m)*sz->(w.cell? ⟨b,j,none⟩).isSome=true)->(∀ j,w.frozen? ⟨b,j,none⟩=false) →
  (∀(j:Nat) v,vs[j]? = some v->w.cell? ⟨vb,j,none⟩=some v)->(∀ v∈cs,v.oneCell'=true)->(∀ v∈vs,v.oneCell'=true) →
  ∀(tA tB:TypeId) (kA kB:Nat),w.shape? vb=some (tA,kA)->w.shape? b=some (tB,kB)->kB≠0->w.frozen? ⟨vb,0,none⟩=false->w.frozen? ⟨vb,kA,none⟩=false →
  Calls P f #[.slice (some ⟨b,0,none⟩) n c,.int .i64 i,.slice (some ⟨vb,0,none⟩) m vc] w fun e w' =>
   e = .returned (.slice (some ⟨b,0,none⟩) (n+m) c)/\w'=(w.drew.setCells b ((i+m)*sz) (cs.drop (i*sz))).setCells b (i*sz) vs
 grow:∀(b n c i vb m vc:Nat) (cs vs:List Value) (w:World),i<n->0<m->n<=c->c<n+m->(n+m)*fv<=140737488355328->cs.length=n*sz->vs.length=m*sz →
  (∀(j:Nat) v,cs[j]? = some v->w.cell? ⟨b,j,none⟩=some v)->(∀(j:Nat) v,vs[j]? = some v->w.cell? ⟨vb,j,none⟩=some v)->(∀ v∈cs,v.oneCell'=true)->(∀ v∈vs,v.oneCell'=true) →
  Calls P f #[.slice (some ⟨b,0,none⟩) n c,.int .i64 i,.slice (some ⟨vb,0,none⟩) m vc] w fun e w' =>
   e = .returned (.slice (some ⟨w.heap.size,0,none⟩) (n+m) (grownCap w (n+m) c E)) ∧
   w'=(((w.alloc (.cells ((cs.take (i*sz)).toArray++Builtin.zeroCells z.cells (n+m-i)++Builtin.zeroCells z.cells (grownCap w (n+m) c E-(n+m))) E)).drew.setCells w.heap.size (i*sz) vs).drew).setCells w.heap.size ((i+m)*sz) (cs.drop (i*sz))
 last:∀(base:Option Addr) (n c vb m vc:Nat) (w:World),0<m->n<=c->∀ {v':Value} {w':World},(∀ ty,(Builtin.append_ #[S,S] ty #[.slice base n c,.slice (some ⟨vb,0,none⟩) m vc]).run P w = .ok v' w') →
  Calls P f #[.slice base n c,.int .i64 n,.slice (some ⟨vb,0,none⟩) m vc] w fun e SH=>e = .returned v'/\SH=w'
theorem Bl.run{f:FuncId}{sz fv:Nat}{S E:TypeId}{z:Value}(D:Bl P f sz fv S E z){v:Value}{n cap g i vb vc:Nat}{aq DV:Array Value}{el HY:TypeId}{news:List Value}{w:World}
 (hv:(v = .slice none 0 0/\n=0/\aq = #[])\/(v = .slice (some ⟨g,0,none⟩) n cap/\w.heap[g]? = some (.cells aq el (0,0))/\aq.size=cap*sz/\n<=cap/\vb≠g)) (hi:i<=n)
 (hb:w.heap[vb]? = some (.cells DV HY (0,0))) (hl:news.length=sz) (xq:∀(j:Nat) u,news[j]? = some u->DV[j]? = some u) (h1:∀ u∈news,u.oneCell'=true) (tc:∀ u∈aq.toList.take (n*sz),u.oneCell'=true)
 (v7:(n+1)*fv<=140737488355328) :
 Calls P f #[v,.int .i64 i,.slice (some ⟨vb,0,none⟩) 1 vc] w fun e w'=>∃ v',e = .returned v'/\(∃ g' ig,v' = .slice (some ⟨g',0,none⟩) (n+1) ig)/\yN w w' v v' sz (n+1) ((aq.toList.take (n*sz)).take (i*sz)++news++(aq.toList.take (n*sz)).drop (i*sz)):=by
 obtain⟨i0,nk,la,jh,Ly⟩:=info_parts D.iE
 have fx:=D.h0
 have TW:=D.hb
 have E_:n+1<=140737488355328:=by
  have h1:1<=fv:=by omega
  have h2:(n+1)*1<=(n+1)*fv:=Nat.mul_le_mul_left _ h1
  omega
 have we:∀(j:Nat) u,news[j]? = some u->w.cell? ⟨vb,j,none⟩=some u:=fun j u hj=>by rw[(fS hb j).1];exact xq j u hj
 by_cases rQ:i=n
 ·subst rQ
  have ir:(aq.toList.take (i*sz)).take (i*sz)++news++(aq.toList.take (i*sz)).drop (i*sz)=aq.toList.take (i*i0.size)++news:=by
   rw[jh,List.take_take,Nat.min_self,List.drop_eq_nil_of_le (by rw[List.length_take];omega),List.append_nil]
  rw[ir]
  obtain⟨v',w',hr,ha,tg,_⟩:=oh (P:=P) (ty:=0) (w:=w) D.tS nk la (by rw[jh];exact D.hz) (by omega) (v:=v) (h:=i) (cap:=cap) (g:=g) (aq:=aq) (el:=el)
   (by rcases hv with h|⟨q1,q2,q3,q4,_⟩;exact .inl h;exact .inr ⟨q1,q2,by rw[jh];exact q3,q4⟩) (aa:=some ⟨vb,0,none⟩) (m:=1) (c:=vc) (news:=news) (by rw[jh];omega) (fun _=>⟨vb,0,rfl,fun j u hj=>by rw[Nat.zero_add];exact we j u hj⟩) h1 (by omega) (by rw[Ly];exact v7)
  rw[jh] at ha
  rw[jh]
  have TV:∀ ty,(Builtin.append_ #[S,S] ty #[v,.slice (some ⟨vb,0,none⟩) 1 vc]).run P w = .ok v' w':=fun ty=>hr
  rcases hv with ⟨rfl,rfl,rfl⟩|⟨rfl,q2,q3,q4,_⟩
  ·refine (D.last none 0 0 vb 1 vc w (by omega) (by omega) TV).mono ?_
   rintro e1 w1 ⟨rfl,rfl⟩
   exact⟨_,rfl,tg (by omega),ha⟩
  ·refine (D.last (some ⟨g,0,none⟩) i cap vb 1 vc w (by omega) q4 TV).mono ?_
   rintro e1 w1 ⟨rfl,rfl⟩
   exact⟨_,rfl,tg (by omega),ha⟩
 ·rcases hv with ⟨rfl,rfl,rfl⟩|⟨rfl,q2,q3,q4,q5⟩
  ·omega
  have vr:aq.toList.length=aq.size:=Array.length_toList
  have TR:n*sz<=cap*sz:=Nat.mul_le_mul_right _ q4
  have Nk:i*sz<=n*sz:=Nat.mul_le_mul_right _ hi
  obtain⟨cs,eH⟩:∃ cs,cs=aq.toList.take (n*sz):=⟨_,rfl⟩
  have gC:cs.length=n*sz:=by rw[eH,List.length_take,vr,q3];omega
  have Le:∀ k,k<n*sz->cs[k]? = aq[k]? := fun k hk=>by rw[eH,List.getElem?_take,if_pos hk,Array.getElem?_toList]
  have DX:∀(j:Nat) u,cs[j]? = some u->w.cell? ⟨g,j,none⟩=some u:=fun j u hj=>by
   have:=(List.getElem?_eq_some_iff.1 hj).1
   rw[(fS q2 j).1,<-Le j (by omega)];exact hj
  rw[<-eH] at tc ⊢
  have e1:(n+1)*sz=n*sz+sz:=by rw[Nat.add_mul,Nat.one_mul]
  have e2:(i+1)*sz=i*sz+sz:=by rw[Nat.add_mul,Nat.one_mul]
  have Ih:(cs.drop (i*sz)).length=n*sz-i*sz:=by rw[List.length_drop,gC]
  by_cases oQ:n+1<=cap
  ·have X9:(n+1)*sz<=cap*sz:=Nat.mul_le_mul_right _ oQ
   refine (D.shift g n cap i vb 1 vc cs news w (by omega) (by omega) oQ E_ q5 gC (by omega) DX (fun j hj=>?_) (fun j=>(fS q2 j).2) we tc h1 HY el DV.size aq.size (by simp[World.shape?,hb]) (by simp[World.shape?,q2]) (by omega) (fS hb _).2 (fS hb _).2).mono ?_
   ·rw[(fS q2 j).1,Array.getElem?_eq_getElem (by omega)];rfl
   ·rintro Ez w1 ⟨rfl,rfl⟩
    obtain⟨va,a1,a2,a3⟩:=fi g el (cs.drop (i*sz)) ((i+1)*sz) w.drew aq q2 (by omega)
    obtain⟨SE,b1,b2,b3⟩:=fi g el news (i*sz) _ va a1 (by omega)
    obtain⟨c1,c2,c3,c4,c5⟩:=fj g (cs.drop (i*sz)) ((i+1)*sz) w.drew
    obtain⟨d1,d2,d3,d4,d5⟩:=fj g news (i*sz) (w.drew.setCells g ((i+1)*sz) (cs.drop (i*sz)))
    have Wb:g<w.heap.size:=(Array.getElem?_eq_some_iff.1 q2).1
    refine⟨_,rfl,⟨_,_,rfl⟩,.row g cap SE el rfl b1 (by omega) oQ ?_ (.inl ⟨n,rfl,Wb,d1.trans c1⟩) (fun b hb _=>(d2 b hb).trans (c2 b hb)) ⟨d3.trans c3,d4.trans c4,d5.trans c5⟩⟩
    rw[e1]
    refine Is _ cs news (i*sz) (n*sz) sz (fun k hk=>?_) (fun k hk=>?_) (fun k np mW=>?_) gC hl Nk
    ·rw[Array.getElem?_toList,b3,if_neg (by omega),a3,if_neg (by omega),Le k (by omega)]
    ·rw[Array.getElem?_toList,b3,if_pos (by omega)];congr 1;omega
    ·rw[Array.getElem?_toList,b3,if_neg (by omega),a3,if_pos (by omega),List.getElem?_drop];congr 1;omega
  ·have TE:=grownCap_ge w (n+1) cap E
   have XD:(n+1)*sz<=grownCap w (n+1) cap E*sz:=Nat.mul_le_mul_right _ TE
   have e3:n*sz-i*sz+i*sz=n*sz:=by omega
   refine (D.grow g n cap i vb 1 vc cs news w (by omega) (by omega) q4 (by omega) v7 gC (by omega) DX we tc h1).mono ?_
   rintro Ez w1 ⟨rfl,rfl⟩
   obtain⟨ic,yY⟩:∃ ic:Array Value,ic=(cs.take (i*sz)).toArray++Builtin.zeroCells z.cells (n+1-i)++Builtin.zeroCells z.cells (grownCap w (n+1) cap E-(n+1)):=⟨_,rfl⟩
   have XZ:ic.size=grownCap w (n+1) cap E*sz:=by
    rw[yY]
    simp only[Array.size_append,List.size_toArray,List.length_take,Builtin.zeroCells,Array.size_map,Array.size_range,D.hz,gC]
    rw[Nat.min_eq_left Nk,<-Nat.add_mul,<-Nat.add_mul]
    congr 1;omega
   have Vu:∀ k,k<i*sz->ic[k]? = cs[k]? := fun k hk=>by
    have jf:(cs.take (i*sz)).toArray.size=i*sz:=by rw[List.size_toArray,List.length_take];omega
    rw[yY,Array.append_assoc,Array.getElem?_append_left (by omega),List.getElem?_toArray,List.getElem?_take,if_pos hk]
   rw[<-yY]
   generalize grownCap w (n+1) cap E=G at *
   have EV:(w.alloc (.cells ic E)).drew.heap[w.heap.size]? = some (.cells ic E (0,0)):=by
    show (w.heap.push _)[w.heap.size]? = _
    rw[Array.getElem?_push_size]
   have has:(w.alloc (.cells ic E)).drew.heap.size=w.heap.size+1:=by show (w.heap.push _).size=_;rw[Array.size_push]
   have VQ:∀ b,b<w.heap.size->(w.alloc (.cells ic E)).drew.heap[b]? = w.heap[b]? := fun b hb=>by
    show (w.heap.push _)[b]? = _
    rw[Array.getElem?_push];rw[if_neg (by omega)]
   obtain⟨va,a1,a2,a3⟩:=fi w.heap.size E news (i*sz) _ ic EV (by omega)
   obtain⟨c1,c2,c3,c4,c5⟩:=fj w.heap.size news (i*sz) (w.alloc (.cells ic E)).drew
   obtain⟨SE,b1,b2,b3⟩:=fi w.heap.size E (cs.drop (i*sz)) ((i+1)*sz) ((w.alloc (.cells ic E)).drew.setCells w.heap.size (i*sz) news).drew va a1 (by omega)
   obtain⟨d1,d2,d3,d4,d5⟩:=fj w.heap.size (cs.drop (i*sz)) ((i+1)*sz) ((w.alloc (.cells ic E)).drew.setCells w.heap.size (i*sz) news).drew
   refine⟨_,rfl,⟨_,_,rfl⟩,.row w.heap.size G SE E rfl b1 (by omega) TE ?_ (.inr ⟨rfl,d1.trans (c1.trans has)⟩) (fun b hb jW=>(d2 b hb).trans ((c2 b hb).trans (VQ b jW))) ⟨d3.trans c3,d4.trans c4,d5.trans c5⟩⟩
   rw[e1]
   refine Is _ cs news (i*sz) (n*sz) sz (fun k hk=>?_) (fun k hk=>?_) (fun k np mW=>?_) gC hl Nk
   ·rw[Array.getElem?_toList,b3,if_neg (by omega),a3,if_neg (by omega),Vu k hk]
   ·rw[Array.getElem?_toList,b3,if_neg (by omega),a3,if_pos (by omega)];congr 1;omega
   ·rw[Array.getElem?_toList,b3,if_pos (by omega),List.getElem?_drop];congr 1;omega
section
variable {base : Nat} {M : LM} {w0 : World} {V : Vl}
theorem P5{st:St}{ts:Array Value}{w:World}(r:Rel base M w0 V st ts w){m:Nat}{e:Ty}{xs ys:List e.den}(hm:st.au m = .row true e xs){v v':Value}{w':World}(hs:cR V w m e xs.length v){all:List Value}
 (ha:yN w w' v v' e.size ys.length all) (hk:xs.length<ys.length) (hlen:ys.length<=cX) (cd:∃ g' ig,v' = .slice (some ⟨g',0,none⟩) ys.length ig) (cY:∀ de:Array Value,de.toList.take (ys.length*e.size)=all->jO (V.Z true) w e de ys) :
 ∃ V',Rel base M w0 V' { (st.map (bB m)) with hp:=bD (st.map (bB m)).hp m (.row true e ys) } ts w' ∧
  S.ok V' (St.mk (st.map (bB m)).ts (bD (st.map (bB m)).hp m (.row true e ys))).au w' (.c (.own m)) v':=by
 have CV:=r.mem.ck m
 rw[hm] at CV
 have hl:(st.au m).live=true:=by rw[hm];rfl
 have aZ:m<st.hp.length:=gP hl
 have dS:(St.mk (st.map (bB m)).ts (bD (st.map (bB m)).hp m (.row true e ys))).au m = .row true e ys:=by
  rw[gj (by show m<(lmap _ _).length;rw[bt,List.length_map];exact aZ)]
  simp only[az,if_true]
 cases ha with
 | same h1 h2 =>
   exfalso
   subst h1
   obtain⟨g',ig,cd⟩:=cd
   rcases hs with ⟨_,k2,_⟩|⟨_,cap,_,_,k2,_⟩
   ·rw[k2] at cd;cases cd
   ·rw[k2] at cd;injection cd with _ h _;omega
 | row g' ig de jP h1 h2 h3 h4 h5 h6 h7 h8 =>
   have iu:(V.has m/\g'=V.aE m/\w'.heap.size=w.heap.size)\/(g'=w.heap.size/\w'.heap.size=w.heap.size+1):=by
    rcases h6 with ⟨l0,e1,e2,e3⟩|h6
    ·left
     rcases hs with ⟨k1,k2,k3⟩|⟨k1,cap,aq,el,k2,k3,k4,k5⟩
     ·rw[k2] at e1;cases e1
     ·rw[k2] at e1
      injection e1 with e1 _ _
      injection e1 with e1
      injection e1 with e1
      exact⟨k1,e1.symm,e3⟩
    ·exact .inr h6
   have EZ:g'<w'.heap.size:=(Array.getElem?_eq_some_iff.1 h2).1
   have cv:w.heap.size<=w'.heap.size:=by rcases iu with ⟨_,_,h⟩|⟨_,h⟩<;>omega
   have iN:∀ b,b<w.heap.size->(V.has m->b≠V.aE m)->w'.heap[b]? = w.heap[b]? := by
    intro b hb bb
    refine h7 b (fun e=>?_) hb
    rcases iu with ⟨q1,q2,_⟩|⟨q1,_⟩
    ·exact bb q1 (by rw[e,q2])
    ·omega
   have Az:base<=g'\/M g':=by
    rcases iu with ⟨q1,q2,_⟩|⟨q1,_⟩
    ·rw[q2];exact (r.mem.own m hl q1).1
    ·left;have:=r.mem.kept.size;omega
   have Jt:Kept base M w0 w':=by
    refine⟨h8.1.trans r.mem.kept.os,h8.2.1.trans r.mem.kept.tape,h8.2.2.trans r.mem.kept.output,Nat.le_trans r.mem.kept.size cv,fun b hb hM=>?_,fun b se CF hb hM Il=>?_⟩
    ·rw[h7 b (fun e=>by subst e;rcases Az with h|h;omega;exact hM h) (by have:=r.mem.kept.size;omega)]
     exact r.mem.kept.block b hb hM
    ·obtain⟨xE,x7,j1,j2⟩:=r.mem.kept.shape b se CF hb hM Il
     by_cases v5:b=g'
     ·subst v5
      rcases iu with ⟨q1,q2,_⟩|⟨q1,_⟩
      ·rcases h6 with ⟨l0,e1,_,_⟩|⟨h6,_⟩
       ·rcases hs with ⟨k1,k2,k3⟩|⟨k1,cap,aq,el,k2,k3,k4,k5⟩
        ·rw[k2] at e1;cases e1
        ·rw[k2] at e1
         injection e1 with _ _ e2
         subst e2
         rw[q2,k3] at j1
         injection j1 with j1
         injection j1 with j1 _ _
         subst j1
         exact⟨de,jP,h2,by rw[h3,<-k4];exact j2⟩
       ·exfalso;have:=r.mem.kept.size;omega
      ·exfalso;have:=r.mem.kept.size;omega
     ·exact⟨xE,x7,by rw[h7 b v5 (by have:=r.mem.kept.size;omega)];exact j1,j2⟩
   have CQ:∀ {f:Bool} {b:Nat},V.Z f b->w'.heap[b]? = w.heap[b]? := by
    intro f b hb
    exact iN b (r.mem.pP hb) (fun hh e=>by subst e;exact (r.mem.own m hl hh).2.2 (Vl.cN hb))
   have Ff:jO ((V.move m g').Z true) w' e de ys:=by
    intro j hj
    obtain⟨es,p1,p2,p3⟩:=cY de h5 j hj
    exact⟨es,p1,p2,p3.mono (fun b hb=>hb) (fun b hb=>CQ hb)⟩
   subst h1
   refine⟨V.move m g',?_,⟨true,e,_,dS,.inr ⟨uF V m g',ig,de,jP,by rw[hH],by rw[hH];exact h2,h3,h4⟩⟩⟩
   refine qq r hm Jt cv iN (fun n hn=>Iw hn) rfl rfl (fun aH _=>?_) (fun _=>?_) (fun _ _=>?_) (fun aZ _=>False.elim aZ) (fun _ q hq=>by cases hq)
   ·exact .inr ⟨uF V m g',de,jP,by rw[hH];exact h2,hlen,Ff⟩
   ·rw[hH]
    refine⟨Az,EZ,?_⟩
    rcases iu with ⟨q1,q2,_⟩|⟨q1,_⟩
    ·exact .inr ⟨q1,q2⟩
    ·exact .inl (by omega)
   ·rw[hH]
    rcases iu with ⟨q1,q2,_⟩|⟨q1,_⟩
    ·rw[q2];exact r.mem.eK m e xs hm q1
    ·have:=r.mem.kept.size;omega
end
def JM(e2 e:Ty)(ys:List e2.den):Option (Prop×List e.den) :=
 if h:e2=e then some (True,eW h ys) else if h:e2=e.cc then some ((∀ y∈eW h ys,wv e y),(eW h ys).map (fJ e)) else none
theorem Nt{e2 e:Ty}{ys:List e2.den}{p:Prop}{zs:List e.den}(h:JM e2 e ys=some (p,zs))(hp:p):zs.length=ys.length/\e2.size=e.size ∧
 ∀(i:Nat) (h:i<ys.length) (h':i<zs.length) {cs:List Value} {Z:Nat->Prop} {w:World},aF Z w e2 cs ys[i]->aF Z w e cs zs[i]:=by
 unfold JM at h
 split at h
 ·rename_i he
  subst he
  injection h with h
  injection h with h1 h2
  subst h2
  exact⟨rfl,rfl,fun i _ _ _ _ _ h=>h⟩
 ·split at h
  ·rename_i he
   subst he
   injection h with h
   injection h with h1 h2
   subst h2
   subst h1
   refine⟨by rw[List.length_map];rfl,bJ e,fun i hi c7 cs Z w hr=>?_⟩
   rw[List.getElem_map]
   exact aF.fJ e hr (hp _ (List.getElem_mem (l:=ys) hi))
  ·cases h
def tr(e:Ty)(fv:Nat):bW:=fun ss st K =>
 match ss with
 | [.c (.own m),.c (.val (.int .i64 i)),.c (.own k)] =>
   match st.au m,st.au k with
   | .row true e' xs,.row true e2 IT =>
     match JM e2 e' IT with
     | some (p,ys) =>
       if e'.cc=e.cc&&m != k then
        (p/\0<=i/\i<=(xs.length:Nat)/\ys.length=1/\(xs.length+1)*fv<=140737488355328) ∧
          K (.c (.own m)) { (st.map (bB m)) with hp:=bD (st.map (bB m)).hp m (.row true e' (xs.take i.toNat++ys++xs.drop i.toNat)) }
       else False
     | none=>False
   | _,_=>False
 | _=>False
theorem Nu {f : FuncId} {e : Ty} {fv : Nat} {S' E : TypeId} {z : Value} (D : Bl P f e.size fv S' E z) : fO P f (tr e fv) := by
  intro base M w0 V st ts w ss vs K r hlen iv hr
  unfold tr at hr
  split at hr
  case h_2 => exact hr.elim
  rename_i m i k
  split at hr
  case h_2 => exact hr.elim
  rename_i e' xs e2 IT hm mW
  split at hr
  case h_2 => exact hr.elim
  rename_i p ys tm
  split at hr
  case isFalse => exact hr.elim
  rename_i he
  simp only [Bool.and_eq_true, decide_eq_true_eq, bne_iff_ne, ne_eq] at he
  obtain ⟨he, Ws⟩ := he
  have Nn : e.size = e'.size := by rw [← bJ e, ← he, bJ e']
  rw [Nn] at D
  obtain ⟨⟨hp, nk, rP, RS, v7⟩, hK⟩ := hr
  obtain ⟨v0, v1, v2, rfl⟩ : ∃ v0 v1 v2, vs = [v0, v1, v2] := by
    match vs, hlen with
    | [a, b, c], _ => exact ⟨a, b, c, rfl⟩
  have k0 := iv 0 _ _ rfl rfl
  have k1 := iv 1 _ _ rfl rfl
  have k2 := iv 2 _ _ rfl rfl
  obtain ⟨rfl, _⟩ := (k1 : v1 = .int .i64 i ∧ _)
  obtain ⟨Vi, e9, Pe, Aw, cY⟩ := k0
  rw [hm] at Aw
  injection Aw with q1 q2 q3
  subst q1; subst q2
  have q3 := eq_of_heq q3
  subst q3
  obtain ⟨To, e8, Um, vo, SY⟩ := k2
  rw [mW] at vo
  injection vo with q1 q2 q3
  subst q1; subst q2
  have q3 := eq_of_heq q3
  subst q3
  obtain ⟨jf, OS, La⟩ := Nt tm hp
  obtain ⟨i, rfl⟩ := Int.eq_ofNat_of_zero_le nk
  simp only [Int.toNat_natCast] at hK
  have Rg : i ≤ xs.length := by omega
  have CV := r.mem.ck m
  rw [hm] at CV
  have RG := r.mem.ck k
  rw [mW] at RG
  have hl : (st.au m).live = true := by rw [hm]; rfl
  have nq : (st.au k).live = true := by rw [mW]; rfl
  rcases SY with ⟨_, _, h3⟩ | ⟨ye, MQ, DV, HY, rfl, dW, jW, Tw⟩
  · omega
  rcases RG with ⟨g1, _⟩ | ⟨_, Vg, Xx, Lb, X1, VT⟩
  · exact absurd ye g1
  rw [dW] at Lb
  injection Lb with Lb
  injection Lb with qa qb _
  subst qa; subst qb
  obtain ⟨es, p1, p2, p3⟩ := VT 0 (by omega)
  have Xi := La 0 (by omega) (by omega) p3
  have WZ : IT.length = 1 := by omega
  rw [WZ]
  -- the row's cells
  obtain ⟨cap, g, aq, el, hv, RE, vq⟩ : ∃ (cap g : Nat) (aq : Array Value) (el : TypeId),
      ((v0 = .slice none 0 0 ∧ xs.length = 0 ∧ aq = #[]) ∨ (v0 = .slice (some ⟨g, 0, none⟩) xs.length cap ∧ w.heap[g]? = some (.cells aq el (0, 0)) ∧ aq.size = cap * e'.size ∧ xs.length ≤ cap ∧ V.aE k ≠ g)) ∧
      jO (V.Z true) w e' aq xs ∧ xs.length * e'.size ≤ aq.size := by
    rcases cY with ⟨h1, h2, h3⟩ | ⟨h1, cap, aq, el, h2, h3, h4, h5⟩
    · exact ⟨0, 0, #[], 0, .inl ⟨h2, h3, rfl⟩, fun j hj => by omega, by rw [h3]; simp⟩
    · rcases CV with ⟨g1, _⟩ | ⟨_, de, jP, g2, g3, g4⟩
      · exact absurd h1 g1
      rw [h3] at g2
      injection g2 with g2
      injection g2 with QV QW _
      subst QV; subst QW
      exact ⟨cap, V.aE m, aq, el, .inr ⟨h2, h3, h4, h5, fun e => Ws (r.mem.fw k m nq hl ye h1 e).symm⟩, g4, by rw [h4]; exact Nat.mul_le_mul_right _ h5⟩
  have fx := e'.size_pos
  have kO : ∀ u ∈ aq.toList.take (xs.length * e'.size), u.oneCell' = true := by
    intro u hu
    obtain ⟨t, hu⟩ := List.mem_iff_getElem?.1 hu
    rw [List.getElem?_take] at hu
    split at hu
    case isFalse => cases hu
    rename_i ht
    rw [Array.getElem?_toList] at hu
    have hx : t / e'.size < xs.length := (Nat.div_lt_iff_lt_mul fx).2 ht
    obtain ⟨iI, p1, p2, p3⟩ := RE (t / e'.size) hx
    have sC : t % e'.size < iI.length := by rw [p1]; exact Nat.mod_lt _ fx
    have := p2 (t % e'.size) _ (List.getElem?_eq_getElem sC)
    rw [show (t / e'.size) * e'.size + t % e'.size = t by rw [Nat.mul_comm, Nat.div_add_mod]] at this
    rw [this] at hu
    injection hu with hu
    subst hu
    exact p3.cO _ (List.getElem_mem sC)
  refine (D.run hv Rg dW (by rw [← OS, p1]) (fun j u hj => by have := p2 j u hj; rwa [Nat.zero_mul, Nat.zero_add] at this) (fun u hu => p3.cO u hu) kO v7).mono ?_
  rintro e1 w1 ⟨v', rfl, tg, ha⟩
  have nr : (xs.take i ++ ys ++ xs.drop i).length = xs.length + 1 := by
    rw [List.length_append, List.length_append, List.length_take, List.length_drop, RS]; omega
  have X6 : xs.length + 1 ≤ cX := by
    have h1 : 1 ≤ fv := by have := D.hb; omega
    have h2 : (xs.length + 1) * 1 ≤ (xs.length + 1) * fv := Nat.mul_le_mul_left _ h1
    unfold cX; omega
  rw [← nr] at ha tg
  obtain ⟨V', hR, hS⟩ := P5 r hm cY ha (by omega) (by omega) tg (fun de h5 => by
    intro x hx
    rw [nr] at hx h5
    have eH : (aq.toList.take (xs.length * e'.size)).length = xs.length * e'.size := by
      have : aq.toList.length = aq.size := Array.length_toList
      rw [List.length_take, this]; omega
    have rQ : i * e'.size ≤ xs.length * e'.size := Nat.mul_le_mul_right _ Rg
    have EY : es.length = e'.size := by rw [p1]; exact OS
    have e1 : (xs.length + 1) * e'.size = xs.length * e'.size + e'.size := by rw [Nat.add_mul, Nat.one_mul]
    have CX : (x + 1) * e'.size ≤ (xs.length + 1) * e'.size := Nat.mul_le_mul_right _ (by omega)
    have QG : (x + 1) * e'.size = x * e'.size + e'.size := by rw [Nat.add_mul, Nat.one_mul]
    have BD : ∀ j u, j < e'.size → ((aq.toList.take (xs.length * e'.size)).take (i * e'.size) ++ es ++ (aq.toList.take (xs.length * e'.size)).drop (i * e'.size))[x * e'.size + j]? = some u → de[x * e'.size + j]? = some u := by
      intro j u hj hu
      rw [← h5, List.getElem?_take, if_pos (by omega)] at hu
      simpa using hu
    have OF : ((aq.toList.take (xs.length * e'.size)).take (i * e'.size)).length = i * e'.size := by rw [List.length_take]; omega
    have Wl : ((aq.toList.take (xs.length * e'.size)).take (i * e'.size) ++ es).length = i * e'.size + e'.size := by rw [List.length_append, OF, EY]
    have RP : (xs.take i).length = i := by rw [List.length_take]; omega
    have UX : (xs.take i ++ ys).length = i + 1 := by rw [List.length_append, RP, RS]
    by_cases Fk : x < i
    · have WT : (x + 1) * e'.size ≤ i * e'.size := Nat.mul_le_mul_right _ Fk
      obtain ⟨iI, r1, r2, r3⟩ := RE x (by omega)
      refine ⟨iI, r1, fun j u hu => ?_, ?_⟩
      · have hj : j < e'.size := by rw [← r1]; exact (List.getElem?_eq_some_iff.1 hu).1
        refine BD j u hj ?_
        rw [List.getElem?_append_left (by omega), List.getElem?_append_left (by omega), List.getElem?_take, if_pos (by omega), List.getElem?_take, if_pos (by omega), Array.getElem?_toList]
        exact r2 j u hu
      · rw [List.getElem_append_left (by omega), List.getElem_append_left (by omega), List.getElem_take]
        exact r3
    · by_cases RO : x = i
      · subst RO
        refine ⟨es, EY, fun j u hu => ?_, ?_⟩
        · have hj : j < e'.size := by rw [← EY]; exact (List.getElem?_eq_some_iff.1 hu).1
          refine BD j u hj ?_
          rw [List.getElem?_append_left (by omega), List.getElem?_append_right (by omega), OF, show x * e'.size + j - x * e'.size = j by omega]
          exact hu
        · rw [List.getElem_append_left (by omega), List.getElem_append_right (by omega)]
          simp only [RP, Nat.sub_self]
          exact Xi
      · obtain ⟨iI, r1, r2, r3⟩ := RE (x - 1) (by omega)
        have WT : (i + 1) * e'.size ≤ x * e'.size := Nat.mul_le_mul_right _ (by omega)
        have e3 : (i + 1) * e'.size = i * e'.size + e'.size := by rw [Nat.add_mul, Nat.one_mul]
        have e4 : x * e'.size = (x - 1) * e'.size + e'.size := by conv => lhs; rw [show x = x - 1 + 1 by omega, Nat.add_mul, Nat.one_mul]
        refine ⟨iI, r1, fun j u hu => ?_, ?_⟩
        · have hj : j < e'.size := by rw [← r1]; exact (List.getElem?_eq_some_iff.1 hu).1
          refine BD j u hj ?_
          rw [List.getElem?_append_right (by omega), Wl, List.getElem?_drop, show i * e'.size + (x * e'.size + j - (i * e'.size + e'.size)) = (x - 1) * e'.size + j by omega, List.getElem?_take, if_pos (by omega), Array.getElem?_toList]
          exact r2 j u hu
        · rw [List.getElem_append_right (by omega)]
          simp only [UX, List.getElem_drop]
          have : i + (x - (i + 1)) = x - 1 := by omega
          simp only [this]
          exact r3)
  exact ⟨v', rfl, V', _, _, hK, hR, hS⟩
end Go.SX
/- A told row that is cut at its end: the rule. No condition. -/
namespace Go.SX
open Go.RowKit
set_option linter.unusedVariables false
set_option linter.unusedSimpArgs false
structure CT where
 e:Ty
 pre:Int->List e.den->Prop
 F:Int->List e.den->Nat
def mf(c:Int)(e:Ty)(xs:List e.den)(ntmps:Nat):St:={ ts:=.agg [.val (.int .i64 c),.pre 0 xs.length]::kQ .ew (ntmps-1),hp:=[.row false e xs] }
def zz(T:bN)(fn:Func)(c:Int)(e:Ty)(xs:List e.den)(h:Nat)(ex:Ex)(st:St):Prop :=
 match ex with
 | .exit _=>False
 | _ =>
   match lh T st fn.results.toList with
   | some [.agg [.val (.int .i64 c'),.pre 0 k]]=>c'=c/\k=h/\cT (qt st.au 0 [.row true e xs])
   | _=>False
def tN(T:bN)(Γ:FuncId->Option PC)(R:FuncId->Option bW)(fn:Func)(ct:CT)(A:Int×List ct.e.den->Nat->Option bq):Prop :=
 match fn.body with
 | some code=>∀ c xs,i64.min<=c/\c<=i64.max->(Ty.sl ct.e).wf xs->ct.pre c xs->vc T Γ R code (A (c,xs)) (mf c ct.e xs fn.ntmps) fun e _ st=>zz T fn c ct.e xs (ct.F c xs) e st
 | none=>False
def I8(n:Nat)(e:Ty)(xs:List e.den)(h:Nat)(st:St):St :=
 { (({ (st.map (dk false)) with hp:=bD (st.map (dk false)).hp n (.row true e xs) }:St).map (bB n)) with hp:=bD (({ (st.map (dk false)) with hp:=bD (st.map (dk false)).hp n (.row true e xs) }:St).map (bB n)).hp n (.row true e (xs.take h)) }
def Om(n:Nat)(l:List Nat)(c:Int)(e:Ty)(xs:List e.den)(h:Nat)(st:St)(K:S->St->Prop):Prop :=
 cT (me n l 0 st.hp)/\K (.agg [.val (.int .i64 c),.own n]) (I8 n e xs h st)
def lC(ct:CT):bW:=fun ss st K =>
 match ss with
 | [.agg [.val (.int .i64 c),.own n]] =>
   match st.au n with
   | .row true e' xs =>
     if h:e'=ct.e then ct.pre c (eW h xs)/\Om n (bV ct.e (eW h xs)) c ct.e (eW h xs) (ct.F c (eW h xs)) (st.xj (ff n 0 st.hp)) K
     else False
   | _=>False
 | _=>False
section
variable {P : Program} {T : bN} {Γ : FuncId → Option PC} {R : FuncId → Option bW} {base : Nat} {M : LM} {w0 : World} {V : Vl} {hp : Nat → ax} {w w' : World}
theorem MU(hm:P.follows .mixedOrders=true)(hT:bP P T)(hΓ:dh P Γ)(hR:cj P R){f:FuncId}{fn:Func}(hf:P.funcs[f]? = some fn){ct:CT}{A:Int×List ct.e.den->Nat->Option bq}
 (h:tN T Γ R fn ct A) {v0:Value} {c:Int} {xs:List ct.e.den} {b0:Nat} {has:Prop} (hg:ct.e.kX=true)
 (JB:∀ V' aH,aH 0 = .row false ct.e xs->(V'.has 0↔has)->V'.aE 0=b0->C.ok V' aH w (.own 0) v0)
 (UL:¬has->xs=[]) (cY:has->∃ aq el,w.heap[b0]? = some (.cells aq el (0,0))/\xs.length<=cX/\jO (fun i=>i∈bV ct.e xs) w ct.e aq xs) (hb:has->b0 ∉ bV ct.e xs) (aZ:∀ i∈bV ct.e xs,i<w.heap.size)
 (Ln:i64.min<=c/\c<=i64.max) (dD:ct.pre c xs) (gC:(Ty.sl ct.e).wf xs) :
 Calls P f #[.agg #[.int .i64 c,v0]] w fun e1 w'=>∃ v1,e1 = .returned (.agg #[.int .i64 c,v1]) ∧
  Kept w.heap.size (AG has b0 (bV ct.e xs)) w w'/\(has->∃ bn eg,w'.heap[b0]? = some (.cells bn eg (0,0))/\jO (fun i=>i∈bV ct.e xs) w' ct.e bn xs)/\ct.F c xs<=xs.length ∧
  ((v1 = .slice none 0 0/\ct.F c xs=0)\/(has/\∃ cap aq el,v1 = .slice (some ⟨b0,0,none⟩) (ct.F c xs) cap/\w'.heap[b0]? = some (.cells aq el (0,0))/\aq.size=cap*ct.e.size/\ct.F c xs<=cap)):=by
 unfold tN at h
 split at h
 case h_2=>exact h.elim
 rename_i code rM
 have Lw:=h c xs Ln gC dD
 let V0:Vl:=⟨fun _=>b0,fun j=>j=0/\has,fun b=>b∈bV ct.e xs,fun _=>False⟩
 have dS:∀ j,(mf c ct.e xs fn.ntmps).au j=if j=0 then .row false ct.e xs else .dead:=by
  intro j
  show nth .dead [ax.row false ct.e xs] j=_
  cases j with
  | zero=>rfl
  | succ j=>rfl
 have h0:(mf c ct.e xs fn.ntmps).au 0 = .row false ct.e xs:=by rw[dS];rfl
 have mT:∀ j,j≠0->(mf c ct.e xs fn.ntmps).au j = .dead:=fun j hj=>by rw[dS,if_neg hj]
 have tf:∀ j,((mf c ct.e xs fn.ntmps).au j).live=true->j=0:=by
  intro j hj
  by_cases e:j=0
  ·exact e
  ·rw[mT j e] at hj;cases hj
 have FD:Mem w.heap.size (AG has b0 (bV ct.e xs)) w V0 (mf c ct.e xs fn.ntmps).au w:=by
  refine⟨fun j=>?_,fun j cs hj=>?_,fun j hj hh=>?_,fun j e ys hj=>?_,fun j j' hj kZ _ _ _=>?_,fun b h=>⟨aZ b h,trivial⟩,fun b h=>h.elim,⟨rfl,rfl,rfl,Nat.le_refl _,fun _ _ _=>rfl,fun b v2 e2 _ _ Lv=>⟨v2,e2,Lv,rfl⟩⟩,fun j hj hh=>?_,fun b hb=>hb.elim,fun j hh q hq=>?_⟩
  ·by_cases ej:j=0
   ·subst ej
    rw[h0]
    by_cases hh:has
    ·obtain⟨aq,el,q1,q2,q3⟩:=cY hh
     refine .inr ⟨⟨rfl,hh⟩,aq,el,q1,q2,fun i hi=>?_⟩
     obtain⟨es,k1,k2,k3⟩:=q3 i hi
     exact⟨es,k1,k2,k3.mono (fun b hb=>.inr ⟨rfl,hb⟩) (fun _ _=>rfl)⟩
    ·exact .inl ⟨fun h=>hh h.2,UL hh⟩
   ·rw[mT j ej];trivial
  ·by_cases ej:j=0
   ·subst ej;rw[h0] at hj;cases hj
   ·rw[mT j ej] at hj;cases hj
  ·obtain⟨aq,el,q1,_⟩:=cY hh.2
   refine⟨.inr (.inl ⟨hh.2,rfl⟩),(Array.getElem?_eq_some_iff.1 q1).1,fun hz=>?_⟩
   rcases hz with hz|⟨_,hz⟩
   ·exact hz
   ·exact hb hh.2 hz
  ·by_cases ej:j=0
   ·subst ej;rw[h0] at hj;injection hj with q;cases q
   ·rw[mT j ej] at hj;cases hj
  ·rw[tf j hj,tf j' kZ]
  ·by_cases ej:j=0
   ·exact⟨ej,hh.2,rfl⟩
   ·rw[mT j ej] at hj;exact False.elim hj
  ·by_cases ej:j=0
   ·subst ej
    rw[h0] at hq
    have eT:q∈(if ct.e.bU then bV ct.e xs else []):=hq
    split at eT
    ·exact fun _=>.inr eT
    ·cases eT
   ·rw[mT j ej] at hq;cases hq
 have WH:=JB V0 (mf c ct.e xs fn.ntmps).au h0 ⟨fun h=>h.2,fun h=>⟨rfl,h⟩⟩ rfl
 have Gm:Sat w.heap.size (AG has b0 (bV ct.e xs)) w (mf c ct.e xs fn.ntmps) { tmps := #[.agg #[.int .i64 c,v0]]++Array.replicate (fn.ntmps-1) undef,defers:=[] } w:=by
  refine⟨rfl,V0,⟨?_,fun i s' v' aW cd=>?_,FD⟩⟩
  ·show (S.agg _::kQ S.ew (fn.ntmps-1)).length=_
   rw[iy];simp;omega
  ·have aW:(S.agg [.val (.int .i64 c),.pre 0 xs.length]::kQ S.ew (fn.ntmps-1))[i]? = some s':=aW
   have cd:([Value.agg #[.int .i64 c,v0]]++List.replicate (fn.ntmps-1) undef)[i]? = some v':=by
    rw[<-cd]
    simp only[Array.getElem?_append,List.getElem?_append,List.getElem?_toArray,List.size_toArray,Array.getElem?_replicate,List.getElem?_replicate]
   cases i with
   | zero =>
     simp only[List.getElem?_cons_zero,Option.some.injEq,List.cons_append] at aW cd
     subst aW;subst cd
     refine⟨#[.int .i64 c,v0],rfl,rfl,fun j c' v' h1 h2=>?_⟩
     match j with
     | 0=>simp at h1 h2;subst h1;subst h2;exact⟨rfl,Ln⟩
     | 1 =>
       simp at h1 h2;subst h1;subst h2
       obtain⟨f9,e9,x9,g1,g2⟩:=WH
       have Ow:=g1
       rw[h0] at Ow
       injection Ow with q1 q2 q3
       subst q1;subst q2;cases q3
       exact⟨_,_,_,g1,Nat.le_refl _,g2⟩
     | j+2=>simp at h1
   | succ i =>
     simp only[List.getElem?_cons_succ,List.cons_append,List.nil_append,iy,List.getElem?_replicate] at aW cd
     split at aW
     ·rename_i hi
      injection aW with aW;subst aW
      rw[if_pos hi] at cd
      injection cd with cd;exact cd.symm
     ·cases aW
 refine calls_of_wp (args := #[.agg #[.int .i64 c,v0]]) hf rM (u4 hm hT hΓ hR code (A (c,xs)) _ _ _ _ w Gm Lw (fun e1 A' aN a' w' hk aW=>?_))
 obtain⟨hd,V1,r1⟩:=aW
 have key:zz T fn c ct.e xs (ct.F c xs) e1 aN->(∃ i,e1 = .exit i)\/∃ v1,(results fn a'.tmps).run P w' = .ok (.agg #[.int .i64 c,v1]) w'/\C.ok V1 aN.au w' (.pre 0 (ct.F c xs)) v1/\cT (qt aN.au 0 [.row true ct.e xs]):=by
  intro hp
  unfold zz at hp
  split at hp
  ·exact hp.elim
  ·right
   split at hp
   ·rename_i c' k' iv
    obtain⟨fb,lZ,AA⟩:=hp
    subst fb;subst lZ
    obtain⟨vs,e1,e2,e3⟩:=gU hT r1 iv
    match vs,e1 with
    | [x],_ =>
      obtain⟨ws,g1,g2,g3⟩:=e2 0 _ x rfl rfl
      have Ox:ws.toList.length=2:=g2.symm
      obtain⟨x1,x2,hx⟩:∃ x1 x2,ws.toList=[x1,x2]:=by
       match hw:ws.toList,Ox with
       | [a,b],_=>exact⟨a,b,rfl⟩
      have hw:ws = #[x1,x2]:=by rw[<-Array.toArray_toList (xs:=ws),hx]
      have i1:=g3 0 _ x1 rfl (by rw[hx];rfl)
      have i2:=g3 1 _ x2 rfl (by rw[hx];rfl)
      refine⟨x2,?_,i2,AA⟩
      have RT:x1=Value.int .i64 c':=i1.1
      have wj:x=Value.agg #[.int .i64 c',x2]:=by rw[g1,hw,RT]
      exact (hU e3).trans (by rw[wj];rfl)
   ·exact hp.elim
 have fin:∀ v1,C.ok V1 aN.au w' (.pre 0 (ct.F c xs)) v1->cT (qt aN.au 0 [.row true ct.e xs])->(has->∃ bn eg,w'.heap[b0]? = some (.cells bn eg (0,0))/\jO (fun i=>i∈bV ct.e xs) w' ct.e bn xs)/\ct.F c xs<=xs.length ∧
  ((v1 = .slice none 0 0/\ct.F c xs=0)\/(has/\∃ cap aq el,v1 = .slice (some ⟨b0,0,none⟩) (ct.F c xs) cap/\w'.heap[b0]? = some (.cells aq el (0,0))/\aq.size=cap*ct.e.size/\ct.F c xs<=cap)):=by
  intro v1 WL hp
  have m1:=r1.mem
  have hz:=yH hp 0 true ct.e xs rfl
  rw[Nat.zero_add] at hz
  have h1:=m1.ck 0
  rw[hz] at h1
  obtain⟨Vj,e9,Xq,Lp,hle,WG⟩:=WL
  rw[hz] at Lp
  injection Lp with q1 q2 q3
  subst q1;subst q2;cases q3
  have OI:(ct.e.flat||ct.e.bU)=true:=uu hg
  refine⟨fun hh=>?_,hle,?_⟩
  ·rcases h1 with ⟨c1,c2⟩|⟨c1,de,jP,c2,c3,c4⟩
   ·obtain⟨aq,el,q1,_⟩:=cY hh
    obtain⟨v3,e3,h3,_⟩:=m1.kept.shape b0 aq el (Array.getElem?_eq_some_iff.1 q1).1 (.inl ⟨hh,rfl⟩) q1
    exact⟨v3,e3,h3,by rw[c2];intro i hi;exact absurd hi (Nat.not_lt_zero _)⟩
   ·obtain⟨_,_,v8⟩:=m1.lL 0 (by rw[hz];exact OI) c1
    rw[v8] at c2
    refine⟨de,jP,c2,fun i hi=>?_⟩
    obtain⟨es,k1,k2,k3⟩:=c4 i hi
    exact⟨es,k1,k2,aF.o0 ct.e hg k3 (fun i' c7=>⟨List.mem_flatMap.2 ⟨_,List.getElem_mem hi,c7⟩,rfl⟩)⟩
  ·rcases WG with ⟨a1,a2,a3⟩|⟨a1,cap,aq,el,a2,a3,a4,a5⟩
   ·exact .inl ⟨a2,a3⟩
   ·obtain⟨_,hh,v8⟩:=m1.lL 0 (by rw[hz];exact OI) a1
    rw[v8] at a2 a3
    exact .inr ⟨hh,cap,aq,el,a2,a3,a4,a5⟩
 have gS:=key hk
 cases e1 with
 | normal =>
   rcases gS with ⟨i,h⟩|⟨v1,h1,h2,h3⟩
   ·cases h
   ·exact⟨hd,_,h1,v1,rfl,r1.mem.kept,fin v1 h2 h3⟩
 | exit i=>exact hk.elim
 | ret =>
   rcases gS with ⟨i,h⟩|⟨v1,h1,h2,h3⟩
   ·cases h
   ·exact⟨hd,_,h1,v1,rfl,r1.mem.kept,fin v1 h2 h3⟩
where uu:∀ {t:Ty},t.kX=true->(t.flat||t.bU)=true
 | .gs _ _,_=>rfl
 | .sl _,h=>by cases h
 | .st t,h=>uu (t:=t) h
 | .pr a b,h=>by
   have h':(a.kX&&b.kX)=true:=h
   rw[Bool.and_eq_true] at h'
   have h1:=uu h'.1
   have h2:=uu h'.2
   show (a.flat&&b.flat||(a.bU||b.bU))=true
   cases ha:a.bU<;>cases hb:b.bU<;>simp_all
 | .int _,_=>rfl
 | .bool,_=>rfl
 | .str,_=>rfl
 | .ptr _,h=>by cases h
 | .bZ _ _,h=>by cases h
theorem KQ(hm:P.follows .mixedOrders=true)(hT:bP P T)(hΓ:dh P Γ)(hR:cj P R){f:FuncId}{fn:Func}(hf:P.funcs[f]? = some fn){ct:CT}{A:Int×List ct.e.den->Nat->Option bq}
 (hg:ct.e.kX=true) (h:tN T Γ R fn ct A):fO P f (lC ct):=by
 intro base M w0 V st ts w ss vs K r hlen th dv
 unfold lC at dv
 split at dv
 case h_2=>exact dv.elim
 rename_i c n
 match vs,hlen with
 | [v],_ =>
   obtain⟨ws,hv,WQ,T6⟩:=th 0 _ v rfl rfl
   have UW:ws.toList.length=2:=WQ.symm
   obtain⟨x1,v0,hx⟩:∃ x1 x2,ws.toList=[x1,x2]:=by
    match hw:ws.toList,UW with
    | [a,b],_=>exact⟨a,b,rfl⟩
   have hw:ws = #[x1,v0]:=by rw[<-Array.toArray_toList (xs:=ws),hx]
   have i1:=T6 0 _ x1 rfl (by rw[hx];rfl)
   have hc:C.ok V st.au w (.own n) v0:=T6 1 _ v0 rfl (by rw[hx];rfl)
   obtain⟨RT,Ln⟩:=(i1:x1=Value.int .i64 c/\i64.min<=c/\c<=i64.max)
   subst RT
   subst hw
   subst hv
   split at dv
   case h_2=>exact dv.elim
   rename_i e' xs Ax
   split at dv
   case isFalse=>exact dv.elim
   rename_i he
   subst he
   have dv:ct.pre c xs/\Om n (bV ct.e xs) c ct.e xs (ct.F c xs) (st.xj (ff n 0 st.hp)) K:=dv
   obtain⟨dD,VR,hK⟩:=dv
   obtain⟨Vj,e9,Xq,Lp,JA⟩:=hc
   rw[Ax] at Lp
   injection Lp with q1 q2 q3
   subst q1;subst q2;cases q3
   obtain⟨V1,r1,E_,dW,Rf⟩:=Dd (n:=n) (ff n 0 st.hp) r Ax (fun m hm=>(mB hm).2.1) (fun m hm=>by
    obtain⟨_,_,f1,e1,x1,h1⟩:=mB hm
    exact⟨f1,e1,x1,Rx h1⟩) (ik _ _)
   have OQ:cR V1 w n ct.e xs.length v0:=by
    unfold cR at JA ⊢
    rw[Rf,dW];exact JA
   clear JA Ax
   generalize st.xj (ff n 0 st.hp)=st at *
   have hn:=E_
   have r:=r1
   have mm:=r1.mem
   have VP:=VR
   have h0:=mm.ck n
   rw[hn] at h0
   obtain⟨hz,WS⟩:=Gk r hn (.inl rfl)
   have eY:(st.au n).live=true:=by rw[hn];rfl
   refine (MU hm hT hΓ hR hf h (v0:=v0) (c:=c) (xs:=xs) (b0:=V1.aE n) (has:=V1.has n) hg ?_ ?_ ?_ ?_ ?_ Ln dD ?_).mono ?_
   ·intro V' aH g1 g2 g3
    refine⟨false,ct.e,xs,g1,?_⟩
    unfold cR at OQ ⊢
    rw[g2,g3];exact OQ
   ·intro hh
    rcases h0 with ⟨_,h2⟩|⟨h1,_⟩
    ·exact h2
    ·exact absurd h1 hh
   ·intro hh
    rcases h0 with ⟨h1,_⟩|⟨_,aq,el,h2,h3,h4⟩
    ·exact absurd hh h1
    ·refine⟨aq,el,h2,h3,fun i hi=>?_⟩
     obtain⟨es,k1,k2,k3⟩:=h4 i hi
     exact⟨es,k1,k2,aF.o0 ct.e hg k3 (fun i' c7=>⟨List.mem_flatMap.2 ⟨_,List.getElem_mem hi,c7⟩,rfl⟩)⟩
   ·intro hh hx
    exact (mm.own n eY hh).2.2 (Vl.cN (hz _ hx))
   ·intro i hi
    exact mm.pP (Vl.cN (hz i hi))
   ·rcases h0 with ⟨_,h2⟩|⟨_,aq,el,_,h3,h4⟩
    ·rw[h2];exact⟨Nat.zero_le _,fun x hx=>by cases hx⟩
    ·refine⟨h3,fun x hx=>?_⟩
     obtain⟨i,hi,rfl⟩:=List.getElem_of_mem hx
     obtain⟨es,_,_,k3⟩:=h4 i hi
     exact k3.wf
   ·rintro e1 w1 ⟨v1,rfl,p4,p5,p6,p7⟩
    have R2:=Ke r hn rfl (l:=bV ct.e xs) (fun i hi=>Vl.cN (hz i hi)) p4.size (fun b hb hx=>p4.block b hb hx) (LO mm.kept p4 (fun hh=>(mm.own n eY hh).1) WS) (fun hh=>by
     obtain⟨bn,eg,g1,g2⟩:=p5 hh
     rcases h0 with ⟨h1,_⟩|⟨_,aq,el,h2,h3,h4⟩
     ·exact absurd hh h1
     ·obtain⟨v3,e3,g3,g4⟩:=p4.shape (V1.aE n) aq el (Array.getElem?_eq_some_iff.1 h2).1 (.inl ⟨hh,rfl⟩) h2
      rw[g1] at g3
      injection g3 with g3
      injection g3 with g3 _ _
      subst g3
      refine⟨aq,el,bn,eg,h2,g1,g4,fun i hi=>?_⟩
      obtain⟨es,k1,k2,k3⟩:=g2 i hi
      exact⟨es,k1,k2,k3.mono (fun b hb=>hz b hb) (fun _ _=>rfl)⟩) (fun m f3 e3 SK TP Wq=>vw VP m f3 e3 SK (Pz Wq rfl) (by omega)) false (fun h=>by cases h) (fun h=>by cases h) (fun i hi=>hi)
    have OL:(St.mk (st.map (dk false)).ts (bD (st.map (dk false)).hp n (.row true ct.e xs))).au n = .row true ct.e xs:=by
     rw[gj (by show n<(lmap _ _).length;rw[bt,List.length_map];exact gP eY)]
     simp only[az,if_true]
    have h2:=R2.mem.ck n
    rw[OL] at h2
    have jf:((St.mk (st.map (dk false)).ts (bD (st.map (dk false)).hp n (.row true ct.e xs))).au n).live=true:=by rw[OL];rfl
    have SR:(I8 n ct.e xs (ct.F c xs) st).au n = .row true ct.e (xs.take (ct.F c xs)):=by
     unfold I8
     rw[show ({ (({ (st.map (dk false)) with hp:=bD (st.map (dk false)).hp n (.row true ct.e xs) }:St).map (bB n)) with hp:=bD (({ (st.map (dk false)) with hp:=bD (st.map (dk false)).hp n (.row true ct.e xs) }:St).map (bB n)).hp n (.row true ct.e (xs.take (ct.F c xs))) }:St)=St.mk _ (bD (({ (st.map (dk false)) with hp:=bD (st.map (dk false)).hp n (.row true ct.e xs) }:St).map (bB n)).hp n (.row true ct.e (xs.take (ct.F c xs)))) from rfl,gj (by show n<(lmap _ _).length;rw[bt,List.length_map];exact gP jf)]
     simp only[az,if_true]
    have nt:(xs.take (ct.F c xs)).length=ct.F c xs:=by rw[List.length_take];omega
    let V2:Vl:={ V1 with has:=fun j=>if j=n then (V1.has n/\v1 ≠ .slice none 0 0) else V1.has j }
    have ye:V2.has n↔(V1.has n/\v1 ≠ .slice none 0 0):=by show (if n=n then _ else _)↔_;rw[if_pos rfl]
    refine⟨_,rfl,V2,_,_,hK,?_,⟨_,rfl,rfl,fun j c' u' g1 g2=>?_⟩⟩
    ·refine qq (V':=V2) R2 OL R2.mem.kept (Nat.le_refl _) (fun _ _ _=>rfl) (fun j hj=>⟨rfl,by show (if j=n then _ else _)↔_;rw[if_neg hj]⟩) rfl rfl (fun aH _=>?_) (fun hh=>?_) (fun _ hh=>?_) (fun h _=>False.elim h) (fun _ q hq=>by cases hq)
     ·rcases p7 with ⟨a1,a2⟩|⟨a1,cap,aq,el,a2,a3,a4,a5⟩
      ·exact .inl ⟨fun hh=>(ye.1 hh).2 a1,by rw[a2];rfl⟩
      ·rcases h2 with ⟨b1,_⟩|⟨_,de,jP,b2,b3,b4⟩
       ·exact absurd a1 b1
       ·refine .inr ⟨ye.2 ⟨a1,by rw[a2];simp⟩,de,jP,b2,by rw[nt];omega,fun i hi=>?_⟩
        rw[nt] at hi
        obtain⟨es,k1,k2,k3⟩:=b4 i (by omega)
        exact⟨es,k1,k2,by rw[List.getElem_take];exact k3⟩
     ·obtain⟨o1,o2,_⟩:=R2.mem.own n jf (ye.1 hh).1
      exact⟨o1,o2,.inr ⟨(ye.1 hh).1,rfl⟩⟩
     ·exact R2.mem.eK n ct.e xs OL (ye.1 hh).1
    ·match j with
     | 0=>simp at g1 g2;subst g1;subst g2;exact⟨rfl,Ln⟩
     | 1 =>
       simp at g1 g2;subst g1;subst g2
       refine⟨true,ct.e,_,SR,?_⟩
       rw[nt]
       rcases p7 with ⟨a1,a2⟩|⟨a1,cap,aq,el,a2,a3,a4,a5⟩
       ·exact .inl ⟨fun hh=>(ye.1 hh).2 a1,a1,a2⟩
       ·exact .inr ⟨ye.2 ⟨a1,by rw[a2];simp⟩,cap,aq,el,a2,a3,a4,a5⟩
     | j+2=>simp at g1
end
end Go.SX
/- Functions that write the box behind their argument, and the told row that it holds. No condition. -/
namespace Go.SX
open Go.RowKit
set_option linter.unusedVariables false
set_option linter.unusedSimpArgs false
structure RC where
  t : Ty
  /-- is no block told twice? -/
  nd : Bool
  rs : List Ty
  pre : t.cc.den → Prop
  F : t.cc.den → aY rs
  G : t.cc.den → t.cc.den
def Xf(b:Bool)(l:List Nat):Prop:=b=true->l.Nodup
section
variable {P : Program} {T : bN} {Γ : FuncId → Option PC} {R : FuncId → Option bW} {base : Nat} {M : LM} {w0 : World} {V : Vl} {hp : Nat → ax} {w w' : World}
def U7(B:Nat)(has:Prop)(b0:Nat)(l:List Nat):LM:=⟨fun b=>b=B\/(has/\b=b0),fun b j=>j=1/\has/\b=b0,fun b=>b∈l\/(b=B\/(has/\b=b0)),fun b h=>.inr h,fun b=>b=B⟩
structure Xr (w w':World) (B n:Nat) (has:Prop) (b0:Nat) (Z:List Nat) (t:Ty) (nd:Bool) (e:Ty) (len:Nat) (rs:List Ty) (v:Value) (out:aY rs) (g:t.cc.den):Prop where
 ex:∃(Z1:Nat->Prop) (bs:List (Option Nat)) (vs:List Value),v=e_ vs/\dw Z1 w' rs vs out bs/\(bs.filterMap id).Nodup ∧
  (∀ b,some b∈bs->w.heap.size<=b/\b<w'.heap.size/\¬Z1 b)/\(∀ b,Z1 b->w.heap.size<=b/\b<w'.heap.size) ∧
  ∃(d':t.den) (ys:List e.den),bu t d'=g/\Xf nd (ids t d')/\t.wf d'/\(fresh t d' 0).2=[.row true e ys]/\ys.length=len/\ys.length<=cX ∧
   (has->∃ bn eg,w'.heap[b0]? = some (.cells bn eg (0,0))/\jO (fun b=>b∈Z\/Z1 b) w' e bn ys) ∧
   ∃ KD QH,w'.heap[B]? = some (.cells KD QH (0,0))/\KD.size=n ∧
    ∃(V1:Vl) (fb:Nat->ax),bz V1 fb w' (fresh t d' 1).1 KD.toList/\fb 1 = .row false e ys/\(V1.has 1->has/\V1.aE 1=b0)/\(¬V1.has 1->ys=[])
 kept:Kept w.heap.size (U7 B has b0 Z) w w'
end
end Go.SX
/- Functions that write the box behind their argument, and the told row that it holds: the rule. No condition. -/
namespace Go.SX
open Go.RowKit
set_option linter.unusedVariables false
set_option linter.unusedSimpArgs false
def Vl.un(V:Vl)(m:Nat):Vl:=⟨V.aE,fun k=>V.has k/\k≠m,V.Z0,V.Z1⟩
section
variable {P : Program} {T : bN} {Γ : FuncId → Option PC} {R : FuncId → Option bW} {base : Nat} {M : LM} {w0 : World} {V : Vl} {hp : Nat → ax} {w w' : World}
end
end Go.SX
/- Contracts that tell of a result no more than that it is one of some. No condition. -/
namespace Go.SX
open Go.RowKit
set_option linter.unusedVariables false
set_option linter.unusedSimpArgs false
structure QC where
 ts:List Ty
 rs:List Ty
 pre:aY ts->Prop
 Q:aY ts->aY rs->Prop
def Cj(T:bN)(fn:Func)(rs:List Ty)(Q:aY rs->Prop)(e:Ex)(st:St):Prop :=
 match e with
 | .exit _=>False
 | _ =>
   match lh T st fn.results.toList with
   | some ss =>
     match pd st.au rs ss with
     | some (r,ns)=>if pb ns then Q r else False
     | none=>False
   | none=>False
def Pc(T:bN)(Γ:FuncId->Option PC)(R:FuncId->Option bW)(fn:Func)(c:QC)(A:aY c.ts->Nat->Option bq):Prop :=
 match fn.body with
 | some code=>∀ d,gB c.ts d->c.pre d->vc T Γ R code (A d) (St.start c.ts d fn.ntmps) fun e _ st=>Cj T fn c.rs (c.Q d) e st
 | none=>False
def Tm(P:Program)(f:FuncId)(c:QC):Prop :=
 ∀(w:World) (args:List Value) (d:aY c.ts),cG gH w c.ts args d->c.pre d →
  Calls P f args.toArray w fun e w'=>∃ v,e = .returned v/\∃ r:aY c.rs,c.Q d r/\oD w w' c.rs v r
def AS(c:QC):bW:=fun ss st K =>
 match dP st.au c.ts ss with
 | some d=>c.pre d/\∀ r:aY c.rs,c.Q d r->gB c.rs r->K (bR c.rs r (aL st.hp)).1 (st.alloc (bR c.rs r (aL st.hp)).2)
 | none=>False
structure QB where
 t:Ty
 ts:List Ty
 rs:List Ty
 pre:t.den->aY ts->Prop
 Q:t.den->aY ts->t.den->aY rs->Prop
def I3(t:Ty)(Q:t.den->Prop):ax->Prop
 | .bx cs=>if df C.dI cs then (match readAll (fun _=>.dead) t cs with|some y=>Q y|none=>False) else False
 | _=>False
def zA(T:bN)(fn:Func)(t:Ty)(rs:List Ty)(Q:t.den->aY rs->Prop)(e:Ex)(st:St):Prop :=
 match e with
 | .exit _=>False
 | _ =>
   match lh T st fn.results.toList with
   | some ss =>
     match pd st.au rs ss with
     | some (r,ns)=>if pb ns then I3 t (fun g=>Q g r) (st.au 0) else False
     | none=>False
   | none=>False
def h_(T:bN)(Γ:FuncId->Option PC)(R:FuncId->Option bW)(fn:Func)(bc:QB)(A:bc.t.den->aY bc.ts->Nat->Option bq):Prop :=
 match fn.body with
 | some code=>∀ d x,bc.t.wf d->gB bc.ts x->bc.pre d x->vc T Γ R code (A d x) (lO bc.t d bc.ts x fn.ntmps) fun e _ st=>zA T fn bc.t bc.rs (bc.Q d x) e st
 | none=>False
def aU(bc:QB):bW:=fun ss st K =>
 match ss with
 | .c (.box m 0)::xs =>
   match st.au m with
   | .bx cs =>
     if df C.dI cs&&df S.dI ((St.mk xs st.hp).ba (cg xs)).ts then
      match readAll (fun _=>.dead) bc.t cs with
      | some d =>
        match dP (fun _=>.dead) bc.ts ((St.mk xs st.hp).ba (cg xs)).ts with
        | some x =>
          bc.pre d x/\∀(g:bc.t.den) (r:aY bc.rs),bc.Q d x g r->bc.t.wf g->gB bc.rs r->K (bR bc.rs r (aL (st.ba (cg xs)).hp)).1 { ((st.ba (cg xs)).alloc (bR bc.rs r (aL (st.ba (cg xs)).hp)).2) with hp:=bD ((st.ba (cg xs)).alloc (bR bc.rs r (aL (st.ba (cg xs)).hp)).2).hp m (.bx (expand false bc.t g)) }
        | none=>False
      | none=>False
     else False
   | _=>False
 | _=>False
section
variable {P : Program} {T : bN} {Γ : FuncId → Option PC} {R : FuncId → Option bW} {base : Nat} {M : LM} {w0 : World} {V : Vl} {hp : Nat → ax} {w w' : World}
theorem SG(hm:P.follows .mixedOrders=true)(hT:bP P T)(hΓ:dh P Γ)(hR:cj P R){f:FuncId}{fn:Func}(hf:P.funcs[f]? = some fn){c:QC}{A:aY c.ts->Nat->Option bq}
 (h:Pc T Γ R fn c A):Tm P f c:=by
 intro w args d hargs dD
 unfold Pc at h
 split at h
 ·rename_i code hb
  have hv:=h d (sW hargs) dD
  refine calls_of_wp hf hb (u4 hm hT hΓ hR code (A d) _ _ _ _ w (r_ hargs fn.ntmps) hv (fun e A' aN a' w' hk aW=>?_))
  obtain⟨hd,V,r⟩:=aW
  have key:Cj T fn c.rs (c.Q d) e aN->(∃ i,e = .exit i)\/∃ v,(results fn a'.tmps).run P w' = .ok v w'/\∃ x:aY c.rs,c.Q d x/\oD w w' c.rs v x:=by
   intro hp
   unfold Cj at hp
   split at hp
   ·exact hp.elim
   ·right
    split at hp
    ·rename_i ss iv
     split at hp
     ·rename_i x ns ho
      split at hp
      ·rename_i gE
       obtain⟨vs,e1,e2,e3⟩:=gU hT r iv
       refine⟨_,hU e3,x,hp,?_⟩
       obtain⟨bs,k1,k2,k3⟩:=mb (vs:=vs) r.mem.ck ho e1 e2
       refine⟨⟨V.Z true,bs,_,rfl,k1,by rw[k2];exact kt r.mem (l8 gE) k3,fun b hb=>?_,fun b hb=>?_⟩,r.mem.kept⟩
       ·have et:b∈bs.filterMap id:=List.mem_filterMap.2 ⟨some b,hb,rfl⟩
        rw[k2] at et
        obtain⟨n,h1,h2,rfl⟩:=iQ et
        obtain⟨e,xs,h3⟩:=k3 n h1
        obtain⟨_,h4,h5⟩:=r.mem.own n (by rw[h3];rfl) h2
        exact⟨r.mem.eK n e xs h3 h2,h4,fun hz=>h5 (Vl.cN hz)⟩
       ·rcases hb with hb|⟨hb,_⟩
        ·exact r.mem.z1 b hb
        ·cases hb
      ·exact hp.elim
     ·exact hp.elim
    ·exact hp.elim
  have gS:=key
  cases e with
  | normal =>
    rcases gS hk with ⟨i,h⟩|⟨v,h1,h2⟩
    ·cases h
    ·exact⟨hd,v,h1,v,rfl,h2⟩
  | exit i=>exact hk.elim
  | ret =>
    rcases gS hk with ⟨i,h⟩|⟨v,h1,h2⟩
    ·cases h
    ·exact⟨hd,v,h1,v,rfl,h2⟩
 ·exact h.elim
theorem Sf{f:FuncId}{c:QC}(h:Tm P f c):fO P f (AS c):=by
 intro base M w0 V st ts w ss vs K r hlen iv hr
 unfold AS at hr
 split at hr
 ·rename_i d hd
  obtain⟨dD,hK⟩:=hr
  have hargs:=lg (gW.ck r) c.ts hd hlen iv
  refine (h w vs d hargs dD).mono ?_
  rintro e w' ⟨v,rfl,r',hu,⟨Z1,bs,us,rfl,k1,k2,k3,k4⟩,hk⟩
  have g:=uv r.mem (nx:=aL st.hp) k1 k2 k3 k4 hk (fun j _=>lE st j)
  obtain⟨q1,q2⟩:=iU r g
  exact⟨_,rfl,_,_,_,hK r' hu (fX k1),q1,q2⟩
 ·exact hr.elim
theorem H0{t:Ty}{Q:t.den->Prop}{n:Nat}(h:I3 t Q (hp n))(he:(hp n).ok V hp w n):∃ cs,hp n = .bx cs/\∃ g,Q g/\∃ aq el,w.heap[V.aE n]? = some (.cells aq el (0,0))/\aF (V.Z false) w t aq.toList g:=by
 cases hn:hp n with
 | dead=>rw[hn] at h;exact h.elim
 | row fr e xs=>rw[hn] at h;exact h.elim
 | bx cs =>
   rw[hn] at h he
   obtain⟨aq,el,h1,h2⟩:=he
   unfold I3 at h
   simp only at h
   split at h
   ·rename_i jg
    split at h
    ·rename_i y hy
     rw[dG,List.all_eq_true] at jg
     exact⟨cs,rfl,y,h,aq,el,h1,eP hy h2 (fun c hc=>⟨jg c hc,fun h=>by cases h⟩)⟩
    ·exact h.elim
   ·exact h.elim
theorem Sh(hm:P.follows .mixedOrders=true)(hT:bP P T)(hΓ:dh P Γ)(hR:cj P R){f:FuncId}{fn:Func}(hf:P.funcs[f]? = some fn){bc:QB}{A:bc.t.den->aY bc.ts->Nat->Option bq}
 (h:h_ T Γ R fn bc A) {B:Nat} {aq:Array Value} {el:TypeId} {Z:Nat->Prop} {d:bc.t.den} {x:aY bc.ts} {vs:List Value} (hB:w.heap[B]? = some (.cells aq el (0,0)))
 (hz:∀ b,Z b->b<w.heap.size) (Vy:¬Z B) (hd:aF Z w bc.t aq.toList d) (hx:cG Z w bc.ts vs x) (dD:bc.pre d x) :
 Calls P f (Value.pointer (some ⟨B,0,none⟩)::vs).toArray w fun e w'=>∃ v,e = .returned v/\∃(g:bc.t.den) (out:aY bc.rs),bc.Q d x g out/\bc.t.wf g/\IV w w' B aq.size Z bc.t bc.rs v out g:=by
 unfold h_ at h
 split at h
 case h_2=>exact h.elim
 rename_i code hb
 have Lw:=h d x hd.wf (yQ hx) dD
 have Q0:B<w.heap.size:=(Array.getElem?_eq_some_iff.1 hB).1
 let V0:Vl:=⟨fun _=>B,fun j=>j=0,Z,fun _=>False⟩
 let M0:LM:=⟨fun b=>b=B,fun b j=>b=B/\j=0,fun b=>Z b\/b=B,fun b h=>.inr h,fun b=>b=B⟩
 have la:∀ b,Z b->V0.Z false b:=fun b hb=>.inr ⟨rfl,hb⟩
 have h0:(lO bc.t d bc.ts x fn.ntmps).au 0 = .bx (expand false bc.t d):=rfl
 have mT:∀ j,j≠0->(lO bc.t d bc.ts x fn.ntmps).au j = .dead:=by
  intro j hj
  cases j with
  | zero=>exact absurd rfl hj
  | succ j=>rfl
 have tf:∀ j,((lO bc.t d bc.ts x fn.ntmps).au j).live=true->j=0:=by
  intro j hj
  by_cases e:j=0
  ·exact e
  ·rw[mT j e] at hj;cases hj
 have FD:Mem w.heap.size M0 w V0 (lO bc.t d bc.ts x fn.ntmps).au w:=by
  refine⟨fun j=>?_,fun j cs hj=>tf j (by rw[hj];rfl),fun j hj hh=>?_,fun j e ys hj=>?_,fun j j' hj kZ _ _ _=>?_,fun b h=>⟨hz b h,.inl h⟩,fun b h=>h.elim,⟨rfl,rfl,rfl,Nat.le_refl _,fun _ _ _=>rfl,fun b v2 e2 _ _ Lv=>⟨v2,e2,Lv,rfl⟩⟩,fun j hj hh=>?_,fun b hb=>⟨by rw[h0];rfl,hb.symm⟩,fun j hh q hq=>?_⟩
  ·by_cases e:j=0
   ·subst e
    rw[h0]
    exact⟨aq,el,hB,gg false bc.t (hd.mono la (fun _ _=>rfl))⟩
   ·rw[mT j e];trivial
  ·refine⟨.inr rfl,Q0,fun Lz=>?_⟩
   rcases Lz with Lz|⟨_,Lz⟩
   ·exact Lz
   ·exact Vy Lz
  ·have:=tf j (by rw[hj];rfl)
   subst this
   rw[h0] at hj;cases hj
  ·rw[tf j hj,tf j' kZ]
  ·have:=tf j (mX hj)
   subst this
   rw[h0] at hj;exact hj.elim
  ·have:=tf j (mX (wo hq))
   subst this
   rw[h0] at hq;cases hq
 have j0:cG (V0.Z false) w bc.ts vs x:=by
  have mono:∀ {ts:List Ty} {vs:List Value} {d:aY ts},cG Z w ts vs d->cG (V0.Z false) w ts vs d:=by
   intro ts
   induction ts with
   | nil=>intro vs d h;exact h
   | cons t r ih =>
     intro vs d h
     cases r with
     | nil=>obtain⟨v,h1,cs,h2,h3⟩:=h;exact⟨v,h1,cs,h2,h3.mono la (fun _ _=>rfl)⟩
     | cons u r=>obtain⟨v,bO,h1,⟨cs,h2,h3⟩,h4⟩:=h;exact⟨v,bO,h1,⟨cs,h2,h3.mono la (fun _ _=>rfl)⟩,ih h4⟩
  exact mono hx
 obtain⟨l1,l2,l3⟩:=tR (hp:=(lO bc.t d bc.ts x fn.ntmps).au) j0
 have Gm:Sat w.heap.size M0 w (lO bc.t d bc.ts x fn.ntmps) { tmps:=(Value.pointer (some ⟨B,0,none⟩)::vs).toArray++Array.replicate (fn.ntmps-(Value.pointer (some ⟨B,0,none⟩)::vs).toArray.size) undef,defers:=[] } w:=by
  refine⟨rfl,V0,⟨?_,fun i s' v' aW cd=>?_,FD⟩⟩
  ·show (S.c (.box 0 0)::cM (eV bc.ts x) (kQ S.ew (fn.ntmps-(aL bc.ts+1)))).length=_
   rw[bT,iy,cy];simp[l1,l2];omega
  ·have aW:(S.c (.box 0 0)::cM (eV bc.ts x) (kQ S.ew (fn.ntmps-(aL bc.ts+1))))[i]? = some s':=aW
   have cd:((Value.pointer (some ⟨B,0,none⟩)::vs)++List.replicate (fn.ntmps-(vs.length+1)) undef)[i]? = some v':=by
    rw[<-cd]
    simp only[Array.getElem?_append,List.getElem?_append,List.getElem?_toArray,List.size_toArray,Array.getElem?_replicate,List.getElem?_replicate,List.length_cons]
   cases i with
   | zero =>
     simp only[List.getElem?_cons_zero,Option.some.injEq,List.cons_append] at aW cd
     subst aW;subst cd
     exact⟨rfl,rfl,_,h0⟩
   | succ i =>
     simp only[List.getElem?_cons_succ,List.cons_append,bT,iy,cy] at aW cd
     rcases Nat.lt_or_ge i vs.length with hi|hi
     ·rw[List.getElem?_append_left (by omega)] at aW
      rw[List.getElem?_append_left hi] at cd
      exact l3 i s' v' aW cd
     ·rw[List.getElem?_append_right (by omega),List.getElem?_replicate] at aW
      rw[List.getElem?_append_right hi,List.getElem?_replicate] at cd
      split at aW
      ·injection aW with aW;subst aW
       split at cd
       ·injection cd with cd;exact cd.symm
       ·cases cd
      ·cases aW
 refine calls_of_wp (args:=(Value.pointer (some ⟨B,0,none⟩)::vs).toArray) hf hb (u4 hm hT hΓ hR code (A d x) _ _ _ _ w Gm Lw (fun e A' aN a' w' hk aW=>?_))
 obtain⟨Lf,V1,r⟩:=aW
 have m1:=r.mem
 have key:zA T fn bc.t bc.rs (bc.Q d x) e aN->(∃ i,e = .exit i)\/∃ v,(results fn a'.tmps).run P w' = .ok v w'/\∃(g:bc.t.den) (out:aY bc.rs),bc.Q d x g out/\bc.t.wf g/\IV w w' B aq.size Z bc.t bc.rs v out g:=by
  intro hp
  unfold zA at hp
  split at hp
  ·exact hp.elim
  ·right
   split at hp
   ·rename_i ss iv
    split at hp
    ·rename_i y ns ho
     split at hp
     ·rename_i gE
      obtain⟨us,e1,e2,e3⟩:=gU hT r iv
      refine⟨_,hU e3,?_⟩
      obtain⟨bs,k1,k2,k3⟩:=mb (vs:=us) m1.ck ho e1 e2
      obtain⟨q1,q2⟩:=m1.lr B rfl
      obtain⟨cs,g1,g,hQ,bn,eg,g2,g3⟩:=H0 hp (m1.ck 0)
      rw[q2] at g2
      obtain⟨de,jP,s1,s2⟩:=m1.kept.shape B aq el Q0 rfl hB
      rw[g2] at s1
      injection s1 with s1
      injection s1 with s1 _ _
      refine⟨g,y,hQ,g3.wf,⟨V1.Z true,bs,us,rfl,k1,by rw[k2];exact kt m1 (l8 gE) k3,fun b hb=>?_,fun b hb=>?_,bn,eg,g2,by rw[s1];exact s2,g3.mono (fun b hb=>?_) (fun _ _=>rfl)⟩,⟨m1.kept.os,m1.kept.tape,m1.kept.output⟩,m1.kept.size,fun b hb bb=>m1.kept.block b hb bb⟩
      ·have et:b∈bs.filterMap id:=List.mem_filterMap.2 ⟨some b,hb,rfl⟩
       rw[k2] at et
       obtain⟨n,h1,h2,rfl⟩:=iQ et
       obtain⟨e,xs,h3⟩:=k3 n h1
       obtain⟨_,h4,h5⟩:=m1.own n (by rw[h3];rfl) h2
       exact⟨m1.eK n e xs h3 h2,h4,fun hz=>h5 (Vl.cN hz)⟩
      ·rcases hb with hb|⟨hb,_⟩
       ·exact m1.z1 b hb
       ·cases hb
      ·rcases hb with hb|⟨_,hb⟩
       ·exact .inr (.inl hb)
       ·rcases (m1.z0 b hb).2 with h|h
        ·exact .inl h
        ·have kP:=m1.own 0 (by rw[g1];rfl) (m1.box 0 cs g1)
         rw[q2] at kP
         exact absurd (Or.inr ⟨rfl,by rw[<-h];exact hb⟩) kP.2.2
     ·exact hp.elim
    ·exact hp.elim
   ·exact hp.elim
 have gS:=key
 cases e with
 | normal =>
   rcases gS hk with ⟨i,h⟩|⟨v,h1,h2⟩
   ·cases h
   ·exact⟨Lf,v,h1,v,rfl,h2⟩
 | exit i=>exact hk.elim
 | ret =>
   rcases gS hk with ⟨i,h⟩|⟨v,h1,h2⟩
   ·cases h
   ·exact⟨Lf,v,h1,v,rfl,h2⟩
theorem PZ(hm:P.follows .mixedOrders=true)(hT:bP P T)(hΓ:dh P Γ)(hR:cj P R){f:FuncId}{fn:Func}(hf:P.funcs[f]? = some fn){bc:QB}{A:bc.t.den->aY bc.ts->Nat->Option bq}
 (h:h_ T Γ R fn bc A):fO P f (aU bc):=by
 intro base M w0 V st ts w ss vs K r hlen th dv
 unfold aU at dv
 split at dv
 case h_2=>exact dv.elim
 rename_i m xs
 split at dv
 case h_2=>exact dv.elim
 rename_i cs OK
 split at dv
 case isFalse=>exact dv.elim
 rename_i jg
 rw[Bool.and_eq_true] at jg
 obtain⟨Fa,Fb⟩:=jg
 rw[dG,List.all_eq_true] at Fa Fb
 split at dv
 case h_2=>exact dv.elim
 rename_i d Ra
 split at dv
 case h_2=>exact dv.elim
 rename_i x RR
 match vs,hlen with
 | pv::us,hlen =>
   have OH:xs.length=us.length:=by simpa using hlen
   obtain⟨yk,sB,XT,XC⟩:=th 0 _ pv rfl rfl
   subst yk
   have mm:=r.mem
   have Ro:=mm.ck m
   rw[OK] at Ro
   obtain⟨aq,el,hB,o8⟩:=Ro
   have td:=eP (fr:=false) Ra o8 (fun c hc=>⟨Fa c hc,fun h=>by cases h⟩)
   have r0:Rel base M w0 V ⟨st.ts++xs,st.hp⟩ (ts++us.toArray) w:=xB (a:=st.ts) (h:=st.hp) r OH (fun i s v hs hv=>th (i+1) s v (by simpa using hs) (by simpa using hv))
   obtain⟨V1,r1,dW,Rf,qZ⟩:=r0.qT (cg xs)
   obtain⟨f1,f2⟩:=oP (cg xs) st.ts xs st.hp
   rw[f1] at r1
   obtain⟨g1,g2⟩:=g_ (cg xs) (St.mk st.ts st.hp)
   obtain⟨g3,_⟩:=g_ (cg xs) (St.mk xs st.hp)
   obtain⟨r2,_,tg⟩:=r7 (a:=((St.mk st.ts st.hp).ba (cg xs)).ts) (b:=((St.mk xs st.hp).ba (cg xs)).ts) (h:=((St.mk st.ts st.hp).ba (cg xs)).hp) r1 (by rw[g1];exact r.len)
   have hargs:cG (V1.Z false) w bc.ts us x:=pN bc.ts RR (by rw[g3];exact OH) tg Fb
   have Jr:((st.ba (cg xs)).au m).lK=true:=Ao (cg xs) st (by rw[OK];rfl)
   obtain⟨Qz,Nh⟩:∃ Qz,(st.ba (cg xs)).au m = .bx Qz:=by
    cases hq:(st.ba (cg xs)).au m with
    | bx c=>exact⟨c,rfl⟩
    | dead=>rw[hq] at Jr;cases Jr
    | row fr e ys=>rw[hq] at Jr;cases Jr
   have Db:Rel base M w0 V1 (st.ba (cg xs)) ts w:=r2
   have kP:=Db.mem.own m (by rw[Nh];rfl) (Db.mem.box m Qz Nh)
   rw[dW] at kP
   obtain⟨dD,hK⟩:=dv
   refine (Sh hm hT hΓ hR hf h hB (fun b hb=>Db.mem.pP hb) kP.2.2 (td.mono (fun b hb=>qZ false b hb) (fun _ _=>rfl)) hargs dD).mono (fun e w' hr=>?_)
   obtain⟨v,rfl,g,out,hQ,Wc,ok⟩:=hr
   have WO:gB bc.rs out:=by
    obtain⟨⟨Z1,bs,vs,_,h1,_⟩,_⟩:=ok
    exact fX h1
   rw[<-dW] at ok
   obtain⟨V',k1,k2,k3⟩:=MP Db Nh (by rw[dW];exact hB) ok (cp:=expand false bc.t g) (fun V' aH w1 bO Z1 q1 q2 q3 q4 q5 q6=>by
    refine gg false bc.t (q3.mono (fun b hb=>hb.elim (fun h=>q2 b h) (fun h=>q1 b h)) (fun b hb=>q5 b hb (fun e=>?_)))
    rcases hb with hb|hb
    ·rw[e,dW] at hb;exact kP.2.2 hb
    ·exact q6 b hb e)
   exact⟨v,rfl,V',_,_,hK g out hQ Wc WO,k2,k3⟩
end
end Go.SX
/- Contracts that tell of a new box and results no more than that they are some. No condition. -/
namespace Go.SX
open Go.RowKit
set_option linter.unusedVariables false
set_option linter.unusedSimpArgs false
structure QN where
 t:Ty
 ts:List Ty
 rs:List Ty
 pre:aY ts->Prop
 Q:aY ts->t.den->aY rs->Prop
def zC(T:bN)(fn:Func)(t:Ty)(rs:List Ty)(Q:t.den->aY rs->Prop)(e:Ex)(st:St):Prop :=
 match e with
 | .exit _=>False
 | _ =>
   match lh T st fn.results.toList with
   | some (.c (.box n 0)::ss) =>
     match pd st.au rs ss with
     | some (r,ns)=>if pb ns then I3 t (fun g=>Q g r) (st.au n) else False
     | none=>False
   | _=>False
def Cl(T:bN)(Γ:FuncId->Option PC)(R:FuncId->Option bW)(fn:Func)(nc:QN)(A:aY nc.ts->Nat->Option bq):Prop :=
 match fn.body with
 | some code=>∀ x,gB nc.ts x->nc.pre x->vc T Γ R code (A x) (St.start nc.ts x fn.ntmps) fun e _ st=>zC T fn nc.t nc.rs (nc.Q x) e st
 | none=>False
def rl(nc:QN):bW:=fun xs st K =>
 if df S.dI ((St.mk xs st.hp).ba (cg xs)).ts then
  match dP (fun _=>.dead) nc.ts ((St.mk xs st.hp).ba (cg xs)).ts with
  | some x =>
    nc.pre x/\∀(g:nc.t.den) (r:aY nc.rs),nc.Q x g r->nc.t.wf g->gB nc.rs r->K (z8 (aL (st.ba (cg xs)).hp) (bG nc.rs r (aL (st.ba (cg xs)).hp+1)).1)
     ((st.ba (cg xs)).alloc (.bx (expand false nc.t g)::(bG nc.rs r (aL (st.ba (cg xs)).hp+1)).2))
  | none=>False
 else False
section
variable {P : Program} {T : bN} {Γ : FuncId → Option PC} {R : FuncId → Option bW} {base : Nat} {M : LM} {w0 : World} {V : Vl} {hp : Nat → ax} {w w' : World}
theorem Si(hm:P.follows .mixedOrders=true)(hT:bP P T)(hΓ:dh P Γ)(hR:cj P R){f:FuncId}{fn:Func}(hf:P.funcs[f]? = some fn){nc:QN}{A:aY nc.ts->Nat->Option bq}
 (h:Cl T Γ R fn nc A) {Z:Nat->Prop} {x:aY nc.ts} {vs:List Value} (hz:∀ b,Z b->b<w.heap.size) (hx:cG Z w nc.ts vs x) (dD:nc.pre x) :
 Calls P f vs.toArray w fun e w'=>∃ v,e = .returned v/\∃(out:aY nc.rs) (g:nc.t.den),nc.Q x g out/\Od w w' Z nc.t nc.rs v out g:=by
 unfold Cl at h
 split at h
 case h_2=>exact h.elim
 rename_i code hb
 have Lw:=h x (yQ hx) dD
 let V0:Vl:=⟨fun _=>0,fun _=>False,Z,fun _=>False⟩
 let M0:LM:=⟨fun _=>False,fun _ _=>False,Z,fun b h=>h.elim,fun _=>False⟩
 have la:∀ b,Z b->V0.Z false b:=fun b hb=>.inr ⟨rfl,hb⟩
 have he:(St.start nc.ts x fn.ntmps).au=fun _=>.dead:=by
  funext k
  show nth .dead ([]:List ax) k=_
  rw[cB];rfl
 have FD:Mem w.heap.size M0 w V0 (St.start nc.ts x fn.ntmps).au w:=by
  rw[he]
  exact⟨fun _=>trivial,(fun n cs h=>by cases h),(fun n h=>by cases h),(fun n e xs h=>by cases h),(fun n m h=>by cases h),fun b h=>⟨hz b h,h⟩,fun b (h:False)=>h.elim,⟨rfl,rfl,rfl,Nat.le_refl _,fun _ _ _=>rfl,fun _ _ _ _ h _=>h.elim⟩,fun n h=>h.elim,fun b (h:False)=>h.elim,fun n (h:False)=>h.elim⟩
 have j0:cG (V0.Z false) w nc.ts vs x:=by
  have mono:∀ {ts:List Ty} {vs:List Value} {d:aY ts},cG Z w ts vs d->cG (V0.Z false) w ts vs d:=by
   intro ts
   induction ts with
   | nil=>intro vs d h;exact h
   | cons t r ih =>
     intro vs d h
     cases r with
     | nil=>obtain⟨v,h1,cs,h2,h3⟩:=h;exact⟨v,h1,cs,h2,h3.mono la (fun _ _=>rfl)⟩
     | cons u r=>obtain⟨v,bO,h1,⟨cs,h2,h3⟩,h4⟩:=h;exact⟨v,bO,h1,⟨cs,h2,h3.mono la (fun _ _=>rfl)⟩,ih h4⟩
  exact mono hx
 obtain⟨l1,l2,l3⟩:=tR (hp:=(St.start nc.ts x fn.ntmps).au) j0
 have Gm:Sat w.heap.size M0 w (St.start nc.ts x fn.ntmps) { tmps:=vs.toArray++Array.replicate (fn.ntmps-vs.toArray.size) undef,defers:=[] } w:=by
  refine⟨rfl,V0,⟨?_,fun i s' v' aW cd=>?_,FD⟩⟩
  ·show (cM (eV nc.ts x) (kQ S.ew (fn.ntmps-aL nc.ts))).length=_
   rw[bT,iy,cy];simp[l1,l2]
  ·have aW:(cM (eV nc.ts x) (kQ S.ew (fn.ntmps-aL nc.ts)))[i]? = some s':=aW
   have cd:(vs++List.replicate (fn.ntmps-vs.length) undef)[i]? = some v':=by
    rw[<-cd]
    simp only[Array.getElem?_append,List.getElem?_append,List.getElem?_toArray,List.size_toArray,Array.getElem?_replicate,List.getElem?_replicate]
   rw[bT,iy,cy] at aW
   rcases Nat.lt_or_ge i vs.length with hi|hi
   ·rw[List.getElem?_append_left (by omega)] at aW
    rw[List.getElem?_append_left hi] at cd
    exact l3 i s' v' aW cd
   ·rw[List.getElem?_append_right (by omega),List.getElem?_replicate] at aW
    rw[List.getElem?_append_right hi,List.getElem?_replicate] at cd
    split at aW
    ·injection aW with aW;subst aW
     split at cd
     ·injection cd with cd;exact cd.symm
     ·cases cd
    ·cases aW
 refine calls_of_wp (args:=vs.toArray) hf hb (u4 hm hT hΓ hR code (A x) _ _ _ _ w Gm Lw (fun e A' aN a' w' hk aW=>?_))
 obtain⟨Lf,V1,r⟩:=aW
 have m1:=r.mem
 have np:Kept w.heap.size pa w w':=⟨m1.kept.os,m1.kept.tape,m1.kept.output,m1.kept.size,fun b hb _=>m1.kept.block b hb (fun h=>h),fun _ _ _ _ h _=>h.elim⟩
 have key:zC T fn nc.t nc.rs (nc.Q x) e aN->(∃ i,e = .exit i)\/∃ v,(results fn a'.tmps).run P w' = .ok v w'/\∃(out:aY nc.rs) (g:nc.t.den),nc.Q x g out/\Od w w' Z nc.t nc.rs v out g:=by
  intro hp
  unfold zC at hp
  split at hp
  ·exact hp.elim
  ·right
   split at hp
   ·rename_i n ss iv
    split at hp
    ·rename_i y ns ho
     split at hp
     ·rename_i gE
      obtain⟨Xn,e1,e2,e3⟩:=gU hT r iv
      match Xn,e1 with
      | u::us,e1 =>
        refine⟨_,hU e3,?_⟩
        obtain⟨hu,sB,_⟩:=e2 0 _ u rfl rfl
        subst hu
        obtain⟨bs,k1,k2,k3⟩:=mb (vs:=us) m1.ck ho (by simpa using e1) (fun i s v hs hv=>e2 (i+1) s v (by simpa using hs) (by simpa using hv))
        obtain⟨cs,g1,g,hQ,bn,eg,g2,g3⟩:=H0 hp (m1.ck n)
        obtain⟨o1,o2,o3⟩:=m1.own n (by rw[g1];rfl) sB
        have Xh:w.heap.size<=V1.aE n:=by rcases o1 with h|h;exact h;exact h.elim
        refine⟨y,g,hQ,⟨V1.aE n,V1.Z true,bs,us,rfl,k1,?_,fun b hb=>?_,fun b hb=>?_,bn,eg,g2,g3.mono (fun b hb=>?_) (fun _ _=>rfl)⟩,np⟩
        ·rw[show (some (V1.aE n)::bs).filterMap id=V1.aE n::bs.filterMap id from rfl,k2]
         refine List.nodup_cons.2 ⟨fun Jv=>?_,kt m1 (l8 gE) k3⟩
         obtain⟨n',h1,h2,h3⟩:=iQ Jv
         obtain⟨e',a_,h4⟩:=k3 n' h1
         have:=m1.fw n' n (by rw[h4];rfl) (by rw[g1];rfl) h2 sB h3
         subst this
         rw[g1] at h4;cases h4
        ·rcases List.mem_cons.1 hb with hb|hb
         ·injection hb with hb
          subst hb
          exact⟨Xh,o2,fun hz=>o3 (Vl.cN hz)⟩
         ·have et:b∈bs.filterMap id:=List.mem_filterMap.2 ⟨some b,hb,rfl⟩
          rw[k2] at et
          obtain⟨n',h1,h2,rfl⟩:=iQ et
          obtain⟨e,xs,h3⟩:=k3 n' h1
          obtain⟨_,h4,h5⟩:=m1.own n' (by rw[h3];rfl) h2
          exact⟨m1.eK n' e xs h3 h2,h4,fun hz=>h5 (Vl.cN hz)⟩
        ·rcases hb with hb|⟨hb,_⟩
         ·exact m1.z1 b hb
         ·cases hb
        ·rcases hb with hb|⟨_,hb⟩
         ·exact .inr (.inl hb)
         ·exact .inl (m1.z0 b hb).2
     ·exact hp.elim
    ·exact hp.elim
   ·exact hp.elim
 cases e with
 | normal =>
   rcases key hk with ⟨i,h⟩|⟨v,h1,h2⟩
   ·cases h
   ·exact⟨Lf,v,h1,v,rfl,h2⟩
 | exit i=>exact hk.elim
 | ret =>
   rcases key hk with ⟨i,h⟩|⟨v,h1,h2⟩
   ·cases h
   ·exact⟨Lf,v,h1,v,rfl,h2⟩
theorem P1(hm:P.follows .mixedOrders=true)(hT:bP P T)(hΓ:dh P Γ)(hR:cj P R){f:FuncId}{fn:Func}(hf:P.funcs[f]? = some fn){nc:QN}{A:aY nc.ts->Nat->Option bq}
 (h:Cl T Γ R fn nc A):fO P f (rl nc):=by
 intro base M w0 V st ts w xs us K r hlen th dv
 unfold rl at dv
 split at dv
 case isFalse=>exact dv.elim
 rename_i jg
 rw[dG,List.all_eq_true] at jg
 split at dv
 case h_2=>exact dv.elim
 rename_i x RR
 obtain⟨dD,hK⟩:=dv
 have r0:Rel base M w0 V ⟨st.ts++xs,st.hp⟩ (ts++us.toArray) w:=xB (a:=st.ts) (h:=st.hp) r hlen th
 obtain⟨V1,r1,dW,Rf,qZ⟩:=r0.qT (cg xs)
 obtain⟨f1,f2⟩:=oP (cg xs) st.ts xs st.hp
 rw[f1] at r1
 obtain⟨g1,g2⟩:=g_ (cg xs) (St.mk st.ts st.hp)
 obtain⟨g3,_⟩:=g_ (cg xs) (St.mk xs st.hp)
 obtain⟨r2,_,tg⟩:=r7 (a:=((St.mk st.ts st.hp).ba (cg xs)).ts) (b:=((St.mk xs st.hp).ba (cg xs)).ts) (h:=((St.mk st.ts st.hp).ba (cg xs)).hp) r1 (by rw[g1];exact r.len)
 have hargs:cG (V1.Z false) w nc.ts us x:=pN nc.ts RR (by rw[g3];exact hlen) tg jg
 have Db:Rel base M w0 V1 (st.ba (cg xs)) ts w:=r2
 generalize gf:st.ba (cg xs)=s2 at *
 refine (Si hm hT hΓ hR hf h (fun b hb=>Db.mem.pP hb) hargs dD).mono (fun e w' hr=>?_)
 obtain⟨v,rfl,out,g,hQ,⟨⟨B,Z1,bs,vs,rfl,h1,h2,h3,h4,bn,eg,h5,h6⟩,hk⟩⟩:=hr
 generalize Ij:C.box (aL s2.hp) 0=cb
 have mm:=Db.mem
 have e2:=He nc.rs out (aL s2.hp+1)
 have OJ:(some B::bs).length=(ax.bx (expand false nc.t g)::(bG nc.rs out (aL s2.hp+1)).2).length:=by
  simp[pG _ h1]
 have hd:∀ j,j<(ax.bx (expand false nc.t g)::(bG nc.rs out (aL s2.hp+1)).2).length->s2.au (aL s2.hp+j) = .dead:=fun j _=>lE s2 j
 have hx:=VX.l_ mm hk (nx:=aL s2.hp) (es:=ax.bx (expand false nc.t g)::(bG nc.rs out (aL s2.hp+1)).2) (bs:=some B::bs) (Z:=Z1) OJ hd
 generalize vn:V1.ext (aL s2.hp) (some B::bs) Z1=V' at *
 generalize mU:db s2.au (aL s2.hp) (ax.bx (expand false nc.t g)::(bG nc.rs out (aL s2.hp+1)).2)=aH at *
 have hl:lA V' aH Z1 (aL s2.hp+1) (bG nc.rs out (aL s2.hp+1)).2 bs:=by
  refine⟨fun j b hb=>?_,fun j b hb=>?_,fun j e he=>?_,fun b hb=>by rw[<-vn];exact .inr hb⟩
  ·rw[<-vn,Nat.add_assoc,Nat.add_comm 1 j];exact Vl.fY (by simpa using hb)
  ·rw[<-vn,Nat.add_assoc,Nat.add_comm 1 j];exact Vl.g9 (by simpa using hb)
  ·rw[<-mU,Nat.add_assoc,Nat.add_comm 1 j];exact jZ (by simpa using he)
 obtain⟨t1,t2,t3⟩:=qU h1 hl
 have Ig:V'.aE (aL s2.hp)=B:=by rw[<-vn];exact Vl.g9 (nx:=aL s2.hp) (j:=0) rfl
 have Wd:V'.has (aL s2.hp):=by
  rw[<-vn]
  have:=Vl.fY (V:=V1) (nx:=aL s2.hp) (bs:=some B::bs) (Z:=Z1) (j:=0) (b:=some B) rfl
  exact this.2 rfl
 have V4:aH (aL s2.hp) = .bx (expand false nc.t g):=by rw[<-mU];exact jZ (nx:=aL s2.hp) (j:=0) rfl
 have SS:Good base M w0 V1 s2.au w (aL s2.hp) (z8 (aL s2.hp) (bG nc.rs out (aL s2.hp+1)).1) (ax.bx (expand false nc.t g)::(bG nc.rs out (aL s2.hp+1)).2) (pI nc.rs out) (e_ (.pointer (some ⟨B,0,none⟩)::vs)) w' V':=by
  refine⟨?_,?_,?_,fun p aH=>?_⟩
  ·rw[<-vn]
   refine mm.grow hk OJ hd h2 h3 h4 (fun j cs hj=>?_) (fun j e he=>?_) (fun e he=>?_)
   ·cases j with
    | zero=>exact⟨B,rfl⟩
    | succ j =>
      have kZ:(bG nc.rs out (aL s2.hp+1)).2[j]? = some (.bx cs):=by simpa using hj
      rw[e2] at kZ
      exact (ur nc.rs out _ _ (List.mem_of_getElem? kZ) cs rfl).elim
   ·rw[vn,mU]
    cases j with
    | zero =>
      simp only[List.getElem?_cons_zero,Option.some.injEq] at he
      subst he
      refine⟨bn,eg,by rw[Nat.add_zero,Ig];exact h5,gg false nc.t (h6.mono (fun b hb=>?_) (fun _ _=>rfl))⟩
      rw[<-vn]
      exact Vl.Ah.2 hb
    | succ j =>
      have:=t3 j e (by simpa using he)
      rw[Nat.add_assoc,Nat.add_comm 1 j] at this
      exact this
   ·rcases List.mem_cons.1 he with he|he
    ·subst he;exact fun h=>h
    ·rw[e2] at he
     exact sA nc.rs out _ e he
  ·rw[mU];exact hx
  ·rw[mU]
   refine KO ⟨by rw[Ig],Wd,_,V4⟩ t1 t2
  ·unfold pI at aH
   split at aH
   ·injection aH with aH;subst aH;exact fX h1
   ·cases aH
 obtain⟨q1,q2⟩:=iU Db SS
 exact⟨_,rfl,V',_,_,hK g out hQ h6.wf (fX h1),q1,q2⟩
end
end Go.SX
/- Contracts whose results are written no more: what they are is told by a law alone. No condition. -/
namespace Go.SX
open Go.RowKit
set_option linter.unusedVariables false
set_option linter.unusedSimpArgs false
def jl:(ts:List Ty)->aY ts->List (Bool×List C)
 | [],_=>[]
 | [t],d=>[(jt t,expand true t d)]
 | t::u::r,d=>(jt t,expand true t d.1)::jl (u::r) d.2
def EG(ts:List Ty)(d:aY ts):S :=
 match jl ts d with
 | [x]=>kR x
 | xs=>.m_ xs
def frozen(st:St)(ss:List S):St:=(St.mk ss st.hp).ba (cg ss)
def zB(T:bN)(fn:Func)(rs:List Ty)(Q:aY rs->Prop)(e:Ex)(st:St):Prop :=
 match e with
 | .exit _=>False
 | _ =>
   match lh T st fn.results.toList with
   | some ss =>
     if df S.dI (frozen st ss).ts&&df S.ek (frozen st ss).ts then
      match dP (fun _=>.dead) rs (frozen st ss).ts with
      | some r=>Q r
      | none=>False
     else False
   | none=>False
def KF(T:bN)(Γ:FuncId->Option PC)(R:FuncId->Option bW)(fn:Func)(c:QC)(A:aY c.ts->Nat->Option bq):Prop :=
 match fn.body with
 | some code=>∀ d,gB c.ts d->c.pre d->vc T Γ R code (A d) (St.start c.ts d fn.ntmps) fun e _ st=>zB T fn c.rs (c.Q d) e st
 | none=>False
structure KJ (w w':World) (ts:List Ty) (v:Value) (d:aY ts):Prop where
 ex:∃(Z1:Nat->Prop) (vs:List Value),v=e_ vs/\cG Z1 w' ts vs d/\(∀ b,Z1 b->w.heap.size<=b/\b<w'.heap.size)
 kept:Kept w.heap.size pa w w'
def Qm(P:Program)(f:FuncId)(c:QC):Prop :=
 ∀(w:World) (args:List Value) (d:aY c.ts),cG gH w c.ts args d->c.pre d →
  Calls P f args.toArray w fun e w'=>∃ v,e = .returned v/\∃ r:aY c.rs,c.Q d r/\KJ w w' c.rs v r
def wP(c:QC):bW:=fun ss st K =>
 match dP st.au c.ts ss with
 | some d=>c.pre d/\∀ r:aY c.rs,c.Q d r->gB c.rs r->K (EG c.rs r) st
 | none=>False
structure Vd (w w':World) (B n:Nat) (Z:Nat->Prop) (t:Ty) (rs:List Ty) (v:Value) (out:aY rs) (g:t.den):Prop where
 ex:∃(Z1:Nat->Prop) (vs:List Value),v=e_ vs/\cG Z1 w' rs vs out/\(∀ b,Z1 b->w.heap.size<=b/\b<w'.heap.size) ∧
  ∃ bn eg,w'.heap[B]? = some (.cells bn eg (0,0))/\bn.size=n/\aF (fun b=>Z b\/Z1 b) w' t bn.toList g
 os:w'.os=w.os/\w'.tape=w.tape/\w'.output=w.output
 size:w.heap.size<=w'.heap.size
 block:∀ b,b<w.heap.size->b≠B->w'.heap[b]? = w.heap[b]?
section
variable {P : Program} {T : bN} {Γ : FuncId → Option PC} {R : FuncId → Option bW} {base : Nat} {M : LM} {w0 : World} {V : Vl} {hp : Nat → ax} {w w' : World}
theorem A4{lk:Nat->ax}{t:Ty}{s:S}{d:t.den}{v:Value}(h:lu lk t s=some d)(ho:S.ok V hp w s v)(h1:s.dI=true)(h2:s.ek=true):pW (V.Z true) w t v d:=by
 unfold lu at h
 split at h
 ·rename_i x
  split at h
  ·cases h
  ·rename_i gf
   refine⟨[v],by unfold iW;rw[if_neg gf],eP h (bd ho ca) (fun c hc=>?_)⟩
   simp at hc;subst hc
   exact⟨h1,fun _=>h2⟩
 ·rename_i cs
  split at h
  ·rename_i gf
   obtain⟨vs,e1,e2⟩:=ho
   refine⟨vs.toList,by unfold iW;rw[if_pos gf,e1],eP h e2 (fun c hc=>⟨?_,fun _=>?_⟩)⟩
   ·have je:df C.dI cs=true:=h1
    rw[dG,List.all_eq_true] at je
    exact je c hc
   ·have vm:df C.ek cs=true:=h2
    rw[dG,List.all_eq_true] at vm
    exact vm c hc
  ·cases h
 ·cases h
theorem yF{lk:Nat->ax}:∀(ts:List Ty) {ss:List S} {d:aY ts} {vs:List Value},dP lk ts ss=some d->ss.length=vs.length →
 (∀(i:Nat) s v,ss[i]? = some s->vs[i]? = some v->S.ok V hp w s v)->(∀ s∈ss,s.dI=true)->(∀ s∈ss,s.ek=true)->cG (V.Z true) w ts vs d
 | [],[],d,vs,_,hl,_,_,_=>by cases vs with|nil=>rfl|cons _ _=>cases hl
 | [],_::_,d,vs,h,_,_,_,_=>by cases h
 | [t],[s],d,vs,h,hl,ho,hn,hf=>by
   match vs,hl with
   | [v],_=>exact⟨v,rfl,A4 h (ho 0 s v rfl rfl) (hn s (List.mem_cons_self ..)) (hf s (List.mem_cons_self ..))⟩
 | [t],[],d,vs,h,_,_,_,_=>by cases h
 | [t],_::_::_,d,vs,h,_,_,_,_=>by cases h
 | t::u::r,[],d,vs,h,_,_,_,_=>by cases h
 | t::u::r,s::ss,d,vs,h,hl,ho,hn,hf=>by
   unfold dP at h
   split at h
   ·rename_i x h1
    split at h
    ·rename_i y h2
     injection h with h;subst h
     match vs,hl with
     | v::bO,hl =>
       exact⟨v,bO,rfl,A4 h1 (ho 0 s v rfl rfl) (hn s (List.mem_cons_self ..)) (hf s (List.mem_cons_self ..)),
        yF (u::r) h2 (by simpa using hl) (fun i s v hs hv=>ho (i+1) s v (by simpa using hs) (by simpa using hv)) (fun s hs=>hn s (List.mem_cons_of_mem _ hs)) (fun s hs=>hf s (List.mem_cons_of_mem _ hs))⟩
    ·cases h
   ·cases h
theorem yE{Z Z':Nat->Prop}:∀ {ts:List Ty} {vs:List Value} {d:aY ts},cG Z w ts vs d->(∀ b,Z b->Z' b)->(∀ b,Z b->w'.heap[b]? = w.heap[b]?)->cG Z' w' ts vs d
 | [],_,_,h,_,_=>h
 | [t],_,_,⟨v,h1,cs,h2,h3⟩,hz,hw=>⟨v,h1,cs,h2,h3.mono hz hw⟩
 | t::u::r,_,_,⟨v,bO,h1,⟨cs,h2,h3⟩,h4⟩,hz,hw=>⟨v,bO,h1,⟨cs,h2,h3.mono hz hw⟩,yE h4 hz hw⟩
theorem wS{Z:Nat->Prop}:∀ {ts:List Ty} {vs:List Value} {d:aY ts},cG Z w ts vs d->gB ts d
 | [],_,_,_=>trivial
 | [t],_,_,⟨v,h1,cs,h2,h3⟩=>h3.wf
 | t::u::r,_,_,⟨v,bO,h1,⟨cs,h2,h3⟩,h4⟩=>⟨h3.wf,wS h4⟩
theorem CG{t:Ty}{v:Value}{d:t.den}(h:pW (V.Z true) w t v d):eZ V hp w (jt t,expand true t d) v:=by
 obtain⟨cs,h1,h2⟩:=h
 have g:=gg (hp:=hp) true t h2
 unfold iW at h1
 unfold eZ
 simp only
 split
 ·rename_i ht;rw[if_pos ht] at h1;exact⟨_,h1,by simpa using g⟩
 ·rename_i ht;rw[if_neg ht] at h1;subst h1;exact g
theorem N4{x:Bool×List C}{v:Value}(h:eZ V hp w x v):S.ok V hp w (kR x) v:=by
 unfold eZ at h
 unfold kR
 split
 ·rename_i ht;rw[if_pos ht] at h;exact h
 ·rename_i ht
  rw[if_neg ht] at h
  match hx:x.2,h with
  | [c],h=>exact h.2 0 c v rfl rfl
  | [],h=>exact trivial
  | _::_::_,h=>exact trivial
theorem Ag:∀ {ts:List Ty} {vs:List Value} {d:aY ts},cG (V.Z true) w ts vs d->(jl ts d).length=vs.length/\∀(j:Nat) x v,(jl ts d)[j]? = some x->vs[j]? = some v->eZ V hp w x v
 | [],_,_,h=>by
   have h:_=[]:=h
   subst h
   exact⟨rfl,fun j x v hx=>by cases hx⟩
 | [t],_,_,⟨v,h1,h2⟩=>by
   subst h1
   refine⟨rfl,fun j x u hx hu=>?_⟩
   cases j with
   | zero =>
     simp only[jl,List.getElem?_cons_zero,Option.some.injEq] at hx hu
     subst hx;subst hu
     exact CG h2
   | succ j=>simp[jl] at hx
 | t::u::r,_,_,⟨v,bO,h1,h2,h4⟩=>by
   subst h1
   obtain⟨g1,g2⟩:=Ag h4
   refine⟨by simp[jl,g1],fun j x y hx hy=>?_⟩
   cases j with
   | zero =>
     simp only[jl,List.getElem?_cons_zero,Option.some.injEq] at hx hy
     subst hx;subst hy
     exact CG h2
   | succ j=>exact g2 j x y (by simpa[jl] using hx) (by simpa using hy)
theorem PD{ts:List Ty}{vs:List Value}{d:aY ts}(h:cG (V.Z true) w ts vs d):S.ok V hp w (EG ts d) (e_ vs):=by
 obtain⟨g1,g2⟩:=Ag (hp:=hp) h
 unfold EG
 split
 ·rename_i x hx
  rw[hx] at g1 g2
  match vs,g1 with
  | [v],_=>exact N4 (g2 0 x v rfl rfl)
 ·rename_i hx
  match vs,g1,g2 with
  | [],g1,g2=>exact⟨_,rfl,by simpa using g1,fun j x v hx hv=>absurd hv (by simp)⟩
  | [v],g1,g2 =>
    match he:jl ts d,g1 with
    | [x],_=>exact absurd he (hx x)
  | v::v2::r,g1,g2=>exact⟨_,rfl,by simpa using g1,fun j x v hx hv=>g2 j x v hx (by simpa using hv)⟩
theorem Jq(m:Mem base M w0 V hp w){nx:Nat}{rs:List Ty}{d:aY rs}{Z1:Nat->Prop}{vs:List Value}(h1:cG Z1 w' rs vs d)
 (h4:∀ b,Z1 b->w.heap.size<=b/\b<w'.heap.size) (hk:Kept w.heap.size pa w w') :
 Good base M w0 V hp w nx (EG rs d) [] (pI rs d) (e_ vs) w' (V.ext nx [] Z1):=by
 have cS:∀ j,j<([]:List ax).length->hp (nx+j) = .dead:=fun j hj=>absurd hj (Nat.not_lt_zero _)
 have x:=VX.l_ m hk (nx:=nx) (es:=[]) (bs:=[]) (Z:=Z1) rfl cS
 have g1:S.ok (V.ext nx [] Z1) (db hp nx []) w' (EG rs d) (e_ vs):=PD (yE h1 (fun b hb=>.inl (.inr hb)) (fun _ _=>rfl))
 refine⟨m.grow hk rfl cS (by simp) (fun b hb=>by cases hb) h4 (fun j cs hj=>by cases hj) (fun j e he=>by cases he) (fun e he=>by cases he),x,g1,fun p aH=>?_⟩
 unfold pI at aH
 split at aH
 ·injection aH with aH;subst aH;exact wS h1
 ·cases aH
theorem Qi(hm:P.follows .mixedOrders=true)(hT:bP P T)(hΓ:dh P Γ)(hR:cj P R){f:FuncId}{fn:Func}(hf:P.funcs[f]? = some fn){c:QC}{A:aY c.ts->Nat->Option bq}
 (h:KF T Γ R fn c A):Qm P f c:=by
 intro w args d hargs dD
 unfold KF at h
 split at h
 ·rename_i code hb
  have hv:=h d (sW hargs) dD
  refine calls_of_wp hf hb (u4 hm hT hΓ hR code (A d) _ _ _ _ w (r_ hargs fn.ntmps) hv (fun e A' aN a' w' hk aW=>?_))
  obtain⟨hd,V,r⟩:=aW
  have key:zB T fn c.rs (c.Q d) e aN->(∃ i,e = .exit i)\/∃ v,(results fn a'.tmps).run P w' = .ok v w'/\∃ x:aY c.rs,c.Q d x/\KJ w w' c.rs v x:=by
   intro hp
   unfold zB at hp
   split at hp
   ·exact hp.elim
   ·right
    split at hp
    ·rename_i ss iv
     split at hp
     ·rename_i jg
      rw[Bool.and_eq_true] at jg
      obtain⟨Fa,Fb⟩:=jg
      rw[dG,List.all_eq_true] at Fa Fb
      split at hp
      ·rename_i y ho
       obtain⟨us,e1,e2,e3⟩:=gU hT r iv
       refine⟨_,hU e3,y,hp,?_⟩
       have rA:=xB (a:=aN.ts) (h:=aN.hp) r e1 e2
       obtain⟨V2,rB,jW,CR,OX⟩:=rA.qT (cg ss)
       obtain⟨f1,f2⟩:=oP (cg ss) aN.ts ss aN.hp
       rw[f1] at rB
       obtain⟨g1,g2⟩:=g_ (cg ss) (St.mk aN.ts aN.hp)
       obtain⟨g3,_⟩:=g_ (cg ss) (St.mk ss aN.hp)
       obtain⟨rC,_,tg⟩:=r7 (a:=((St.mk aN.ts aN.hp).ba (cg ss)).ts) (b:=((St.mk ss aN.hp).ba (cg ss)).ts) (h:=((St.mk aN.ts aN.hp).ba (cg ss)).hp) rB (by rw[g1];exact r.len)
       have hargs:=yF c.rs ho (by unfold frozen;rw[g3];exact e1) tg Fa Fb
       have m1:=rC.mem
       refine⟨⟨V2.Z true,us,rfl,hargs,fun b hb=>?_⟩,m1.kept⟩
       rcases hb with hb|⟨hb,_⟩
       ·exact m1.z1 b hb
       ·cases hb
      ·exact hp.elim
     ·exact hp.elim
    ·exact hp.elim
  have gS:=key
  cases e with
  | normal =>
    rcases gS hk with ⟨i,h⟩|⟨v,h1,h2⟩
    ·cases h
    ·exact⟨hd,v,h1,v,rfl,h2⟩
  | exit i=>exact hk.elim
  | ret =>
    rcases gS hk with ⟨i,h⟩|⟨v,h1,h2⟩
    ·cases h
    ·exact⟨hd,v,h1,v,rfl,h2⟩
 ·exact h.elim
theorem P0{f:FuncId}{c:QC}(h:Qm P f c):fO P f (wP c):=by
 intro base M w0 V st ts w ss vs K r hlen iv hr
 unfold wP at hr
 split at hr
 ·rename_i d hd
  obtain⟨dD,hK⟩:=hr
  have hargs:=lg (gW.ck r) c.ts hd hlen iv
  refine (h w vs d hargs dD).mono ?_
  rintro e w' ⟨v,rfl,r',hu,⟨Z1,us,rfl,k1,k4⟩,hk⟩
  have g:=Jq r.mem (nx:=aL st.hp) k1 k4 hk
  obtain⟨q1,q2⟩:=iU r g
  have EV:st.alloc []=st:=by show St.mk st.ts (cM st.hp [])=st;rw[bT,List.append_nil]
  rw[EV] at q1 q2
  exact⟨_,rfl,_,_,_,hK r' hu (wS k1),q1,q2⟩
 ·exact hr.elim
end
end Go.SX
