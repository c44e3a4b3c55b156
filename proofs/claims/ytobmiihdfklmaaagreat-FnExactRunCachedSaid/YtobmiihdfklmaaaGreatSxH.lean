/- A verified symbolic executor and its contracts (part SxH). No condition. -/
import Derived.Test.YtobmiihdfklmaaaGreatSxG
import Derived.Lib.Overlaps
import Derived.Lib.AppendZerosOnto
import Derived.Laws.Externs
import Derived.Laws.NewBlocks
import Derived.OwnWalk
open Go.IntKind (i64 u8)
/- Functions whose results' blocks are told. No condition. -/
namespace Go.SX
open Go.RowKit
set_option linter.unusedVariables false
set_option linter.unusedSimpArgs false
def rM:List Ty->List Ty
 | []=>[]
 | t::r=>t.cO::rM r
def nt:(ts:List Ty)->cj ts->cj (rM ts)
 | [],_=>()
 | [t],d=>aU t d
 | t::u::r,d=>(aU t d.1,nt (u::r) d.2)
def mF:(ts:List Ty)->cj ts->List Nat
 | [],_=>[]
 | [t],d=>ids t d
 | t::u::r,d=>ids t d.1++mF (u::r) d.2
structure TC where
 ts:List Ty
 fg:List Ty
 nd:Bool
 pre:cj ts->Prop
 F:cj ts->cj (rM fg)
def Ix(T:cC)(fn:Func)(nd:Bool)(fg:List Ty)(out:cj (rM fg))(e:Ex)(st:St):Prop :=
 match e with
 | .exit _=>False
 | _ =>
   match sL T st fn.results.toList with
   | some ss =>
     match BS st.an fg ss with
     | some (r,ns)=>if vt ns then (match nd with|true=>nt fg r=out/\(mF fg r).Nodup|false=>nt fg r=out) else False
     | none=>False
   | none=>False
def mV(T:cC)(Γ:FuncId->Option PC)(R:FuncId->Option cL)(fn:Func)(c:TC)(A:cj c.ts->Nat->Option bg):Prop :=
 match fn.body with
 | some code=>∀ d,z5 c.ts d->c.pre d->vc T Γ R code (A d) (St.start c.ts d fn.ntmps) fun e _ st=>Ix T fn c.nd c.fg (c.F d) e st
 | none=>False
def xE(P:Program)(f:FuncId)(c:TC):Prop :=
 ∀(w:World) (args:List Value) (d:cj c.ts),mu gO w c.ts args d->c.pre d →
  Calls P f args.toArray w fun e w'=>∃ v,e = .returned v/\∃ r:cj c.fg,nt c.fg r=c.F d/\(c.nd=true->(mF c.fg r).Nodup)/\vK w w' c.fg v r
def bz(l k:List Nat):Prop:=∀ i∈l,i ∉ k
def C.apart(l:List Nat):C->Option Prop
 | .rg _ wh e b xs=>some (bz l (ids (.gs wh e) (b,xs)))
 | .rd _ e xs=>if e.bQ then some (bz l (aX e xs)) else none
 | .at_ _ t d _=>if t.bQ then some (bz l (ids t d)) else none
 | _=>none
def CF(l:List Nat):List C->Option Prop
 | []=>none
 | c::r=>fj (c.apart l) (CF l r)
def az.apart(l:List Nat):az->Option Prop
 | .row _ e xs=>if e.bQ then some (bz l (aX e xs)) else none
 | .bx cs=>CF l cs
 | .dead=>none
def CS(l:List Nat):List az->Option Prop
 | []=>none
 | e::r=>fj (e.apart l) (CS l r)
def uB(l:List Nat):List S->Option Prop
 | []=>none
 | .c x::r=>fj (x.apart l) (uB l r)
 | .agg cs::r=>fj (CF l cs) (uB l r)
 | _::r=>uB l r
def Ty.tell:Ty->Ty
 | .sl e=>.gs false e.tell
 | .st t=>.st t.tell
 | .pr a b=>.pr a.tell b.tell
 | t=>t
def Ty.eH:Ty->Bool
 | .gs wh e=>!wh&&e.eH
 | .sl e=>e.eH
 | .st t=>t.eH
 | .pr a b=>a.eH&&b.eH
 | _=>true
def nr(nm:Nat):List az->St->(St->Prop)->Prop
 | [],st,K=>K st
 | .row true e xs::r,st,K =>
   if !e.flat&&!e.bQ&&e.tell.eH then
    (if h:e.tell.cO=e then ∀ br:List e.tell.den,cA h (bH e.tell br)=xs->nr (nm+1) r { st with hp:=bP st.hp nm (.row true e.tell br) } K else nr (nm+1) r st K)
   else nr (nm+1) r st K
 | .row false _ _::r,st,K=>nr (nm+1) r st K
 | .bx _::r,st,K=>nr (nm+1) r st K
 | .dead::r,st,K=>nr (nm+1) r st K
def dw(c:TC):cL:=fun ss st K=>nr 0 st.hp st fun st =>
 match mN st.an c.ts ss with
 | some d=>c.pre d/\∀ r:cj c.fg,nt c.fg r=c.F d->(if c.nd then (mF c.fg r).Nodup else True)->z5 c.fg r->cU (fj (CS (mF c.fg r) st.hp) (uB (mF c.fg r) st.ts)) →
    K (dt c.fg r (bL st.hp)).1 (st.alloc (dt c.fg r (bL st.hp)).2)
 | none=>False
def Ty.BO:Ty->Bool
 | .gs _ _=>false
 | .st t=>t.BO
 | .pr a b=>a.BO&&b.BO
 | _=>true
section
variable {P : Program} {T : cC} {Γ : FuncId → Option PC} {R : FuncId → Option cL} {base : Nat} {M : LM} {w0 : World} {V : Vl} {hp : Nat → az} {w w' : World}
theorem ab9{l:List Nat}(m:Mem base M w0 V hp w)(hl:∀ i∈l,w.heap.size<=i):∀ i∈l,¬V.Z false i:=fun i hi hz=>by have:=m.qu hz;have:=hl i hi;omega
theorem C.yI{l:List Nat}{c:C}{v:Value}(h:C.ok V hp w c v)(hl:∀ i∈l,¬V.Z false i):cU (c.apart l):=by
 unfold C.apart
 split
 ·rename_i fr wh e b xs
  intro i hi hk
  have h':aI (V.Z fr) w (.gs wh e) [v] (b,xs):=h
  exact hl i hi (Vl.db (aI.jz _ h' _ hk))
 ·rename_i fr e xs
  split
  ·intro i hi hk
   have h':aI (V.Z fr) w (.sl e) [v] xs:=h
   exact hl i hi (Vl.db (aI.jz (.sl e) h' _ hk))
  ·trivial
 ·rename_i fr t d off
  split
  ·intro i hi hk
   obtain⟨b2,o,_,_,es,_,_,h5⟩:=h
   exact hl i hi (Vl.db (aI.jz t h5 _ hk))
  ·trivial
 ·trivial
theorem yM{l:List Nat}(hl:∀ i∈l,¬V.Z false i):∀ {cs:List C} {vs:List Value},bO V hp w cs vs->cU (CF l cs)
 | [],_,_=>trivial
 | c::r,vs,h=>by
   obtain⟨v,cI,rfl,h1,h2⟩:=df h
   exact iA (C.yI h1 hl) (yM hl h2)
theorem az.yI{l:List Nat}{e:az}{n:Nat}(h:e.ok V hp w n)(hl:∀ i∈l,¬V.Z false i):cU (e.apart l):=by
 cases e with
 | dead=>trivial
 | bx cs=>obtain⟨ak,el,_,h2⟩:=h;exact yM hl h2
 | row fr e xs =>
   unfold az.apart
   simp only
   split
   ·intro i hi hk
    rcases h with ⟨_,h2⟩|⟨_,ak,el,_,_,h4⟩
    ·rw[h2] at hk;cases hk
    ·refine hl i hi (Vl.db (ya (Z:=V.Z fr) (w:=w) (fun i hi=>by obtain⟨es,_,_,h6⟩:=h4 i hi;exact⟨es,h6⟩) _ hk))
   ·trivial
theorem RR{st:St}{ts:Array Value}(r:Rel base M w0 V st ts w){l:List Nat}(hl:∀ i∈l,¬V.Z false i):cU (CS l st.hp):=by
 have key:∀(k:List az),(∀ e∈k,∃ n,e.ok V st.an w n)->cU (CS l k):=by
  intro k
  induction k with
  | nil=>intro _;trivial
  | cons e k ih =>
    intro h
    obtain⟨n,hn⟩:=h e (List.mem_cons_self ..)
    exact iA (az.yI hn hl) (ih (fun e' fG=>h e' (List.mem_cons_of_mem _ fG)))
 refine key st.hp (fun e he=>?_)
 obtain⟨n,hn,rfl⟩:=List.getElem_of_mem he
 refine⟨n,?_⟩
 have:=r.mem.cE n
 have e1:st.an n=st.hp[n]:=by
  show nth .dead st.hp n=_
  rw[cT,List.getElem?_eq_getElem hn];rfl
 rw[e1] at this
 exact this
theorem GQ{hp:Nat->az}{l:List Nat}(hl:∀ i∈l,¬V.Z false i):∀ {k:List S},(∀ s∈k,∃ v,S.ok V hp w s v)->cU (uB l k)
 | [],_=>trivial
 | s::r,h=>by
   have ih:=GQ hl (k:=r) (fun s' bb=>h s' (List.mem_cons_of_mem _ bb))
   obtain⟨v,hv⟩:=h s (List.mem_cons_self ..)
   cases s with
   | c x=>exact iA (C.yI hv hl) ih
   | agg cs=>obtain⟨vs,_,h2⟩:=hv;exact iA (yM hl h2) ih
   | sP vs=>exact ih
   | fh=>exact ih
   | any=>exact ih
   | arr e xs=>exact ih
theorem Po{st:St}{ts:Array Value}(r:Rel base M w0 V st ts w){l:List Nat}(hl:∀ i∈l,¬V.Z false i):cU (uB l st.ts):=by
 refine GQ (w:=w) (hp:=st.an) hl (fun s hs=>?_)
 obtain⟨i,hi,rfl⟩:=List.getElem_of_mem hs
 have cF:i<ts.size:=by rw[<-r.len];exact hi
 exact⟨ts[i],r.iZ i _ _ (List.getElem?_eq_getElem hi) (Array.getElem?_eq_getElem cF)⟩
theorem vv{Z:Nat->Prop}:∀ {t:Ty} {cs:List Value} {d:t.den} {bs:List (Option Nat)},jg Z w t cs d bs->∀ i∈ids t d,Z i
 | .int _,_,_,_,h,i,hi=>by cases hi
 | .bool,_,_,_,h,i,hi=>by cases hi
 | .str,_,_,_,h,i,hi=>by cases hi
 | .sl e,cs,xs,bs,h,i,hi=>by
   rcases h with ⟨_,rfl,_⟩|⟨b,cap,ak,el,_,_,_,_,_,_,h7⟩
   ·cases hi
   ·exact ya (fun j hj=>by obtain⟨es,_,_,k⟩:=h7 j hj;exact⟨es,k⟩) i hi
 | .st t,cs,d,bs,h,i,hi=>vv (t:=t) h i hi
 | .pr a b,cs,d,bs,h,i,hi=>by
   obtain⟨c1,c2,b1,b2,_,_,h1,h2⟩:=h
   rcases List.mem_append.1 hi with hi|hi
   ·exact vv h1 i hi
   ·exact vv h2 i hi
 | .ptr _,_,_,_,h,_,_=>h.elim
 | .ca _ _,_,_,_,h,_,_=>h.elim
 | .gs _ _,_,_,_,h,_,_=>h.elim
theorem DO{Z:Nat->Prop}:∀ {ts:List Ty} {vs:List Value} {d:cj ts} {bs:List (Option Nat)},fu Z w ts vs d bs->∀ i∈mF ts d,Z i
 | [],_,_,_,_,i,hi=>by cases hi
 | [t],_,_,_,h,i,hi=>by obtain⟨v,_,cs,_,h2⟩:=h;exact vv h2 i hi
 | t::u::r,_,d,_,h,i,hi=>by
   obtain⟨v,cI,b1,b2,_,_,⟨cs,_,h2⟩,h3⟩:=h
   rcases List.mem_append.1 (show i∈ids t d.1++mF (u::r) d.2 from hi) with hi|hi
   ·exact vv h2 i hi
   ·exact DO h3 i hi
theorem Wl(hm:P.follows .mixedOrders=true)(hT:cv P T)(hΓ:eI P Γ)(hR:cV P R){f:FuncId}{fn:Func}(hf:P.funcs[f]? = some fn){c:TC}{A:cj c.ts->Nat->Option bg}
 (h:mV T Γ R fn c A):xE P f c:=by
 intro w args d hargs eS
 unfold mV at h
 split at h
 ·rename_i code hb
  have hv:=h d (Hh hargs) eS
  refine calls_of_wp hf hb (C_ hm hT hΓ hR code (A d) _ _ _ _ w (JE hargs fn.ntmps) hv (fun e A' aV a' w' hk bb=>?_))
  obtain⟨hd,V,r⟩:=bb
  have key:Ix T fn c.nd c.fg (c.F d) e aV->(∃ i,e = .exit i)\/∃ v,(results fn a'.tmps).run P w' = .ok v w'/\∃ x:cj c.fg,nt c.fg x=c.F d/\(c.nd=true->(mF c.fg x).Nodup)/\vK w w' c.fg v x:=by
   intro hp
   unfold Ix at hp
   split at hp
   ·exact hp.elim
   ·right
    split at hp
    ·rename_i ss nP
     split at hp
     ·rename_i x ns ho
      split at hp
      ·rename_i cR
       obtain⟨vs,e1,e2,e3⟩:=la hT r nP
       have aJ:nt c.fg x=c.F d/\(c.nd=true->(mF c.fg x).Nodup):=by
        revert hp
        cases c.nd with
        | true=>exact fun h=>⟨h.1,fun _=>h.2⟩
        | false=>exact fun h=>⟨h,fun h=>by cases h⟩
       refine⟨_,lM e3,x,aJ.1,aJ.2,?_⟩
       obtain⟨bs,k1,k2,k3⟩:=BT (vs:=vs) r.mem.cE ho e1 e2
       refine⟨⟨V.Z true,bs,_,rfl,k1,by rw[k2];exact zC r.mem (wx cR) k3,fun b hb=>?_,fun b hb=>?_⟩,r.mem.kept⟩
       ·have fO:b∈bs.filterMap id:=List.mem_filterMap.2 ⟨some b,hb,rfl⟩
        rw[k2] at fO
        obtain⟨n,h1,h2,rfl⟩:=zx fO
        obtain⟨e,xs,h3⟩:=k3 n h1
        obtain⟨_,h4,h5⟩:=r.mem.own n (by rw[h3];rfl) h2
        exact⟨r.mem.fY n e xs h3 h2,h4,fun hz=>h5 (Vl.db hz)⟩
       ·rcases hb with hb|⟨hb,_⟩
        ·exact r.mem.z1 b hb
        ·cases hb
      ·exact hp.elim
     ·exact hp.elim
    ·exact hp.elim
  have iM:=key hk
  cases e with
  | normal =>
    rcases iM with ⟨i,h⟩|⟨v,h1,h2⟩
    ·cases h
    ·exact⟨hd,v,h1,v,rfl,h2⟩
  | exit i=>exact hk.elim
  | ret =>
    rcases iM with ⟨i,h⟩|⟨v,h1,h2⟩
    ·cases h
    ·exact⟨hd,v,h1,v,rfl,h2⟩
 ·exact h.elim
theorem build{α:Type}(n:Nat)(p:Nat->α->Prop)(h:∀ i,i<n->∃ x,p i x):∃ xs:List α,xs.length=n/\∀ i (hi:i<xs.length),p i xs[i]:=by
 induction n with
 | zero=>exact⟨[],rfl,fun i hi=>absurd hi (Nat.not_lt_zero _)⟩
 | succ n ih =>
   obtain⟨xs,h1,h2⟩:=ih (fun i hi=>h i (by omega))
   obtain⟨x,hx⟩:=h n (by omega)
   refine⟨xs++[x],by simp[h1],fun i hi=>?_⟩
   rcases Nat.lt_or_ge i xs.length with cF|cF
   ·rw[List.getElem_append_left cF];exact h2 i cF
   ·have:i=n:=by simp at hi;omega
    subst this
    rw[List.getElem_append_right cF]
    simp only[h1,Nat.sub_self,List.getElem_cons_zero]
    exact hx
theorem N7{Z:Nat->Prop}{e:Ty}(ih:∀ {cs:List Value} {d:e.cO.den},aI Z w e.cO cs d->∃ d':e.den,aU e d'=d/\aI Z w e cs d'){cs:List Value}{d:List e.cO.den}(h:aI Z w (.sl e.cO) cs d) :
 ∃ xs:List e.den,xs.map (aU e)=d/\aI Z w (.sl e) cs xs:=by
 obtain⟨a,cap,h1,h2,h3,h4⟩:=h
 obtain⟨xs,k1,k2⟩:=build d.length (fun i (x:e.den)=>∃ hi:i<d.length,aU e x=d[i]/\∃ ad:Addr,a=some ad/\ad.spot=none/\Z ad.block/\∃ es,es.length=e.size/\oS w ad.block (ad.off+i*e.size) es/\aI Z w e es x) (fun i hi=>by
  obtain⟨ad,e1,e2,e3,es,e4,e5,e6⟩:=h4 i hi
  obtain⟨x,hx,kx⟩:=ih e6
  exact⟨x,hi,hx,ad,e1,e2,e3,es,by rw[<-b_ e];exact e4,by rw[<-b_ e];exact e5,kx⟩)
 refine⟨xs,List.ext_getElem (by simp[k1]) (fun i h1 h2=>?_),a,cap,by rw[k1];exact h1,by rw[k1];exact h2,by rw[k1];exact h3,fun i hi=>?_⟩
 ·rw[List.getElem_map]
  obtain⟨_,hx,_⟩:=k2 i (by simpa using h1)
  exact hx
 ·obtain⟨_,_,hx⟩:=k2 i hi
  exact hx
theorem nq{Z:Nat->Prop}:∀(t:Ty),t.eH=true->∀ {cs:List Value} {d:t.cO.den},aI Z w t.cO cs d->∃ d':t.den,aU t d'=d/\aI Z w t cs d'
 | .int _,_,_,d,h=>⟨d,rfl,h⟩
 | .bool,_,_,d,h=>⟨d,rfl,h⟩
 | .str,_,_,d,h=>⟨d,rfl,h⟩
 | .ptr _,_,_,d,h=>⟨d,rfl,h⟩
 | .ca _ _,_,_,d,h=>⟨d,rfl,h⟩
 | .st t,ht,_,d,h=>nq t ht h
 | .pr a b,ht,_,d,h=>by
   have BF:(a.eH&&b.eH)=true:=ht
   rw[Bool.and_eq_true] at BF
   obtain⟨c1,c2,h1,h2,h3⟩:=h
   obtain⟨x,hx,kx⟩:=nq a BF.1 h2
   obtain⟨y,hy,ky⟩:=nq b BF.2 h3
   refine⟨(x,y),?_,c1,c2,h1,kx,ky⟩
   show (aU a x,aU b y)=d
   rw[hx,hy];rfl
 | .sl e,ht,cs,d,h=>N7 (fun k=>nq e ht k) h
 | .gs wh e,ht,cs,d,h=>by
   have BF:(!wh&&e.eH)=true:=ht
   rw[Bool.and_eq_true,Bool.not_eq_true'] at BF
   obtain⟨xs,k1,k2⟩:=N7 (fun k=>nq e BF.2 k) (show aI Z w (.sl e.cO) cs d from h)
   have F6:=BF.1
   obtain⟨a,cap,h1,h2,h3,h4⟩:=k2
   cases xs with
   | nil =>
     exact⟨(0,[]),k1,⟨a,cap,h1,h2,h3,h4⟩,fun hp=>absurd hp (Nat.lt_irrefl _),fun hw=>by rw[F6] at hw;cases hw⟩
   | cons x xr =>
     obtain⟨ad,e1,e2,e3,_⟩:=h4 0 (Nat.succ_pos _)
     refine⟨(ad.block,x::xr),k1,⟨a,cap,h1,h2,h3,h4⟩,fun _=>?_,fun hw=>by rw[F6] at hw;cases hw⟩
     obtain⟨b,o,sp⟩:=ad
     simp only at e2
     subst e2
     exact⟨o,_,cap,by rw[h1,e1]⟩
theorem Nb{Z:Nat->Prop}{e:Ty}(ih:∀ {cs:List Value} {d:e.cO.den},aI Z w e.cO cs d->∃ d':e.den,aU e d'=d/\aI Z w e cs d'){cs:List Value}{d:List e.cO.den}{bs:List (Option Nat)}(h:jg Z w (.sl e.cO) cs d bs) :
 ∃ xs:List e.den,xs.map (aU e)=d/\jg Z w (.sl e) cs xs bs:=by
 rcases h with ⟨h1,rfl,h3⟩|⟨b,cap,ak,el,h1,h2,h3,h4,h5,h6,h7⟩
 ·exact⟨[],rfl,.inl ⟨h1,rfl,h3⟩⟩
 ·obtain⟨xs,k1,k2⟩:=build d.length (fun i (x:e.den)=>∃ hi:i<d.length,aU e x=d[i]/\∃ es,es.length=e.size/\(∀ j u,es[j]? = some u->ak[i*e.size+j]? = some u)/\aI Z w e es x) (fun i hi=>by
   obtain⟨es,e4,e5,e6⟩:=h7 i hi
   obtain⟨x,hx,kx⟩:=ih e6
   exact⟨x,hi,hx,es,by rw[<-b_ e];exact e4,by rw[<-b_ e];exact e5,kx⟩)
  refine⟨xs,List.ext_getElem (by simp[k1]) (fun i h1 h2=>?_),.inr ⟨b,cap,ak,el,by rw[k1];exact h1,h2,h3,by rw[<-b_ e];exact h4,by rw[k1];exact h5,by rw[k1];exact h6,fun i hi=>?_⟩⟩
  ·rw[List.getElem_map]
   obtain⟨_,hx,_⟩:=k2 i (by simpa using h1)
   exact hx
  ·obtain⟨_,_,hx⟩:=k2 i hi
   exact hx
theorem vw{Z:Nat->Prop}:∀(t:Ty),t.eH=true->∀ {cs:List Value} {d:t.cO.den} {bs:List (Option Nat)},jg Z w t.cO cs d bs->t.BO=true->∃ d':t.den,aU t d'=d/\jg Z w t cs d' bs
 | .int _,_,_,d,_,h,_=>⟨d,rfl,h⟩
 | .bool,_,_,d,_,h,_=>⟨d,rfl,h⟩
 | .str,_,_,d,_,h,_=>⟨d,rfl,h⟩
 | .ptr _,_,_,d,_,h,_=>h.elim
 | .ca _ _,_,_,d,_,h,_=>h.elim
 | .gs _ _,_,_,_,_,_,hg=>by cases hg
 | .st t,ht,_,d,_,h,hg=>vw t ht h hg
 | .pr a b,ht,_,d,_,h,hg=>by
   have BF:(a.eH&&b.eH)=true:=ht
   rw[Bool.and_eq_true] at BF
   have kH:(a.BO&&b.BO)=true:=hg
   rw[Bool.and_eq_true] at kH
   obtain⟨c1,c2,b1,b2,h1,pW,h2,h3⟩:=h
   obtain⟨x,hx,kx⟩:=vw a BF.1 h2 kH.1
   obtain⟨y,hy,ky⟩:=vw b BF.2 h3 kH.2
   refine⟨(x,y),?_,c1,c2,b1,b2,h1,pW,kx,ky⟩
   show (aU a x,aU b y)=d
   rw[hx,hy];rfl
 | .sl e,ht,cs,d,bs,h,_=>Nb (fun k=>nq e ht k) h
theorem VI{st:St}{ts:Array Value}(r:Rel base M w0 V st ts w){n:Nat}{e e':Ty}(hnf:e.bQ=false)(qz:e.flat=false)(ht:e'.eH=true)(h:e'.cO=e){xs:List e.den}(hn:st.an n = .row true e xs) :
 ∃ br:List e'.den,cA h (bH e' br)=xs/\Rel base M w0 V { st with hp:=bP st.hp n (.row true e' br) } ts w/\∀ s v,S.ok V st.an w s v->S.ok V (St.mk st.ts (bP st.hp n (.row true e' br))).an w s v:=by
 subst h
 have m:=r.mem
 have fQ:=m.cE n
 rw[hn] at fQ
 obtain⟨br,k1,k2⟩:∃ br:List e'.den,br.map (aU e')=xs/\(az.row true e' br).ok V st.an w n:=by
  rcases fQ with ⟨h1,h2⟩|⟨h1,ak,el,h2,h3,h4⟩
  ·exact⟨[],by rw[h2];rfl,.inl ⟨h1,rfl⟩⟩
  ·obtain⟨br,j1,j2⟩:=build xs.length (fun i (x:e'.den)=>∃ hi:i<xs.length,aU e' x=xs[i]/\∃ es,es.length=e'.size/\(∀ j u,es[j]? = some u->ak[i*e'.size+j]? = some u)/\aI (V.Z true) w e' es x) (fun i hi=>by
    obtain⟨es,e4,e5,e6⟩:=h4 i hi
    obtain⟨x,hx,kx⟩:=nq e' ht e6
    exact⟨x,hi,hx,es,by rw[<-b_ e'];exact e4,by rw[<-b_ e'];exact e5,kx⟩)
   refine⟨br,List.ext_getElem (by simp[j1]) (fun i g1 g2=>?_),.inr ⟨h1,ak,el,h2,by rw[j1];exact h3,fun i hi=>?_⟩⟩
   ·rw[List.getElem_map]
    obtain⟨_,hx,_⟩:=j2 i (by simpa using g1)
    exact hx
   ·obtain⟨_,_,hx⟩:=j2 i hi
    exact hx
 refine⟨br,k1,?_⟩
 have de:(st.an n).live=true:=by rw[hn];rfl
 have aT:n<st.hp.length:=iJ de
 have hl:br.length=xs.length:=by rw[<-k1,List.length_map]
 have ec:(St.mk st.ts (bP st.hp n (.row true e' br))).an=aD st.an n (.row true e' br):=gZ aT _ _
 have cell:∀ {c:C} {v:Value},C.ok V st.an w c v->C.ok V (aD st.an n (.row true e' br)) w c v:=by
  intro c v h
  have ch:∀ {k:Nat} {fr:Bool} {e2:Ty} {ys:List e2.den},st.an k = .row fr e2 ys->∃ e3 zs,aD st.an n (.row true e' br) k = .row (if k=n then true else fr) e3 zs/\e3.size=e2.size/\zs.length=ys.length:=by
   intro k fr e2 ys hk
   by_cases cS:k=n
   ·subst cS
    rw[hn] at hk
    injection hk with q1 q2 q3
    subst q2;cases q3
    exact⟨e',br,by simp only[aD,if_true],(b_ e').symm,hl⟩
   ·exact⟨e2,ys,by simp only[aD,if_neg cS];exact hk,rfl,rfl⟩
  have mz:∀ {k:Nat} {cs:List C},st.an k = .bx cs->aD st.an n (.row true e' br) k = .bx cs:=by
   intro k cs hk
   have cS:k≠n:=fun e=>by subst e;rw[hn] at hk;cases hk
   simp only[aD,if_neg cS];exact hk
  have hr:∀ {k h0:Nat} {e2 e3:Ty} {v:Value},e3.size=e2.size->du V w k e2 h0 v->du V w k e3 h0 v:=by
   intro k h0 e2 e3 v hs q
   rcases q with q|⟨q1,cap,ak,el,q2,q3,q4,q5⟩
   ·exact .inl q
   ·exact .inr ⟨q1,cap,ak,el,q2,q3,by rw[hs];exact q4,q5⟩
  cases c with
  | own k =>
    obtain⟨fr,e2,ys,h1,h2⟩:=h
    obtain⟨e3,zs,g1,g2,g3⟩:=ch h1
    exact⟨_,e3,zs,g1,by rw[g3];exact hr g2 h2⟩
  | pre k h0 =>
    obtain⟨fr,e2,ys,h1,h3,h2⟩:=h
    obtain⟨e3,zs,g1,g2,g3⟩:=ch h1
    exact⟨_,e3,zs,g1,by rw[g3];exact h3,hr g2 h2⟩
  | fP k e2 ys=>obtain⟨⟨fr,e3,zs,h1⟩,h2⟩:=h;obtain⟨e4,us,g1,_⟩:=ch h1;exact⟨⟨_,e4,us,g1⟩,h2⟩
  | box k off=>obtain⟨h1,h2,cs,h3⟩:=h;exact⟨h1,h2,cs,mz h3⟩
  | eR k i off =>
    obtain⟨h0,fr,e2,ys,h1,h2,h3⟩:=h
    obtain⟨e3,zs,g1,g2,g3⟩:=ch h1
    exact⟨h0,_,e3,zs,g1,by rw[g3];exact h2,by rw[g2];exact h3⟩
  | fn g ea=>exact⟨h.1,fun k hk=>⟨(h.2 k hk).1,let ⟨_,cs,h3⟩:=h.2 k hk;⟨cs,mz h3⟩⟩⟩
  | _=>exact h
 have cells:∀ {cs:List C} {vs:List Value},bO V st.an w cs vs->bO V (aD st.an n (.row true e' br)) w cs vs:=fun h=>⟨h.1,fun j c v hc hv=>cell (h.2 j c v hc hv)⟩
 have fy:∀ k,(aD st.an n (.row true e' br) k).live=true->(st.an k).live=true:=by
  intro k h
  by_cases cS:k=n
  ·subst cS;exact de
  ·simp only[aD,if_neg cS] at h;exact h
 have sok:∀ s v,S.ok V st.an w s v->S.ok V (aD st.an n (.row true e' br)) w s v:=by
  intro s v h0
  cases s with
  | c y=>exact cell h0
  | agg cs=>obtain⟨vs,h1,h2⟩:=h0;exact⟨vs,h1,cells h2⟩
  | sP zs =>
    obtain⟨vs,h1,h2,h3⟩:=h0
    refine⟨vs,h1,h2,fun j y v hy hv=>?_⟩
    have h4:=h3 j y v hy hv
    unfold mo at h4 ⊢
    split
    ·rename_i hb;rw[if_pos hb] at h4;obtain⟨us,k1,k2⟩:=h4;exact⟨us,k1,cells k2⟩
    ·rename_i hb;rw[if_neg hb] at h4;exact cells h4
  | fh=>exact h0
  | any=>trivial
  | arr e2 ys=>exact S.xL h0
 refine⟨⟨r.len,fun i s v hs hv=>by rw[ec];exact sok s v (r.iZ i s v hs hv),?_⟩,fun s v h=>by rw[ec];exact sok s v h⟩
 ·rw[ec]
  refine⟨fun k=>?_,fun k cs h=>?_,fun k h hh=>m.own k (fy k h) hh,fun k e2 ic h hh=>?_,fun k k' h h' hh nw he=>m.gi k k' (fy k h) (fy k' h') hh nw he,m.z0,m.z1,m.kept,fun k h hh=>?_,fun b hb=>?_,fun k hh i hi=>?_⟩
  ·by_cases cS:k=n
   ·subst cS
    simp only[aD,if_true]
    exact k2
   ·simp only[aD,if_neg cS]
    have h1:=m.cE k
    cases bo:st.an k with
    | dead=>trivial
    | bx cs=>rw[bo] at h1;obtain⟨ak,el,h2,h3⟩:=h1;exact⟨ak,el,h2,cells h3⟩
    | row fr e2 ys=>rw[bo] at h1;exact h1
  ·by_cases cS:k=n
   ·subst cS;simp only[aD,if_true] at h;cases h
   ·simp only[aD,if_neg cS] at h;exact m.box k cs h
  ·by_cases cS:k=n
   ·subst cS;exact m.fY k e'.cO xs hn hh
   ·simp only[aD,if_neg cS] at h;exact m.fY k e2 ic h hh
  ·by_cases cS:k=n
   ·subst cS;simp only[aD,if_true] at h;exact False.elim h
   ·simp only[aD,if_neg cS] at h;exact m.jO k h hh
  ·obtain⟨q1,q2⟩:=m.oh b hb
   have F0:0≠n:=fun e=>by subst e;rw[hn] at q1;cases q1
   simp only[aD,if_neg F0]
   exact⟨q1,q2⟩
  ·by_cases cS:k=n
   ·subst cS;simp only[aD,if_true] at hi;cases hi
   ·simp only[aD,if_neg cS] at hi;exact m.gE k hh i hi
theorem oO{K:St->Prop}{ts:Array Value}:∀(l:List az) {nm:Nat} {st:St},Rel base M w0 V st ts w->(∀(j:Nat) e,l[j]? = some e->st.hp[nm+j]? = some e)->nr nm l st K->∃ aV,Rel base M w0 V aV ts w/\K aV/\∀ s v,S.ok V st.an w s v->S.ok V aV.an w s v
 | [],nm,st,r,_,h=>⟨st,r,h,fun _ _ h=>h⟩
 | .bx cs::l,nm,st,r,hl,h=>oO l r (fun j e he=>by have:=hl (j+1) e (by simpa using he);rwa [show nm+(j+1)=nm+1+j by omega] at this) h
 | .dead::l,nm,st,r,hl,h=>oO l r (fun j e he=>by have:=hl (j+1) e (by simpa using he);rwa [show nm+(j+1)=nm+1+j by omega] at this) h
 | .row false e xs::l,nm,st,r,hl,h=>oO l r (fun j e he=>by have:=hl (j+1) e (by simpa using he);rwa [show nm+(j+1)=nm+1+j by omega] at this) h
 | .row true e xs::l,nm,st,r,hl,h=>by
   have eo:∀(j:Nat) e,l[j]? = some e->st.hp[nm+1+j]? = some e:=fun j e he=>by have:=hl (j+1) e (by simpa using he);rwa [show nm+(j+1)=nm+1+j by omega] at this
   unfold nr at h
   split at h
   ·rename_i hc
    simp only[Bool.and_eq_true,Bool.not_eq_true'] at hc
    split at h
    ·rename_i hu
     have h00:=hl 0 _ rfl
     rw[Nat.add_zero] at h00
     have hn:st.an nm = .row true e xs:=by
      show nth .dead st.hp nm=_
      rw[cT,h00];rfl
     obtain⟨br,k1,k2,k3⟩:=VI r hc.1.2 hc.1.1 hc.2 hu hn
     have key:∀(j:Nat) e2,l[j]? = some e2->(St.mk st.ts (bP st.hp nm (.row true e.tell br))).hp[nm+1+j]? = some e2:=by
      intro j e2 he
      show (bP st.hp nm _)[nm+1+j]? = _
      rw[ga,List.getElem?_set_ne (by omega)]
      exact eo j e2 he
     obtain⟨st2,g1,g2,g3⟩:=oO l k2 key (h br k1)
     exact⟨st2,g1,g2,fun s v hs=>g3 s v (k3 s v hs)⟩
    ·exact oO l r eo h
   ·exact oO l r eo h
theorem jG{f:FuncId}{c:TC}(h:xE P f c):fS P f (dw c):=by
 intro base M w0 V cd ts w ss vs K r0 hlen aeM hr0
 obtain⟨st,r,hr,aeN⟩:=oO cd.hp r0 (fun j e he=>by rw[Nat.zero_add];exact he) hr0
 have nP:∀(i:Nat) s v,ss[i]? = some s->vs[i]? = some v->S.ok V st.an w s v:=fun i s v h1 h2=>aeN s v (aeM i s v h1 h2)
 split at hr
 ·rename_i d hd
  obtain⟨eS,hK⟩:=hr
  have hargs:=xz (kN.cE r) c.ts hd hlen nP
  refine (h w vs d hargs eS).mono ?_
  rintro e w' ⟨v,rfl,r',hu,hn,⟨Z1,bs,us,rfl,k1,k2,k3,k4⟩,hk⟩
  have g:=RJ r.mem (nx:=bL st.hp) k1 k2 k3 k4 hk (fun j _=>yP st j)
  obtain⟨q1,q2⟩:=vD r g
  have hold:∀ i∈mF c.fg r',¬V.Z false i:=ab9 r.mem (fun i hi=>(k4 i (DO k1 i hi)).1)
  refine⟨_,rfl,_,_,_,hK r' hu ?_ (qh k1) (iA (RR r hold) (Po r hold)),q1,q2⟩
  split
  ·rename_i cR;exact hn cR
  ·trivial
 ·exact hr.elim
theorem rL{t:Ty}{cs:List Value}{v:Value}:rK t.cO cs v↔rK t cs v:=by
 have:iQ t.cO=iQ t:=by cases t<;>rfl
 unfold rK
 rw[this]
def BP:List Ty->Bool
 | []=>true
 | t::r=>t.BO&&t.eH&&BP r
def Cs:List Ty->Bool
 | []=>true
 | t::r=>t.eH&&Cs r
theorem JM{Z:Nat->Prop}:∀(ts:List Ty),BP ts=true->∀ {vs:List Value} {d:cj (rM ts)} {bs:List (Option Nat)},fu Z w (rM ts) vs d bs->∃ d':cj ts,nt ts d'=d/\fu Z w ts vs d' bs
 | [],_,vs,d,bs,h=>⟨(),rfl,h⟩
 | [t],hg,vs,d,bs,h=>by
   simp only[BP,Bool.and_eq_true] at hg
   obtain⟨v,h1,cs,h2,h3⟩:=h
   obtain⟨d',k1,k2⟩:=vw t hg.1.2 h3 hg.1.1
   exact⟨d',k1,v,h1,cs,rL.1 h2,k2⟩
 | t::u::r,hg,vs,d,bs,h=>by
   have kH:(t.BO&&t.eH&&BP (u::r))=true:=hg
   simp only[Bool.and_eq_true] at kH
   obtain⟨v,cI,b1,b2,h1,pW,⟨cs,h2,h3⟩,h4⟩:=h
   obtain⟨x,k1,k2⟩:=vw t kH.1.2 h3 kH.1.1
   obtain⟨y,k3,k4⟩:=JM (u::r) kH.2 h4
   refine⟨(x,y),?_,v,cI,b1,b2,h1,pW,⟨cs,rL.1 h2,k2⟩,k4⟩
   show (aU t x,nt (u::r) y)=d
   rw[k1,k3];rfl
theorem IP{Z:Nat->Prop}:∀(ts:List Ty),Cs ts=true->∀ {vs:List Value} {d:cj (rM ts)},mu Z w (rM ts) vs d->∃ d':cj ts,nt ts d'=d/\mu Z w ts vs d'
 | [],_,vs,d,h=>⟨(),rfl,h⟩
 | [t],hg,vs,d,h=>by
   simp only[Cs,Bool.and_eq_true] at hg
   obtain⟨v,h1,cs,h2,h3⟩:=h
   obtain⟨d',k1,k2⟩:=nq t hg.1 h3
   exact⟨d',k1,v,h1,cs,rL.1 h2,k2⟩
 | t::u::r,hg,vs,d,h=>by
   have kH:(t.eH&&Cs (u::r))=true:=hg
   simp only[Bool.and_eq_true] at kH
   obtain⟨v,cI,h1,⟨cs,h2,h3⟩,h4⟩:=h
   obtain⟨x,k1,k2⟩:=nq t kH.1 h3
   obtain⟨y,k3,k4⟩:=IP (u::r) kH.2 h4
   refine⟨(x,y),?_,v,cI,h1,⟨cs,rL.1 h2,k2⟩,k4⟩
   show (aU t x,nt (u::r) y)=d
   rw[k1,k3];rfl
theorem Ct{f:FuncId}{c:TC}{p:PC}(Jj:p={ ts:=c.ts,rs:=rM c.fg,pre:=c.pre,F:=c.F })(h:n8 P f p)(hg:BP c.fg=true)(hn:c.nd=false):xE P f c:=by
 subst Jj
 intro w args d hargs eS
 refine (h w args d hargs eS).mono ?_
 rintro e w' ⟨v,rfl,⟨Z1,bs,vs,rfl,k1,k2,k3,k4⟩,hk⟩
 obtain⟨r,j1,j2⟩:=JM c.fg hg k1
 exact⟨_,rfl,r,j1,(fun h=>by rw[hn] at h;cases h),⟨Z1,bs,vs,rfl,j2,k2,k3,k4⟩,hk⟩
theorem R_{f:FuncId}{ts:List Ty}(hg:Cs ts=true)(h:n8 P f (HB ts)):n8 P f (HB (rM ts)):=by
 intro w args d hargs _
 obtain⟨d',_,k⟩:=IP ts hg hargs
 exact h w args d' k trivial
theorem ZD{Z:Nat->Prop}{e:Ty}{cs:List Value}{xs:List e.den}{bs:List (Option Nat)}(h:jg Z w (.sl e) cs xs bs):jg Z w (.sl e.cO) cs (xs.map (aU e)) bs:=by
 rcases h with ⟨h1,rfl,h3⟩|⟨b,cap,ak,el,h1,h2,h3,h4,h5,h6,h7⟩
 ·exact .inl ⟨h1,rfl,h3⟩
 ·refine .inr ⟨b,cap,ak,el,by rw[List.length_map];exact h1,h2,h3,by rw[b_];exact h4,by rw[List.length_map];exact h5,by rw[List.length_map];exact h6,fun i hi=>?_⟩
  obtain⟨es,e4,e5,e6⟩:=h7 i (by rw[List.length_map] at hi;exact hi)
  exact⟨es,by rw[b_];exact e4,by rw[b_];exact e5,by rw[List.getElem_map];exact aI.un e e6⟩
theorem BU{Z:Nat->Prop}:∀(t:Ty) {cs:List Value} {d:t.den} {bs:List (Option Nat)},jg Z w t cs d bs->jg Z w t.cO cs (aU t d) bs
 | .int _,_,_,_,h=>h
 | .bool,_,_,_,h=>h
 | .str,_,_,_,h=>h
 | .ptr _,_,_,_,h=>h.elim
 | .ca _ _,_,_,_,h=>h.elim
 | .gs _ _,_,_,_,h=>h.elim
 | .st t,_,_,_,h=>BU t h
 | .pr a b,_,_,_,h=>by
   obtain⟨c1,c2,b1,b2,h1,pW,h2,h3⟩:=h
   exact⟨c1,c2,b1,b2,h1,pW,BU a h2,BU b h3⟩
 | .sl e,cs,d,bs,h=>by
   exact ZD h
theorem Rb{Z:Nat->Prop}:∀(ts:List Ty) {vs:List Value} {d:cj ts} {bs:List (Option Nat)},fu Z w ts vs d bs->fu Z w (rM ts) vs (nt ts d) bs
 | [],_,_,_,h=>h
 | [t],_,_,_,h=>by obtain⟨v,h1,cs,h2,h3⟩:=h;exact⟨v,h1,cs,rL.2 h2,BU t h3⟩
 | t::u::r,_,_,_,h=>by
   obtain⟨v,cI,b1,b2,h1,pW,⟨cs,h2,h3⟩,h4⟩:=h
   exact⟨v,cI,b1,b2,h1,pW,⟨cs,rL.2 h2,BU t h3⟩,Rb (u::r) h4⟩
theorem BY{f:FuncId}{c:TC}(h:xE P f c):n8 P f { ts:=c.ts,rs:=rM c.fg,pre:=c.pre,F:=c.F }:=by
 intro w args d hargs eS
 refine (h w args d hargs eS).mono ?_
 rintro e w' ⟨v,rfl,r,hu,_,⟨Z1,bs,vs,rfl,k1,k2,k3,k4⟩,hk⟩
 have hu:nt c.fg r=c.F d:=hu
 refine⟨_,rfl,⟨Z1,bs,vs,rfl,?_,k2,k3,k4⟩,hk⟩
 show fu Z1 w' (rM c.fg) vs (c.F d) bs
 rw[<-hu]
 exact Rb c.fg k1
end
end Go.SX
/- Writes into told blocks: what stays true. No condition. -/
namespace Go.SX
open Go.RowKit
set_option linter.unusedVariables false
set_option linter.unusedSimpArgs false
def dF(keep:Bool):C->C
 | .rg fr wh e b xs=>if keep&&e.ir then .rg fr wh e b xs else .any
 | .rd _ _ _=>.any
 | .fP _ _ _=>.any
 | .at_ _ _ _ _=>.any
 | .ca _ _ _ _=>.any
 | c=>c
def jD(n:Nat)(l:List Nat):Nat->List az->Option Prop
 | _,[]=>none
 | k,.row _ e xs::r=>fj (if Nat.beq k n||e.flat then none else if e.ir then some (bz l (aX e xs)) else some False) (jD n l (k+1) r)
 | k,.bx _::r=>jD n l (k+1) r
 | k,.dead::r=>jD n l (k+1) r
def C.pq(l:List Nat):C->Option Prop
 | .rg _ wh e b xs=>if e.ir then some (bz l (ids (.gs wh e) (b,xs))) else none
 | _=>none
def jK(l:List Nat):List C->Option Prop
 | []=>none
 | c::r=>fj (c.pq l) (jK l r)
def wL(l:List Nat):List (Bool×List C)->Option Prop
 | []=>none
 | v::r=>fj (jK l v.2) (wL l r)
def mT(l:List Nat):List S->Option Prop
 | []=>none
 | .c x::r=>fj (x.pq l) (mT l r)
 | .agg cs::r=>fj (jK l cs) (mT l r)
 | .sP vs::r=>fj (wL l vs) (mT l r)
 | _::r=>mT l r
def uG(l:List Nat):List az->Option Prop
 | []=>none
 | .bx cs::r=>fj (jK l cs) (uG l r)
 | _::r=>uG l r
def St.drop(st:St)(m:Nat):St:={ (st.map (bI m)) with hp:=bP (st.map (bI m)).hp m .dead }
def St.vP(st:St):List Nat->St
 | []=>st
 | m::r=>(st.drop m).vP r
def fi(n:Nat):Nat->List az->List Nat
 | _,[]=>[]
 | k,.row _ e _::r=>if Nat.beq k n||e.flat||e.ir then fi n (k+1) r else k::fi n (k+1) r
 | k,.bx _::r=>fi n (k+1) r
 | k,.dead::r=>fi n (k+1) r
section
variable {P : Program} {T : cC} {Γ : FuncId → Option PC} {R : FuncId → Option cL} {base : Nat} {M : LM} {w0 : World} {V : Vl} {hp : Nat → az} {w w' : World}
theorem Bc{l:List Nat}:∀ {cs:List C},cU (jK l cs)->∀ c∈cs,cU (c.pq l)
 | [],_,c,hc=>by cases hc
 | x::r,h,c,hc=>by
   obtain⟨h1,h2⟩:=dv.1 h
   rcases List.mem_cons.1 hc with rfl|hc
   ·exact h1
   ·exact Bc h2 c hc
theorem AN{l:List Nat}:∀ {vs:List (Bool×List C)},cU (wL l vs)->∀ v∈vs,cU (jK l v.2)
 | [],_,c,hc=>by cases hc
 | x::r,h,c,hc=>by
   obtain⟨h1,h2⟩:=dv.1 h
   rcases List.mem_cons.1 hc with rfl|hc
   ·exact h1
   ·exact AN h2 c hc
def S.pq(l:List Nat):S->Prop
 | .c x=>cU (x.pq l)
 | .agg cs=>cU (jK l cs)
 | .sP vs=>cU (wL l vs)
 | _=>True
theorem Cv{l:List Nat}:∀ {ts:List S},cU (mT l ts)->∀ s∈ts,s.pq l
 | [],_,c,hc=>by cases hc
 | x::r,h,c,hc=>by
   have h2:x.pq l/\cU (mT l r):=by
    cases x with
    | c x=>exact dv.1 h
    | agg cs=>exact dv.1 h
    | sP vs=>exact dv.1 h
    | fh=>exact⟨trivial,h⟩
    | any=>exact⟨trivial,h⟩
    | arr e xs=>exact⟨trivial,h⟩
   rcases List.mem_cons.1 hc with rfl|hc
   ·exact h2.1
   ·exact Cv h2.2 c hc
theorem pw{l:List Nat}:∀ {es:List az},cU (uG l es)->∀ cs,.bx cs∈es->cU (jK l cs)
 | [],_,c,hc=>by cases hc
 | x::r,h,c,hc=>by
   cases x with
   | bx cs =>
     obtain⟨h1,h2⟩:=dv.1 h
     rcases List.mem_cons.1 hc with e|hc
     ·injection e with e;subst e;exact h1
     ·exact pw h2 c hc
   | row fr e xs =>
     rcases List.mem_cons.1 hc with e|hc
     ·cases e
     ·exact pw (es:=r) h c hc
   | dead =>
     rcases List.mem_cons.1 hc with e|hc
     ·cases e
     ·exact pw (es:=r) h c hc
theorem lz{n:Nat}{l:List Nat}:∀ {es:List az} {k:Nat},cU (jD n l k es)->∀(j:Nat) (fr:Bool) (e:Ty) (xs:List e.den),es[j]? = some (.row fr e xs)->k+j≠n->e.flat=true\/(e.ir=true/\bz l (aX e xs))
 | [],k,_,j,fr,e,xs,h,_=>by cases h
 | x::r,k,h,j,fr,e,xs,hj,bo=>by
   cases j with
   | zero =>
     simp only[List.getElem?_cons_zero,Option.some.injEq] at hj
     subst hj
     obtain⟨h1,_⟩:=dv.1 h
     have cS:Nat.beq k n=false:=by
      cases hb:Nat.beq k n with
      | false=>rfl
      | true=>exact absurd (Nat.eq_of_beq_eq_true hb) bo
     rw[cS,Bool.false_or] at h1
     cases hf:e.flat with
     | true=>exact .inl rfl
     | false =>
       rw[hf] at h1
       simp only[Bool.false_eq_true,if_false] at h1
       split at h1
       ·rename_i hg;exact .inr ⟨hg,h1⟩
       ·exact h1.elim
   | succ j =>
     have hr:cU (jD n l (k+1) r):=by
      cases x with
      | row nN e2 ic=>exact (dv.1 h).2
      | bx cs=>exact h
      | dead=>exact h
     exact lz hr j fr e xs (by simpa using hj) (by omega)
theorem RA{base m:Nat}{hp:Nat->az}{fr:Bool}{e:Ty}{xs:List e.den}(hm:hp m = .row fr e xs)(fQ:(az.row fr e xs).ok V hp w m)(mh:fr=true->V.has m->base<=V.aF m) :
 pn V hp w (bI m) (V.freeze m base) (aD (bY (bI m) hp) m .dead) w:=by
 have tn:=u9 (base:=base) hm fQ mh
 have ch:∀ {n a_ e'} {br:List e'.den},aD (bY (dW m fr e xs) hp) m .dead n = .row a_ e' br->aD (bY (bI m) hp) m .dead n = .row a_ e' br:=by
  intro n a_ e' br h
  by_cases hn:n=m
  ·simp only[aD,if_pos hn] at h;cases h
  ·simp only[aD,if_neg hn] at h ⊢
   unfold bY at h ⊢
   cases hq:hp n with
   | row a1 a2 a3=>rw[hq] at h;exact h
   | bx cs=>rw[hq] at h;cases h
   | dead=>rw[hq] at h;cases h
 have mz:∀ {n cs},aD (bY (dW m fr e xs) hp) m .dead n = .bx cs->∃ dm,aD (bY (bI m) hp) m .dead n = .bx dm:=by
  intro n cs h
  by_cases hn:n=m
  ·simp only[aD,if_pos hn] at h;cases h
  ·simp only[aD,if_neg hn] at h ⊢
   unfold bY at h ⊢
   cases hq:hp n with
   | row a1 a2 a3=>rw[hq] at h;cases h
   | bx cs=>exact⟨_,rfl⟩
   | dead=>rw[hq] at h;cases h
 have move:∀ {c v},C.ok (V.freeze m base) (aD (bY (dW m fr e xs) hp) m .dead) w c v->C.ok (V.freeze m base) (aD (bY (bI m) hp) m .dead) w c v:=by
  intro c v h
  cases c with
  | own n=>obtain⟨f1,e1,x1,h1,h2⟩:=h;exact⟨f1,e1,x1,ch h1,h2⟩
  | pre n k=>obtain⟨f1,e1,x1,h1,h3,h2⟩:=h;exact⟨f1,e1,x1,ch h1,h3,h2⟩
  | fP n e' ys=>obtain⟨⟨f1,e1,x1,h1⟩,h2⟩:=h;exact⟨⟨f1,e1,x1,ch h1⟩,h2⟩
  | box n off=>obtain⟨h1,h2,cs,h3⟩:=h;exact⟨h1,h2,mz h3⟩
  | eR n i off=>obtain⟨h0,f1,e1,x1,h1,h2⟩:=h;exact⟨h0,f1,e1,x1,ch h1,h2⟩
  | fn f ea=>exact⟨h.1,fun n hn=>⟨(h.2 n hn).1,let ⟨_,cs,h3⟩:=h.2 n hn;mz h3⟩⟩
  | _=>exact h
 intro c v h
 have nC:=C.dA h
 have ht:=tn c v h
 cases c with
 | own n =>
   show C.ok _ _ w (if n=m then .any else .own n) v
   split
   ·exact nC
   ·rename_i hn
    have h9:C.ok (V.freeze m base) _ w (if n=m then .rd fr e xs else .own n) v:=ht
    rw[if_neg hn] at h9
    exact move h9
 | pre n k =>
   show C.ok _ _ w (if n=m then .any else .pre n k) v
   split
   ·exact nC
   ·rename_i hn
    have h9:C.ok (V.freeze m base) _ w (if n=m then .rd fr e (xs.take k) else .pre n k) v:=ht
    rw[if_neg hn] at h9
    exact move h9
 | fP n e' ys =>
   show C.ok _ _ w (if n=m then .any else .fP n e' ys) v
   split
   ·exact nC
   ·rename_i hn
    have h9:C.ok (V.freeze m base) _ w (if n=m then .rd false e' ys else .fP n e' ys) v:=ht
    rw[if_neg hn] at h9
    exact move h9
 | eR n i o =>
   show C.ok _ _ w (if n=m then .any else .eR n i o) v
   split
   ·exact nC
   ·rename_i hn
    have h9:C.ok (V.freeze m base) _ w (if n=m then .at_ fr e (xs.getD i e.gh) o else .eR n i o) v:=ht
    rw[if_neg hn] at h9
    exact move h9
 | _=>exact move ht
theorem Xx{st:St}{ts:Array Value}(r:Rel base M w0 V st ts w){m:Nat}{fr:Bool}{e:Ty}{xs:List e.den}(hm:st.an m = .row fr e xs):Rel base M w0 (V.freeze m base) (st.drop m) ts w:=by
 have mm:=r.mem
 have fQ:=mm.cE m
 rw[hm] at fQ
 exact r.Hq hm (RA (base:=base) hm fQ (fun hf hh=>by subst hf;exact mm.fY m e xs hm hh))
theorem LA{st:St}{m n:Nat}(DH:n≠m)(hm:(st.an m).live=true):(st.drop m).an n=(st.an n).map (bI m):=by
 unfold St.drop
 rw[gZ (by show m<(lmap _ _).length;rw[bS,List.length_map];exact iJ hm)]
 simp only[aD,if_neg DH]
 show (st.map (bI m)).an n=_
 rw[jr];rfl
theorem Cd{ts:Array Value}{n:Nat}{fr:Bool}{e:Ty}{xs:List e.den}:∀(l:List Nat) {V:Vl} {st:St},Rel base M w0 V st ts w->st.an n = .row fr e xs->(∀ m∈l,m≠n)->(∀ m∈l,∃ fr e xs,st.an m = .row fr e xs)->l.Nodup →
 ∃ V',Rel base M w0 V' (st.vP l) ts w/\(st.vP l).an n = .row fr e xs/\V'.aF=V.aF/\V'.has=V.has
 | [],V,st,r,hn,_,_,_=>⟨V,r,hn,rfl,rfl⟩
 | m::l,V,st,r,hn,bo,ch,cR=>by
   obtain⟨f1,e1,x1,hm⟩:=ch m (List.mem_cons_self ..)
   have de:(st.an m).live=true:=by rw[hm];rfl
   have Hu:=List.nodup_cons.1 cR
   have hd:=Cd (n:=n) (fr:=fr) (e:=e) (xs:=xs) l (Xx r hm) ?_ (fun k hk=>bo k (List.mem_cons_of_mem _ hk)) (fun k hk=>?_) Hu.2
   ·exact hd
   ·rw[LA (fun e=>bo m (List.mem_cons_self ..) e.symm) de,hn];rfl
   ·obtain⟨f2,e2,x2,oZ⟩:=ch k (List.mem_cons_of_mem _ hk)
    exact⟨f2,e2,x2,by rw[LA (fun e=>Hu.1 (by rw[<-e];exact hk)) de,oZ];rfl⟩
theorem kb{n:Nat}:∀ {es:List az} {k m:Nat},m∈fi n k es->k<=m/\m≠n/\∃ fr e xs,es[m-k]? = some (.row fr e xs)
 | [],k,m,h=>by cases h
 | x::es,k,m,h=>by
   have next:m∈fi n (k+1) es->k<=m/\m≠n/\∃ fr e xs,(x::es)[m-k]? = some (.row fr e xs):=by
    intro h
    obtain⟨h1,h2,fr,e,xs,h3⟩:=kb h
    refine⟨by omega,h2,fr,e,xs,?_⟩
    rw[show m-k=(m-(k+1))+1 by omega]
    simpa using h3
   cases x with
   | bx cs=>exact next h
   | dead=>exact next h
   | row fr e xs =>
     unfold fi at h
     split at h
     ·exact next h
     ·rename_i hc
      rcases List.mem_cons.1 h with rfl|h
      ·refine⟨Nat.le_refl _,fun e=>hc ?_,fr,e,xs,by simp⟩
       subst e;simp
      ·exact next h
theorem iC{n:Nat}:∀(es:List az) (k:Nat),(fi n k es).Nodup
 | [],k=>List.nodup_nil
 | .bx cs::es,k=>iC es (k+1)
 | .dead::es,k=>iC es (k+1)
 | .row fr e xs::es,k=>by
   unfold fi
   split
   ·exact iC es (k+1)
   ·refine List.nodup_cons.2 ⟨fun h=>?_,iC es (k+1)⟩
    have:=(kb h).1
    omega
def Xof(V:Vl)(n:Nat)(l:List Nat)(b:Nat):Prop:=(V.has n/\b=V.aF n)\/b∈l
theorem t_ {st : St} {ts : Array Value} (r : Rel base M w0 V st ts w) {n : Nat} {fr : Bool} {e : Ty} {xs ys : List e.den} (hn : st.an n = .row fr e xs) (hlen : ys.length = xs.length) {l : List Nat} (hl : ∀ i ∈ l, V.Z false i)
    (cD : w.heap.size ≤ w'.heap.size) (jh : ∀ b, b < w.heap.size → ¬ Xof V n l b → w'.heap[b]? = w.heap[b]?) (hk : Kept base M w0 w')
    (ch : V.has n → ∃ ak el ba dC, w.heap[V.aF n]? = some (.cells ak el (0, 0)) ∧ w'.heap[V.aF n]? = some (.cells ba dC (0, 0)) ∧ ba.size = ak.size ∧ gl (V.Z fr) w' e ba ys)
    (KZ : ∀ m a_ e' br, m ≠ n → st.an m = .row a_ e' br → e'.flat = true ∨ (e'.ir = true ∧ bz l (aX e' br)))
    (keep : Bool) (Jj : keep = true → cU (mT l st.ts)) (hbs : keep = true → cU (uG l st.hp)) (FZ : ∀ i ∈ (az.row fr e ys).gE, i ∈ (az.row fr e xs).gE) :
    Rel base M w0 V { (st.map (dF keep)) with hp := bP (st.map (dF keep)).hp n (.row fr e ys) } ts w' := by
  have m := r.mem
  have de : (st.an n).live = true := by rw [hn]; rfl
  have aT : n < st.hp.length := iJ de
  have ec : (St.mk (st.map (dF keep)).ts (bP (st.map (dF keep)).hp n (.row fr e ys))).an = aD (bY (dF keep) st.an) n (.row fr e ys) := by
    rw [gZ (by show n < (lmap _ _).length; rw [bS, List.length_map]; exact aT)]
    congr 1
    exact jr st _
  have abr := m.cE n
  rw [hn] at abr
  -- blocks of other names
  have nX : ∀ k, k ≠ n → (st.an k).live = true → V.has k → ¬ Xof V n l (V.aF k) := by
    intro k cS qy Ul hx
    rcases hx with ⟨h1, h2⟩ | h1
    · exact cS (m.gi k n qy de Ul h1 h2)
    · exact (m.own k qy Ul).2.2 (hl _ h1)
  have Rt : ∀ k, k ≠ n → (st.an k).live = true → V.has k → w'.heap[V.aF k]? = w.heap[V.aF k]? := fun k cS qy Ul => jh _ (m.own k qy Ul).2.1 (nX k cS qy Ul)
  -- told words
  have zX : ∀ i, V.Z false i → i ∉ l → ¬ Xof V n l i := by
    intro i hz v9 hx
    rcases hx with ⟨h1, h2⟩ | h1
    · subst h2; exact (m.own n de h1).2.2 hz
    · exact v9 h1
  have Y1 : ∀ i, V.Z false i → i ∉ l → w'.heap[i]? = w.heap[i]? := fun i hz v9 => jh i (m.qu hz) (zX i hz v9)
  have kn : ∀ k, k ≠ n → aD (bY (dF keep) st.an) n (.row fr e ys) k = (st.an k).map (dF keep) := fun k cS => by simp only [aD, if_neg cS]; rfl
  have x8 : aD (bY (dF keep) st.an) n (.row fr e ys) n = .row fr e ys := by simp only [aD, if_true]
  have aaZ : ∀ {h : Nat} {v : Value}, du V w n e h v → du V w' n e h v := by
    intro h v k
    rcases k with k | ⟨k1, cap, ak, el, k2, k3, k4, k5⟩
    · exact .inl k
    · obtain ⟨ue, Fz, ba, dC, q1, q2, q3, _⟩ := ch k1
      rw [q1] at k3
      injection k3 with k3
      injection k3 with k3 _ _
      subst k3
      exact .inr ⟨k1, cap, ba, dC, k2, q2, by rw [q3]; exact k4, k5⟩
  have aaY : ∀ {k h : Nat} {e' : Ty} {v : Value}, k ≠ n → (st.an k).live = true → du V w k e' h v → du V w' k e' h v := by
    intro k h e' v cS qy q
    rcases q with q | ⟨k1, cap, ak, el, k2, k3, k4, k5⟩
    · exact .inl q
    · exact .inr ⟨k1, cap, ak, el, k2, by rw [Rt k cS qy k1]; exact k3, k4, k5⟩
  have RU : ∀ {k : Nat} {a_ : Bool} {e' : Ty} {br : List e'.den}, k ≠ n → st.an k = .row a_ e' br → aD (bY (dF keep) st.an) n (.row fr e ys) k = .row a_ e' br := by
    intro k a_ e' br cS h
    rw [kn k cS, h]; rfl
  have aa2 : ∀ {k : Nat} {cs : List C}, st.an k = .bx cs → ∃ dm, aD (bY (dF keep) st.an) n (.row fr e ys) k = .bx dm := by
    intro k cs h
    have cS : k ≠ n := fun e => by subst e; rw [hn] at h; cases h
    exact ⟨_, by rw [kn k cS, h]; rfl⟩
  have cell : ∀ {c : C} {v : Value}, C.ok V st.an w c v → (keep = true → cU (c.pq l)) → C.ok V (aD (bY (dF keep) st.an) n (.row fr e ys)) w' (dF keep c) v := by
    intro c v h ha
    cases c with
    | val u => exact h
    | iB => exact h
    | iq => exact h
    | any => exact h
    | rd a_ e' zs => exact C.dA h
    | fP k e' zs => exact C.dA h
    | at_ a_ t d off => exact C.dA h
    | ca a_ f t d => exact C.dA h
    | own k =>
      obtain ⟨a_, e', br, h1, h2⟩ := h
      by_cases cS : k = n
      · subst cS
        rw [hn] at h1
        injection h1 with q1 q2 q3
        subst q1; subst q2; cases q3
        exact ⟨fr, e, ys, x8, by rw [hlen]; exact aaZ h2⟩
      · exact ⟨a_, e', br, RU cS h1, aaY cS (by rw [h1]; rfl) h2⟩
    | pre k h0 =>
      obtain ⟨a_, e', br, h1, h3, h2⟩ := h
      by_cases cS : k = n
      · subst cS
        rw [hn] at h1
        injection h1 with q1 q2 q3
        subst q1; subst q2; cases q3
        exact ⟨fr, e, ys, x8, by rw [hlen]; exact h3, aaZ h2⟩
      · exact ⟨a_, e', br, RU cS h1, h3, aaY cS (by rw [h1]; rfl) h2⟩
    | box k off => obtain ⟨h1, h2, cs, h3⟩ := h; exact ⟨h1, h2, aa2 h3⟩
    | fn g ea => exact ⟨h.1, fun k hk => ⟨(h.2 k hk).1, let ⟨_, cs, h3⟩ := h.2 k hk; aa2 h3⟩⟩
    | eR k i off =>
      obtain ⟨h0, a_, e', br, h1, h2, h3⟩ := h
      by_cases cS : k = n
      · subst cS
        rw [hn] at h1
        injection h1 with q1 q2 q3
        subst q1; subst q2; cases q3
        exact ⟨h0, fr, e, ys, x8, by rw [hlen]; exact h2, h3⟩
      · exact ⟨h0, a_, e', br, RU cS h1, h2, h3⟩
    | rg a_ wh e' b zs =>
      show C.ok V _ w' (if keep && e'.ir then .rg a_ wh e' b zs else .any) v
      split
      · rename_i Ym
        rw [Bool.and_eq_true] at Ym
        have h' : aI (V.Z a_) w (.gs wh e') [v] (b, zs) := h
        have FO : bz l (ids (.gs wh e') (b, zs)) := by
          have h9 : cU (if e'.ir then some (bz l (ids (.gs wh e') (b, zs))) else none) := ha Ym.1
          rw [if_pos Ym.2] at h9
          exact h9
        refine aI.mv (.gs wh e') Ym.2 h' (fun i hi => ?_)
        have hz := aI.jz _ h' i hi
        exact ⟨hz, Y1 i (Vl.db hz) (fun v9 => FO i v9 hi)⟩
      · exact C.dA h
  have cells : ∀ {cs : List C} {vs : List Value}, bO V st.an w cs vs → (keep = true → cU (jK l cs)) → bO V (aD (bY (dF keep) st.an) n (.row fr e ys)) w' (lmap (dF keep) cs) vs := by
    intro cs vs h ha
    rw [bS]
    refine ⟨by rw [List.length_map]; exact h.1, fun j c v hc hv => ?_⟩
    rw [List.getElem?_map] at hc
    cases hx : cs[j]? with
    | none => rw [hx] at hc; cases hc
    | some y =>
      rw [hx] at hc
      simp only [Option.map_some, Option.some.injEq] at hc
      subst hc
      exact cell (h.2 j y v hx hv) (fun Mb => Bc (ha Mb) y (List.mem_of_getElem? hx))
  refine ⟨by show (lmap _ _).length = _; rw [bS, List.length_map]; exact r.len, fun i s v hs hv => ?_, ?_⟩
  · rw [ec]
    have bb : (lmap (S.map (dF keep)) st.ts)[i]? = some s := hs
    rw [bS, List.getElem?_map] at bb
    cases hx : st.ts[i]? with
    | none => rw [hx] at bb; cases bb
    | some x =>
      rw [hx] at bb
      simp only [Option.map_some, Option.some.injEq] at bb
      subst bb
      have h0 := r.iZ i x v hx hv
      have ha : keep = true → x.pq l := fun Mb => Cv (Jj Mb) x (List.mem_of_getElem? hx)
      cases x with
      | c y => exact cell h0 ha
      | agg cs => obtain ⟨vs, h1, h2⟩ := h0; exact ⟨vs, h1, cells h2 ha⟩
      | sP zs =>
        obtain ⟨vs, h1, h2, h3⟩ := h0
        refine ⟨vs, h1, by show (lmap _ zs).length = _; rw [bS, List.length_map]; exact h2, fun j y v hy hv => ?_⟩
        have AF : (lmap (fun v => (v.1, lmap (dF keep) v.2)) zs)[j]? = some y := hy
        rw [bS, List.getElem?_map] at AF
        cases hz : zs[j]? with
        | none => rw [hz] at AF; cases AF
        | some z =>
          rw [hz] at AF
          simp only [Option.map_some, Option.some.injEq] at AF
          subst AF
          have h4 := h3 j z v hz hv
          have YB : keep = true → cU (jK l z.2) := fun Mb => AN (ha Mb) z (List.mem_of_getElem? hz)
          unfold mo at h4 ⊢
          simp only
          split
          · rename_i hb; rw [if_pos hb] at h4; obtain ⟨us, k1, k2⟩ := h4; exact ⟨us, k1, cells k2 YB⟩
          · rename_i hb; rw [if_neg hb] at h4; exact cells h4 YB
      | fh => exact h0
      | any => trivial
      | arr e' zs => exact S.xL h0
  · rw [ec]
    have fy : ∀ k, (aD (bY (dF keep) st.an) n (.row fr e ys) k).live = true → (st.an k).live = true := by
      intro k h
      by_cases cS : k = n
      · subst cS; exact de
      · rw [kn k cS, oJ] at h; exact h
    refine ⟨fun k => ?_, fun k cs h => ?_, fun k h hh => ?_, fun k e2 ic h hh => ?_, fun k k' h h' hh nw he => m.gi k k' (fy k h) (fy k' h') hh nw he, m.z0, fun b hb => ?_, hk, fun k h hh => ?_, fun b hb => ?_, fun k hh i hi => ?_⟩
    · by_cases cS : k = n
      · subst cS
        rw [x8]
        rcases abr with ⟨k1, k2⟩ | ⟨k1, ak, el, k2, k3, k4⟩
        · exact .inl ⟨k1, by rw [k2] at hlen; exact List.length_eq_zero_iff.1 hlen⟩
        · obtain ⟨ue, Fz, ba, dC, q1, q2, q3, q4⟩ := ch k1
          exact .inr ⟨k1, ba, dC, q2, by rw [hlen]; exact k3, q4⟩
      · rw [kn k cS]
        have h1 := m.cE k
        cases bo : st.an k with
        | dead => trivial
        | bx cs =>
          rw [bo] at h1
          obtain ⟨ak, el, h2, h3⟩ := h1
          refine ⟨ak, el, by rw [Rt k cS (by rw [bo]; rfl) (m.box k cs bo)]; exact h2, cells h3 (fun Mb => pw (hbs Mb) cs ?_)⟩
          have vf : nth .dead st.hp k = .bx cs := bo
          rw [cT] at vf
          cases hx : st.hp[k]? with
          | none => rw [hx] at vf; cases vf
          | some y => rw [hx] at vf; simp only [Option.getD_some] at vf; subst vf; exact List.mem_of_getElem? hx
        | row a_ e' br =>
          rw [bo] at h1
          rcases h1 with h2 | ⟨h2, ak, el, h3, h4, h5⟩
          · exact .inl h2
          · refine .inr ⟨h2, ak, el, by rw [Rt k cS (by rw [bo]; rfl) h2]; exact h3, h4, fun i hi => ?_⟩
            obtain ⟨es, k1, k2, k3⟩ := h5 i hi
            refine ⟨es, k1, k2, ?_⟩
            rcases KZ k a_ e' br cS bo with hf | ⟨hg, ha⟩
            · exact k3.flat hf
            · refine aI.mv e' hg k3 (fun i' cF => ?_)
              have hz := aI.jz e' k3 i' cF
              exact ⟨hz, Y1 i' (Vl.db hz) (fun v9 => ha i' v9 (List.mem_flatMap.2 ⟨_, List.getElem_mem hi, cF⟩))⟩
    · by_cases cS : k = n
      · subst cS; rw [x8] at h; cases h
      · rw [kn k cS] at h
        cases bo : st.an k with
        | bx dm => exact m.box k dm bo
        | dead => rw [bo] at h; cases h
        | row a_ e' br => rw [bo] at h; cases h
    · obtain ⟨k1, k2, k3⟩ := m.own k (fy k h) hh
      exact ⟨k1, by omega, k3⟩
    · by_cases cS : k = n
      · subst cS
        rw [x8] at h
        injection h with h1 h2 h3
        subst h1
        exact m.fY k e xs hn hh
      · rw [kn k cS] at h
        cases bo : st.an k with
        | row a_ e' br => rw [bo] at h; exact m.fY k e2 ic (by rw [bo]; exact h) hh
        | dead => rw [bo] at h; cases h
        | bx cs => rw [bo] at h; cases h
    · obtain ⟨h1, h2⟩ := m.z1 b hb
      exact ⟨h1, by omega⟩
    · by_cases cS : k = n
      · subst cS
        rw [x8] at h
        refine m.jO k ?_ hh
        rw [hn]
        cases fr with
        | true => exact False.elim h
        | false => exact h
      · rw [kn k cS] at h
        exact m.jO k (xo h) hh
    · obtain ⟨q1, q2⟩ := m.oh b hb
      have F0 : 0 ≠ n := fun e => by subst e; rw [hn] at q1; cases q1
      rw [kn 0 F0, vq]
      exact ⟨q1, q2⟩
    · by_cases cS : k = n
      · subst cS
        rw [x8] at hi
        exact m.gE k hh i (by rw [hn]; exact FZ i hi)
      · rw [kn k cS, ED] at hi
        exact m.gE k hh i hi
end
end Go.SX
/- Marks on told rows: rules. No condition. -/
namespace Go.SX
open Go.RowKit
set_option linter.unusedVariables false
set_option linter.unusedSimpArgs false
structure MT where
 t:Ty
 pre:t.den->Int->Prop
 F:t.den->Int->Int
 G:t.den->Int->t.den
def YQ:List az->List az->Option Prop
 | [.row _ e xs],[.row _ e' ys]=>if h:e'=e then fj (some (ys.length=xs.length)) (some (aX e (cA h ys)=aX e xs)) else some False
 | _,_=>some False
def yE(T:cC)(Γ:FuncId->Option PC)(R:FuncId->Option cL)(fn:Func)(mt:MT)(A:mt.t.den->Int->Nat->Option bg):Prop :=
 match fn.body with
 | some code=>∀ d k,mt.t.wf d->i64.min<=k/\k<=i64.max->(ids mt.t d).Nodup->mt.pre d k →
    cU (YQ (fresh mt.t d 0).2 (fresh mt.t (mt.G d k) 0).2)/\vc T Γ R code (A d k) (fB mt.t d k fn.ntmps) fun e _ st=>uD T fn mt.t (mt.F d k) (mt.G d k) e st
 | none=>False
def ada(n:Nat)(l:List Nat)(out:Int)(fr:Bool)(e:Ty)(ys:List e.den)(st:St)(K:S->St->Prop):Prop :=
 cU (fj (jD n l 0 st.hp) (fj (mT l st.ts) (uG l st.hp)))/\K (.c (.val (.int .i64 out))) { (st.map (dF true)) with hp:=bP (st.map (dF true)).hp n (.row fr e ys) }
def oK(mt:MT):cL:=fun ss st K =>
 match ss with
 | [s,.c (.val (.int .i64 k))] =>
   match CV st.an mt.t s with
   | some (d,[some n]) =>
     match st.an n,(fresh mt.t (mt.G d k) 0).2 with
     | .row fr e xs,[.row _ e' ys] =>
       if e'=e then (if fr||Nat.beq n 0 then mt.pre d k/\(ids mt.t d).Nodup/\ada n (ids mt.t d) (mt.F d k) fr e' ys (st.vP (fi n 0 st.hp)) K else False)
       else False
     | _,_=>False
   | some (d,[none])=>mt.pre d k/\(ids mt.t d).Nodup/\K (.c (.val (.int .i64 (mt.F d k)))) st
   | _=>False
 | _=>False
def Ty.g1:Ty->Bool
 | .gs _ e=>e.flat
 | .sl _=>false
 | .st t=>t.g1
 | .pr a b=>a.g1&&b.g1
 | .ptr _=>false
 | .ca _ _=>false
 | _=>true
def p_(b:Nat)(e:Ty)(n:Nat):(t:Ty)->t.den->Prop
 | .gs wh e',d=>if e'=e/\wh=true then (d.1=b->d.2≠[]->d.2.length=n) else (d.1=b->d.2=[])
 | .st t,d=>p_ b e n t d
 | .pr x y,d=>p_ b e n x d.1/\p_ b e n y d.2
 | _,_=>True
def kE(b:Nat)(e:Ty)(new:List e.den):(t:Ty)->t.den->t.den
 | .gs wh e',d=>if h:e'=e then (if d.1=b/\d.2.length=new.length then (d.1,cA h.symm new) else d) else d
 | .st t,d=>kE b e new t d
 | .pr x y,d=>(kE b e new x d.1,kE b e new y d.2)
 | .sl _,d=>d
 | .int _,d=>d
 | .bool,d=>d
 | .str,d=>d
 | .ptr _,d=>d
 | .ca _ _,d=>d
def NZ(e:Ty)(pre:List e.den->Int->Prop)(F:List e.den->Int->Int)(G:List e.den->Int->List e.den):cL:=fun ss st K =>
 match ss with
 | [.c (.rg fr wh e' b tE),.c (.val (.int .i64 k))] =>
   if h:e'=e then
    match st.an 0 with
    | .row false e0 xs =>
      if wh&&e0.g1 then
       pre (cA h tE) k/\(G (cA h tE) k).length=tE.length/\(tE≠[]->b∈aX e0 xs/\(∀ x∈xs,p_ b e tE.length e0 x)/\cU (jD 0 [b] 0 st.hp))/\(tE=[]->cU (jD 0 [] 0 st.hp)) ∧
        K (.c (.val (.int .i64 (F (cA h tE) k)))) { (st.map (dF false)) with hp:=bP (st.map (dF false)).hp 0 (.row false e0 (xs.map (kE b e (G (cA h tE) k) e0))) }
      else False
    | _=>False
   else False
 | _=>False
def q8(e:Ty)(pre:List e.den->Int->Prop)(F:List e.den->Int->Int)(G:List e.den->Int->List e.den):cL:=fun ss st K =>
 match ss with
 | .c (.rg _ _ _ _ _)::_=>NZ e pre F G ss st K
 | _=>ib ⟨.sl e,pre,F,G⟩ ss st K
section
variable {P : Program} {T : cC} {Γ : FuncId → Option PC} {R : FuncId → Option cL} {base : Nat} {M : LM} {w0 : World} {V : Vl} {hp : Nat → az} {w w' : World}
theorem y9:∀ {t:Ty},t.flat=true->t.ir=true
 | .gs _ _,h=>by cases h
 | .sl _,h=>by cases h
 | .st t,h=>y9 (t:=t) h
 | .pr a b,h=>by
   have h':(a.flat&&b.flat)=true:=h
   rw[Bool.and_eq_true] at h'
   show (a.ir&&b.ir)=true
   rw[y9 h'.1,y9 h'.2];rfl
 | .int _,_=>rfl
 | .bool,_=>rfl
 | .str,_=>rfl
 | .ptr _,h=>by cases h
 | .ca _ _,h=>by cases h
def FC:az->List Nat
 | .row _ e xs=>aX e xs
 | _=>[]
theorem vY{p:Ty->Bool}:∀(t:Ty),t.ko p=true->∀ d:t.den,ids t d=(fresh t d 0).2.flatMap FC
 | .int _,_,_=>rfl
 | .bool,_,_=>rfl
 | .str,_,_=>rfl
 | .sl e,_,d=>by show aX e d=List.flatMap FC [az.row true e d];simp[FC]
 | .st t,h,d=>vY t h d
 | .pr a b,h,d=>by
   have h':(a.ko p&&b.ko p)=true:=h
   rw[Bool.and_eq_true] at h'
   show ids a d.1++ids b d.2=(dX (fresh a d.1 0).2 (fresh b d.2 (0+bL (fresh a d.1 0).2)).2).flatMap FC
   rw[cp,List.flatMap_append,zd b,<-vY a h'.1,<-vY b h'.2]
 | .gs _ _,h,_=>by cases h
 | .ptr _,h,_=>by cases h
 | .ca _ _,h,_=>by cases h
def tU(has:Prop)(b0:Nat)(l:List Nat):LM:=⟨fun b=>(has/\b=b0)\/b∈l,fun b j=>j=0/\has/\b=b0,fun _=>True,fun _ _=>trivial,fun _=>False⟩
theorem MZ(hm:P.follows .mixedOrders=true)(hT:cv P T)(hΓ:eI P Γ)(hR:cV P R){f:FuncId}{fn:Func}(hf:P.funcs[f]? = some fn){mt:MT}{A:mt.t.den->Int->Nat->Option bg}
 (h:yE T Γ R fn mt A) {v:Value} {d:mt.t.den} {k:Int} {e:Ty} {xs:List e.den} {b0:Nat} {has:Prop} (qw:(fresh mt.t d 0).2=[.row true e xs]) (hg:e.ir=true)
 (oc:∀ V' aJ,aJ 0 = .row false e xs->(V'.has 0↔has)->V'.aF 0=b0->S.ok V' aJ w (jl (iQ mt.t,(fresh mt.t d 0).1)) v)
 (Es:¬has->xs=[]) (ch:has->∃ ak el,w.heap[b0]? = some (.cells ak el (0,0))/\xs.length<=cY/\gl (fun i=>i∈aX e xs) w e ak xs) (hb:has->b0 ∉ aX e xs) (aT:∀ i∈aX e xs,i<w.heap.size)
 (F5:mt.t.wf d) (pX:i64.min<=k/\k<=i64.max) (cR:(ids mt.t d).Nodup) (eS:mt.pre d k) (gK:(Ty.sl e).wf xs) :
 Calls P f #[v,.int .i64 k] w fun e1 w'=>e1 = .returned (.int .i64 (mt.F d k))/\(i64.min<=mt.F d k/\mt.F d k<=i64.max)/\∃(fr:Bool) (ys:List e.den),(fresh mt.t (mt.G d k) 0).2=[.row fr e ys]/\ys.length=xs.length/\aX e ys=aX e xs ∧
  Kept w.heap.size (tU has b0 (aX e xs)) w w'/\(has->∃ ba dC,w'.heap[b0]? = some (.cells ba dC (0,0))/\gl (fun i=>i∈aX e xs) w' e ba ys):=by
 unfold yE at h
 split at h
 case h_2=>exact h.elim
 rename_i code tw
 obtain⟨tR,Mo⟩:=h d k F5 pX cR eS
 obtain⟨Bo,ys,Hs,hlen,WU⟩:∃(Bo:Bool) (ys:List e.den),(fresh mt.t (mt.G d k) 0).2=[.row Bo e ys]/\ys.length=xs.length/\aX e ys=aX e xs:=by
  rw[qw] at tR
  unfold YQ at tR
  split at tR
  ·rename_i nN e2 ic fr3 e3 ys3 q1 q2
   split at tR
   ·rename_i he
    subst he
    injection q1 with q1 _
    injection q1 with q3 q4 q5
    subst q4;cases q5
    obtain⟨h1,h2⟩:=dv.1 tR
    exact⟨fr3,ys3,q2,h1,h2⟩
   ·exact tR.elim
  ·exact tR.elim
 let V0:Vl:=⟨fun _=>b0,fun j=>j=0/\has,fun b=>b∈aX e xs,fun _=>False⟩
 have ec:∀ j,(fB mt.t d k fn.ntmps).an j=if j=0 then .row false e xs else .dead:=by
  intro j
  show nth .dead (lmap az.yj (fresh mt.t d 0).2) j=_
  rw[qw]
  cases j with
  | zero=>rfl
  | succ j=>rfl
 have h0:(fB mt.t d k fn.ntmps).an 0 = .row false e xs:=by rw[ec];rfl
 have eZ:∀ j,j≠0->(fB mt.t d k fn.ntmps).an j = .dead:=fun j hj=>by rw[ec,if_neg hj]
 have o0:∀ j,((fB mt.t d k fn.ntmps).an j).live=true->j=0:=by
  intro j hj
  by_cases e:j=0
  ·exact e
  ·rw[eZ j e] at hj;cases hj
 have zw:Mem w.heap.size (tU has b0 (aX e xs)) w V0 (fB mt.t d k fn.ntmps).an w:=by
  refine⟨fun j=>?_,fun j cs hj=>?_,fun j hj hh=>?_,fun j e ys hj=>?_,fun j j' hj lr _ _ _=>?_,fun b h=>⟨aT b h,trivial⟩,fun b h=>h.elim,⟨rfl,rfl,rfl,Nat.le_refl _,fun _ _ _=>rfl,fun b v2 e2 _ _ sA=>⟨v2,e2,sA,rfl⟩⟩,fun j hj hh=>?_,fun b hb=>hb.elim,fun j hh q hq=>?_⟩
  ·by_cases ej:j=0
   ·subst ej
    rw[h0]
    by_cases hh:has
    ·obtain⟨ak,el,q1,q2,q3⟩:=ch hh
     refine .inr ⟨⟨rfl,hh⟩,ak,el,q1,q2,fun i hi=>?_⟩
     obtain⟨es,k1,k2,k3⟩:=q3 i hi
     exact⟨es,k1,k2,k3.mono (fun b hb=>.inr ⟨rfl,hb⟩) (fun _ _=>rfl)⟩
    ·exact .inl ⟨fun h=>hh h.2,Es hh⟩
   ·rw[eZ j ej];trivial
  ·by_cases ej:j=0
   ·subst ej;rw[h0] at hj;cases hj
   ·rw[eZ j ej] at hj;cases hj
  ·obtain⟨ak,el,q1,_⟩:=ch hh.2
   refine⟨.inr (.inl ⟨hh.2,rfl⟩),(Array.getElem?_eq_some_iff.1 q1).1,fun hz=>?_⟩
   rcases hz with hz|⟨_,hz⟩
   ·exact hz
   ·exact hb hh.2 hz
  ·by_cases ej:j=0
   ·subst ej;rw[h0] at hj;injection hj with q;cases q
   ·rw[eZ j ej] at hj;cases hj
  ·rw[o0 j hj,o0 j' lr]
  ·by_cases ej:j=0
   ·exact⟨ej,hh.2,rfl⟩
   ·rw[eZ j ej] at hj;exact False.elim hj
  ·by_cases ej:j=0
   ·subst ej
    rw[h0] at hq
    have fH:q∈(if e.bQ then aX e xs else []):=hq
    split at fH
    ·exact fun _=>.inr fH
    ·cases fH
   ·rw[eZ j ej] at hq;cases hq
 have Ml:=oc V0 (fB mt.t d k fn.ntmps).an h0 ⟨fun h=>h.2,fun h=>⟨rfl,h⟩⟩ rfl
 have EJ:Sat w.heap.size (tU has b0 (aX e xs)) w (fB mt.t d k fn.ntmps) { tmps := #[v,.int .i64 k]++Array.replicate (fn.ntmps-2) undef,defers:=[] } w:=by
  refine⟨rfl,V0,⟨?_,fun i s' v' bb cr=>?_,zw⟩⟩
  ·show (jl _ :: .c _::kW S.fh (fn.ntmps-2)).length=_
   rw[iG];simp;omega
  ·have bb:(jl (iQ mt.t,(fresh mt.t d 0).1) :: .c (.val (.int .i64 k))::kW S.fh (fn.ntmps-2))[i]? = some s':=bb
   have cr:([v,Value.int .i64 k]++List.replicate (fn.ntmps-2) undef)[i]? = some v':=by
    rw[<-cr]
    simp only[Array.getElem?_append,List.getElem?_append,List.getElem?_toArray,List.size_toArray,Array.getElem?_replicate,List.getElem?_replicate]
   cases i with
   | zero =>
     simp only[List.getElem?_cons_zero,Option.some.injEq,List.cons_append] at bb cr
     subst bb;subst cr;exact Ml
   | succ i =>
     cases i with
     | zero =>
       simp only[List.getElem?_cons_succ,List.getElem?_cons_zero,Option.some.injEq,List.cons_append] at bb cr
       subst bb;subst cr;exact⟨rfl,pX⟩
     | succ i =>
       simp only[List.getElem?_cons_succ,List.cons_append,List.nil_append,iG,List.getElem?_replicate] at bb cr
       split at bb
       ·rename_i hi
        injection bb with bb;subst bb
        rw[if_pos hi] at cr
        injection cr with cr;exact cr.symm
       ·cases bb
 refine calls_of_wp (args := #[v,.int .i64 k]) hf tw (C_ hm hT hΓ hR code (A d k) _ _ _ _ w EJ Mo (fun e1 A' aV a' w' hk bb=>?_))
 obtain⟨hd,V1,r1⟩:=bb
 have key:uD T fn mt.t (mt.F d k) (mt.G d k) e1 aV->(∃ i,e1 = .exit i)\/∃ v',(results fn a'.tmps).run P w' = .ok v' w'/\v' = .int .i64 (mt.F d k)/\(i64.min<=mt.F d k/\mt.F d k<=i64.max)/\cU (kC aV.an 0 [.row Bo e ys]):=by
  intro hp
  unfold uD at hp
  split at hp
  ·exact hp.elim
  ·right
   split at hp
   ·rename_i rr nP
    obtain⟨et,je⟩:=hp
    subst et
    rw[Hs] at je
    obtain⟨vs,e1,e2,e3⟩:=la hT r1 nP
    match vs,e1 with
    | [x],_ =>
      have h2:=ok_int (V:=V1) (hp:=aV.an) (w:=w') (e2 0 _ x rfl rfl)
      exact⟨_,lM e3,h2.1,h2.2,je⟩
   ·exact hp.elim
 have fin:cU (kC aV.an 0 [.row Bo e ys])->(has->∃ ba dC,w'.heap[b0]? = some (.cells ba dC (0,0))/\gl (fun i=>i∈aX e xs) w' e ba ys):=by
  intro hp hh
  have m1:=r1.mem
  have hz:=se hp 0 Bo e ys rfl
  rw[Nat.zero_add] at hz
  have h1:=m1.cE 0
  rw[hz] at h1
  rcases h1 with ⟨c1,c2⟩|⟨c1,dH,jb,c2,c3,c4⟩
  ·obtain⟨ak,el,q1,_⟩:=ch hh
   obtain⟨v3,e3,h3,_⟩:=m1.kept.shape b0 ak el (Array.getElem?_eq_some_iff.1 q1).1 (.inl ⟨hh,rfl⟩) q1
   exact⟨v3,e3,h3,by rw[c2];intro i hi;exact absurd hi (Nat.not_lt_zero _)⟩
  ·by_cases FY:(e.flat||e.bQ)=true
   ·obtain⟨_,_,nv⟩:=m1.jO 0 (by rw[hz];exact FY) c1
    rw[nv] at c2
    refine⟨dH,jb,c2,fun i hi=>?_⟩
    obtain⟨es,k1,k2,k3⟩:=c4 i hi
    exact⟨es,k1,k2,aI.mv e hg k3 (fun i' cF=>⟨by rw[<-WU];exact List.mem_flatMap.2 ⟨_,List.getElem_mem hi,cF⟩,rfl⟩)⟩
   ·exact absurd (kS hg) FY
 have iM:=key hk
 cases e1 with
 | normal =>
   rcases iM with ⟨i,h⟩|⟨v',h1,h2,h3,h4⟩
   ·cases h
   ·exact⟨hd,v',h1,by rw[h2],h3,Bo,ys,Hs,hlen,WU,r1.mem.kept,fin h4⟩
 | exit i=>exact hk.elim
 | ret =>
   rcases iM with ⟨i,h⟩|⟨v',h1,h2,h3,h4⟩
   ·cases h
   ·exact⟨hd,v',h1,by rw[h2],h3,Bo,ys,Hs,hlen,WU,r1.mem.kept,fin h4⟩
where kS:∀ {t:Ty},t.ir=true->(t.flat||t.bQ)=true
 | .gs _ _,_=>rfl
 | .sl _,h=>by cases h
 | .st t,h=>kS (t:=t) h
 | .pr a b,h=>by
   have h':(a.ir&&b.ir)=true:=h
   rw[Bool.and_eq_true] at h'
   have h1:=kS h'.1
   have h2:=kS h'.2
   show (a.flat&&b.flat||(a.bQ||b.bQ))=true
   cases ha:a.bQ<;>cases hb:b.bQ<;>simp_all
 | .int _,_=>rfl
 | .bool,_=>rfl
 | .str,_=>rfl
 | .ptr _,h=>by cases h
 | .ca _ _,h=>by cases h
end
end Go.SX
/- Marks on told rows: the rules hold. No condition. -/
namespace Go.SX
open Go.RowKit
set_option linter.unusedVariables false
set_option linter.unusedSimpArgs false
section
variable {P : Program} {T : cC} {Γ : FuncId → Option PC} {R : FuncId → Option cL} {base : Nat} {M : LM} {w0 : World} {V : Vl} {hp : Nat → az} {w w' : World}
theorem BK{has:Prop}{b0:Nat}{l:List Nat}(k0:Kept base M w0 w)(k:Kept w.heap.size (tU has b0 l) w w')(h1:has->base<=b0\/M b0)(h2:∀ i∈l,base<=i\/M i):Kept base M w0 w':=by
 refine⟨k.os.trans k0.os,k.tape.trans k0.tape,k.output.trans k0.output,Nat.le_trans k0.size k.size,fun b hb hM=>?_,fun b ak el hb hM hv=>?_⟩
 ·rw[k.block b (Nat.lt_of_lt_of_le hb k0.size) (fun hx=>?_)]
  ·exact k0.block b hb hM
  ·rcases hx with ⟨hh,e⟩|hx
   ·subst e;rcases h1 hh with h|h;omega;exact hM h
   ·rcases h2 b hx with h|h;omega;exact hM h
 ·obtain⟨v1,e1,g1,g2⟩:=k0.shape b ak el hb hM hv
  by_cases hx:(tU has b0 l) b
  ·obtain⟨v2,e2,g3,g4⟩:=k.shape b v1 e1 (Nat.lt_of_lt_of_le hb k0.size) hx g1
   exact⟨v2,e2,g3,g4.trans g2⟩
  ·exact⟨v1,e1,by rw[k.block b (Nat.lt_of_lt_of_le hb k0.size) hx];exact g1,g2⟩
theorem Uu{st:St}{n:Nat}{e:az}(h:st.hp[n]? = some e):st.an n=e:=by
 show nth .dead st.hp n=e
 rw[cT,h];rfl
theorem CN{st:St}{n:Nat}{e:az}(h:st.an n=e)(hl:e.live=true):st.hp[n]? = some e:=by
 have h':nth .dead st.hp n=e:=h
 rw[cT] at h'
 cases hx:st.hp[n]? with
 | none=>rw[hx] at h';simp only[Option.getD_none] at h';subst h';cases hl
 | some y=>rw[hx] at h';exact congrArg some h'
theorem vF{st:St}{ts:Array Value}(r:Rel base M w0 V st ts w){n:Nat}{fr:Bool}{e:Ty}{xs:List e.den}(hn:st.an n = .row fr e xs)(hw:fr=true\/n=0):(∀ i∈aX e xs,V.Z fr i)/\∀ i∈aX e xs,base<=i\/M i:=by
 have h0:=r.mem.cE n
 rw[hn] at h0
 have hz:∀ i∈aX e xs,V.Z fr i/\V.has n:=by
  intro i hi
  rcases h0 with ⟨_,h2⟩|⟨h1,ak,el,_,_,h4⟩
  ·rw[h2] at hi;cases hi
  ·exact⟨ya (fun j hj=>by obtain⟨es,_,_,k⟩:=h4 j hj;exact⟨es,k⟩) i hi,h1⟩
 refine⟨fun i hi=>(hz i hi).1,fun i hi=>?_⟩
 cases fr with
 | true =>
   rcases (hz i hi).1 with h|⟨h,_⟩
   ·exact .inl (r.mem.z1 i h).1
   ·cases h
 | false =>
   refine .inr (r.mem.gE n (hz i hi).2 i ?_ (hw.resolve_left (fun h=>by cases h)))
   rw[hn]
   show i∈(if e.bQ then aX e xs else [])
   cases hg:e.bQ with
   | true=>rw[if_pos rfl];exact hi
   | false =>
     have:aX e xs=[]:=lI (.sl e) hg xs
     rw[this] at hi;cases hi
theorem U7(hm:P.follows .mixedOrders=true)(hT:cv P T)(hΓ:eI P Γ)(hR:cV P R){f:FuncId}{fn:Func}(hf:P.funcs[f]? = some fn){mt:MT}{A:mt.t.den->Int->Nat->Option bg}
 (hl:mt.t.ko Ty.ir=true) (h:yE T Γ R fn mt A):fS P f (oK mt):=by
 intro base M w0 V st ts w ss vs K r hlen gT bN
 unfold oK at bN
 split at bN
 case h_2=>exact bN.elim
 rename_i s k
 match vs,hlen with
 | [v,u],_ =>
   have hv:=gT 0 s v rfl rfl
   have hu:u = .int .i64 k/\i64.min<=k/\k<=i64.max:=ok_int (V:=V) (hp:=st.an) (w:=w) (gT 1 _ u rfl rfl)
   obtain⟨rfl,pX⟩:=hu
   have mm:=r.mem
   split at bN
   ·rename_i d n CQ
    obtain⟨F5,hL,oc⟩:=EC (p:=Ty.ir) mm.cE hl CQ hv
    obtain⟨fr,e,xs,hn,hg,Eo⟩:=hL.row 0 n rfl
    have qw:(fresh mt.t d 0).2=[.row true e xs]:=by
     have tx:=hL.len
     match hx:(fresh mt.t d 0).2 with
     | []=>rw[hx] at tx;cases tx
     | [y]=>rw[hx] at Eo;simp only[List.getElem?_cons_zero,Option.some.injEq] at Eo;rw[Eo]
     | y::z::r=>rw[hx] at tx;simp at tx
    have aeA:ids mt.t d=aX e xs:=by
     rw[vY mt.t hl d,qw]
     show aX e xs++[]=_
     rw[List.append_nil]
    rw[hn] at bN
    try simp only at bN
    split at bN
    case h_2=>exact bN.elim
    rename_i a_ e' br nN e2 D5 q1 q2
    injection q1 with q3 q4 q5
    subst q3;subst q4;cases q5
    split at bN
    case isFalse=>exact bN.elim
    rename_i he
    subst he
    split at bN
    case isFalse=>exact bN.elim
    rename_i hfn
    have hfn:fr=true\/n=0:=by
     cases fr with
     | true=>exact .inl rfl
     | false=>exact .inr (Nat.eq_of_beq_eq_true hfn)
    obtain⟨eS,cR,Qv,hK⟩:=bN
    rw[aeA] at Qv
    obtain⟨V1,r1,Je,fe,L7⟩:=Cd (n:=n) (fi n 0 st.hp) r hn (fun m hm=>(kb hm).2.1) (fun m hm=>by
     obtain⟨_,_,f1,e1,x1,h1⟩:=kb hm
     exact⟨f1,e1,x1,Uu h1⟩) (iC _ _)
    have abD:∀ V' aJ,aJ 0 = .row false e2 xs->(V'.has 0↔V1.has n)->V'.aF 0=V1.aF n->S.ok V' aJ w (jl (iQ mt.t,(fresh mt.t d 0).1)) v:=by
     intro V' aJ g1 g2 g3
     rw[L7] at g2
     rw[fe] at g3
     refine oc V' aJ ⟨fun j e9 xs9 hj=>?_,fun j m hj=>?_,fun j hj=>?_⟩
     ·rw[qw] at hj
      cases j with
      | zero =>
        simp only[List.getElem?_cons_zero,Option.some.injEq,az.row.injEq] at hj
        obtain⟨_,q6,q7⟩:=hj
        subst q6;cases q7
        rw[Nat.zero_add];exact g1
      | succ j=>simp at hj
     ·cases j with
      | zero=>simp only[List.getElem?_cons_zero,Option.some.injEq] at hj;subst hj;rw[Nat.zero_add];exact⟨g2,g3⟩
      | succ j=>simp at hj
     ·cases j with
      | zero=>simp at hj
      | succ j=>simp at hj
    clear oc hn mm
    generalize st.vP (fi n 0 st.hp)=st at *
    clear hL gT hv CQ
    have hn:=Je
    have r:=r1
    have mm:=r1.mem
    obtain⟨ha1,ha2⟩:=dv.1 Qv
    obtain⟨ha3,ha4⟩:=dv.1 ha2
    have h0:=mm.cE n
    rw[hn] at h0
    obtain⟨hz,UA⟩:=vF r hn hfn
    have de:(st.an n).live=true:=by rw[hn];rfl
    refine (MZ hm hT hΓ hR hf h (v:=v) (d:=d) (k:=k) (e:=e2) (xs:=xs) (b0:=V1.aF n) (has:=V1.has n) qw hg abD ?_ ?_ ?_ ?_ F5 pX cR eS ?_).mono ?_
    ·intro hh
     rcases h0 with ⟨_,h2⟩|⟨h1,_⟩
     ·exact h2
     ·exact absurd h1 hh
    ·intro hh
     rcases h0 with ⟨h1,_⟩|⟨_,ak,el,h2,h3,h4⟩
     ·exact absurd hh h1
     ·refine⟨ak,el,h2,h3,fun i hi=>?_⟩
      obtain⟨es,k1,k2,k3⟩:=h4 i hi
      exact⟨es,k1,k2,aI.mv e2 hg k3 (fun i' cF=>⟨List.mem_flatMap.2 ⟨_,List.getElem_mem hi,cF⟩,rfl⟩)⟩
    ·intro hh hx
     exact (mm.own n de hh).2.2 (Vl.db (hz _ hx))
    ·intro i hi
     exact mm.qu (Vl.db (hz i hi))
    ·rcases h0 with ⟨_,h2⟩|⟨_,ak,el,_,h3,h4⟩
     ·rw[h2];exact⟨Nat.zero_le _,fun x hx=>by cases hx⟩
     ·refine⟨h3,fun x hx=>?_⟩
      obtain⟨i,hi,rfl⟩:=List.getElem_of_mem hx
      obtain⟨es,_,_,k3⟩:=h4 i hi
      exact k3.wf
    ·rintro e1 w1 ⟨rfl,mD,fr9,ys,p1,p2,p3,p4,p5⟩
     rw[q2] at p1
     injection p1 with p1 _
     injection p1 with p6 p7 p8
     cases p8
     refine⟨_,rfl,V1,_,_,hK,?_,⟨rfl,mD⟩⟩
     refine t_ r hn p2 (l:=aX e2 xs) (fun i hi=>Vl.db (hz i hi)) p4.size (fun b hb hx=>p4.block b hb hx) (BK mm.kept p4 (fun hh=>(mm.own n de hh).1) UA) (fun hh=>?_) (fun m f3 e3 G7 DH Mg=>?_) true (fun _=>ha3) (fun _=>ha4) (fun i hi=>?_)
     ·obtain⟨ba,dC,g1,g2⟩:=p5 hh
      rcases h0 with ⟨h1,_⟩|⟨_,ak,el,h2,h3,h4⟩
      ·exact absurd hh h1
      ·obtain⟨v3,e3,g3,g4⟩:=p4.shape (V1.aF n) ak el (Array.getElem?_eq_some_iff.1 h2).1 (.inl ⟨hh,rfl⟩) h2
       rw[g1] at g3
       injection g3 with g3
       injection g3 with g3 _ _
       subst g3
       refine⟨ak,el,ba,dC,h2,g1,g4,fun i hi=>?_⟩
       obtain⟨es,k1,k2,k3⟩:=g2 i hi
       exact⟨es,k1,k2,k3.mono (fun b hb=>hz b hb) (fun _ _=>rfl)⟩
     ·exact lz ha1 m f3 e3 G7 (CN Mg rfl) (by omega)
     ·cases fr with
      | true=>cases hi
      | false =>
        have cF:i∈(if e2.bQ then aX e2 D5 else []):=hi
        show i∈(if e2.bQ then aX e2 xs else [])
        split at cF
        ·rename_i hh;rw[if_pos hh,<-p3];exact cF
        ·cases cF
   ·rename_i d CQ
    obtain⟨F5,hL,oc⟩:=EC (p:=Ty.ir) mm.cE hl CQ hv
    obtain⟨e,hg,Eo⟩:=hL.nil 0 rfl
    have qw:(fresh mt.t d 0).2=[.row true e []]:=by
     have tx:=hL.len
     match hx:(fresh mt.t d 0).2 with
     | []=>rw[hx] at tx;cases tx
     | [y]=>rw[hx] at Eo;simp only[List.getElem?_cons_zero,Option.some.injEq] at Eo;rw[Eo]
     | y::z::r=>rw[hx] at tx;simp at tx
    obtain⟨eS,cR,hK⟩:=bN
    refine (MZ hm hT hΓ hR hf h (v:=v) (d:=d) (k:=k) (e:=e) (xs:=[]) (b0:=0) (has:=False) qw hg ?_ (fun _=>rfl) (fun h=>h.elim) (fun h=>h.elim) (fun i hi=>by cases hi) F5 pX cR eS ⟨Nat.zero_le _,fun x hx=>by cases hx⟩).mono ?_
    ·intro V' aJ g1 g2 g3
     refine oc V' aJ ⟨fun j e9 xs9 hj=>?_,fun j m hj=>?_,fun j hj=>?_⟩
     ·rw[qw] at hj
      cases j with
      | zero =>
        simp only[List.getElem?_cons_zero,Option.some.injEq,az.row.injEq] at hj
        obtain⟨_,q6,q7⟩:=hj
        subst q6;cases q7
        rw[Nat.zero_add];exact g1
      | succ j=>simp at hj
     ·cases j with
      | zero=>simp at hj
      | succ j=>simp at hj
     ·cases j with
      | zero=>rw[Nat.zero_add];exact fun hh=>g2.1 hh
      | succ j=>simp at hj
    ·rintro e1 w1 ⟨rfl,mD,fr9,ys,p1,p2,p3,p4,p5⟩
     refine⟨_,rfl,V,_,_,hK,EH r ⟨p4.os,p4.tape,p4.output,p4.size,fun b hb _=>p4.block b hb (fun hx=>?_),fun _ _ _ _ h _=>h.elim⟩,⟨rfl,mD⟩⟩
     rcases hx with ⟨hx,_⟩|hx
     ·exact hx
     ·cases hx
   ·exact bN.elim
theorem z8{b:Nat}{e:Ty}:∀(t:Ty) (d:t.den),kE b e [] t d=d
 | .gs wh e',d=>by
   show (if h:e'=e then (if d.1=b/\d.2.length=([]:List e.den).length then (d.1,cA h.symm []) else d) else d)=d
   split
   ·rename_i h
    subst h
    split
    ·rename_i hx
     have:d.2=[]:=List.length_eq_zero_iff.1 hx.2
     show (d.1,[])=d
     rw[<-this]
    ·rfl
   ·rfl
 | .st t,d=>z8 t d
 | .pr x y,d=>by show (kE b e [] x d.1,kE b e [] y d.2)=d;rw[z8 x,z8 y]
 | .sl _,_=>rfl
 | .int _,_=>rfl
 | .bool,_=>rfl
 | .str,_=>rfl
 | .ptr _,_=>rfl
 | .ca _ _,_=>rfl
theorem z7{b:Nat}{e:Ty}{new:List e.den}(he:e.flat=true):∀(t:Ty) (d:t.den),∀ i∈ids t (kE b e new t d),i∈ids t d
 | .gs wh e',d,i,hi=>by
   have hi:i∈ids (.gs wh e') (if h:e'=e then (if d.1=b/\d.2.length=new.length then (d.1,cA h.symm new) else d) else d):=hi
   split at hi
   ·rename_i h
    subst h
    split at hi
    ·rename_i hx
     obtain⟨b',zs⟩:=d
     have cF:i∈ids (.gs wh e') (b',new):=hi
     rw[Mx] at cF ⊢
     have eD:∀ l:List e'.den,aX e' l=[]:=fun l=>lI (.sl e') (oF (t:=e') he) l
     rw[eD] at cF ⊢
     have nR:zs.length=new.length:=hx.2
     cases new with
     | nil=>cases cF
     | cons y r =>
       cases zs with
       | nil=>cases nR
       | cons z r'=>exact cF
    ·exact hi
   ·exact hi
 | .st t,d,i,hi=>z7 he t d i hi
 | .pr x y,d,i,hi=>by
   rcases List.mem_append.1 (show i∈ids x (kE b e new x d.1)++ids y (kE b e new y d.2) from hi) with hi|hi
   ·exact List.mem_append_left _ (z7 he x d.1 i hi)
   ·exact List.mem_append_right _ (z7 he y d.2 i hi)
 | .sl _,_,i,hi=>hi
 | .int _,_,i,hi=>hi
 | .bool,_,i,hi=>hi
 | .str,_,i,hi=>hi
 | .ptr _,_,i,hi=>hi
 | .ca _ _,_,i,hi=>hi
theorem GR {Z : Nat → Prop} {b : Nat} {e : Ty} {new : List e.den} (he : e.flat = true) (bo : new ≠ []) {ba : Array Value} {dC : TypeId} {n : Nat} (hn : new.length = n) (hb : w'.heap[b]? = some (.cells ba dC (0, 0))) (ch : gl gO w' e ba new)
    {ak : Array Value} {el : TypeId} (vd : w.heap[b]? = some (.cells ak el (0, 0))) (cD : ba.size = ak.size) (kl : ∀ i, Z i → i ≠ b → w'.heap[i]? = w.heap[i]?) : ∀ (t : Ty), t.g1 = true → ∀ {cs : List Value} {d : t.den}, aI Z w t cs d → p_ b e n t d → aI Z w' t cs (kE b e new t d)
  | .gs wh e', hg, cs, (b', zs), h, g_ => by
    have g_ : if e' = e ∧ wh = true then (b' = b → zs ≠ [] → zs.length = n) else (b' = b → zs = []) := g_
    have hg : e'.flat = true := hg
    show aI Z w' (.gs wh e') cs (if h : e' = e then (if b' = b ∧ zs.length = new.length then (b', cA h.symm new) else (b', zs)) else (b', zs))
    -- untouched
    have same : (zs = [] ∨ b' ≠ b) → aI Z w' (.gs wh e') cs (b', zs) := by
      intro hx
      refine aI.mv (.gs wh e') (y9 (t := e') hg) h (fun i hi => ?_)
      have hz := aI.jz _ h i hi
      refine ⟨hz, kl i hz ?_⟩
      rw [Mx, show aX e' zs = [] from lI (.sl e') (oF (t := e') hg) zs] at hi
      rcases hx with hx | hx
      · subst hx; cases hi
      · cases zs with
        | nil => cases hi
        | cons z r => have : i = b' := by simpa using hi
                      rw [this]; exact hx
    split
    · rename_i heq
      subst heq
      split
      · rename_i hx
        obtain ⟨nz, nR⟩ := hx
        have nz : b' = b := nz
        have nR : zs.length = new.length := nR
        subst nz
        show aI Z w' (.gs wh e') cs (b', new)
        have abR : zs ≠ [] := fun h0 => by rw [h0] at nR; exact bo (List.length_eq_zero_iff.1 nR.symm)
        have x_ : 0 < zs.length := Nat.pos_of_ne_zero (fun h0 => abR (List.length_eq_zero_iff.1 h0))
        have F6 : wh = true := by
          cases hw : wh with
          | true => rfl
          | false =>
            rw [hw] at g_
            simp at g_
            exact absurd g_ abR
        have h' := h
        obtain ⟨⟨a, cap, h1, h2, h3, h4⟩, h5, h6⟩ := h
        have h1 : cs = [Value.slice a zs.length cap] := h1
        have h2 : zs.length ≤ cap := h2
        have h3 : zs.length ≤ cY := h3
        obtain ⟨n1, Rv, v1, pA, k1, k2, k3⟩ := h6 F6 x_
        have k2 : w.heap[b']? = some (.cells v1 pA (0, 0)) := k2
        rw [vd] at k2
        injection k2 with k2
        injection k2 with k2 _ _
        subst k2
        have fA : cs = [.slice (some ⟨b', 0, none⟩) new.length cap] ∧ Rv = cap := by
          rw [k1] at h1 ⊢
          injection h1 with h1 _
          injection h1 with q1 q2 q3
          exact ⟨by rw [q2, q3, nR], q3⟩
        obtain ⟨fA, WN⟩ := fA
        have hZ : Z b' := (Ei h' x_).1
        refine ⟨⟨some ⟨b', 0, none⟩, cap, fA, by show new.length ≤ cap; omega, by show new.length ≤ cY; omega, fun i hi => ?_⟩, fun _ => ⟨0, _, cap, fA⟩, fun _ _ => ⟨_, cap, ba, dC, fA, hb, by rw [cD, k3, WN]⟩⟩
        have cF : i < new.length := hi
        obtain ⟨es, g1, g2, g3⟩ := ch i cF
        refine ⟨⟨b', 0, none⟩, rfl, rfl, hZ, es, g1, fun j hj => ?_, g3.flat hg⟩
        simp only [World.cell?, hb, Nat.zero_add]
        exact g2 j _ (List.getElem?_eq_getElem hj)
      · rename_i hx
        refine same ?_
        by_cases LX : b' = b
        · left
          cases hw : wh with
          | true =>
            rw [hw] at g_
            simp only [and_self, if_true] at g_
            exact Classical.byContradiction fun hz => hx ⟨LX, by show zs.length = new.length; rw [g_ LX hz, hn]⟩
          | false =>
            rw [hw] at g_
            simp at g_
            exact g_ LX
        · exact .inr LX
    · rename_i heq
      refine same ?_
      rw [if_neg (fun hx => heq hx.1)] at g_
      by_cases LX : b' = b
      · exact .inl (g_ LX)
      · exact .inr LX
  | .st t, hg, _, _, h, g_ => GR he bo hn hb ch vd cD kl t hg h g_
  | .pr x y, hg, _, d, h, g_ => by
    have kH : (x.g1 && y.g1) = true := hg
    rw [Bool.and_eq_true] at kH
    obtain ⟨c1, c2, h1, h2, h3⟩ := h
    exact ⟨c1, c2, h1, GR he bo hn hb ch vd cD kl x kH.1 h2 g_.1, GR he bo hn hb ch vd cD kl y kH.2 h3 g_.2⟩
  | .sl _, hg, _, _, _, _ => by cases hg
  | .ptr _, hg, _, _, _, _ => by cases hg
  | .ca _ _, hg, _, _, _, _ => by cases hg
  | .int _, _, _, _, h, _ => h
  | .bool, _, _, _, h, _ => h
  | .str, _, _, _, h, _ => h
end
end Go.SX
/- A slice that a told row holds is written: the rule holds. No condition. -/
namespace Go.SX
open Go.RowKit
set_option linter.unusedVariables false
set_option linter.unusedSimpArgs false
def FB(e:Ty)(pre:List e.den->Int->Prop)(F:List e.den->Int->Int):PC :=
 { ts:=[.sl e,.int .i64],rs:=[.int .i64],pre:=fun x=>(show List e.den from x.1)=[]/\pre x.1 x.2,F:=fun x=>F x.1 x.2 }
section
variable {P : Program} {T : cC} {Γ : FuncId → Option PC} {R : FuncId → Option cL} {base : Nat} {M : LM} {w0 : World} {V : Vl} {hp : Nat → az} {w w' : World}
def Sh(b:Nat):LM:=⟨fun c=>c=b,fun c _=>c=b,fun _=>True,fun _ _=>trivial,fun _=>False⟩
theorem Zv{f:FuncId}{e:Ty}{pre:List e.den->Int->Prop}{F:List e.den->Int->Int}{G:List e.den->Int->List e.den}(h:fS P f (ib ⟨.sl e,pre,F,G⟩))(he:e.flat=true)
 {b n cap:Nat} {ak:Array Value} {el:TypeId} {ys:List e.den} {k:Int} (hb:w.heap[b]? = some (.cells ak el (0,0))) (cD:ak.size=cap*e.size) (hle:ys.length<=cap) (WW:ys.length<=cY) (ch:gl gO w e ak ys)
 (pX:i64.min<=k/\k<=i64.max) (eS:pre ys k) (bo:ys≠[]) (hlen:(G ys k).length=ys.length) :
 Calls P f #[.slice (some ⟨b,0,none⟩) ys.length cap,.int .i64 k] w fun e1 w'=>e1 = .returned (.int .i64 (F ys k))/\(i64.min<=F ys k/\F ys k<=i64.max)/\Kept w.heap.size (Sh b) w w' ∧
  ∃ ba dC,w'.heap[b]? = some (.cells ba dC (0,0))/\ba.size=ak.size/\gl gO w' e ba (G ys k):=by
 have aa1:b<w.heap.size:=(Array.getElem?_eq_some_iff.1 hb).1
 let V1:Vl:=⟨fun _=>b,fun j=>j=0,fun _=>False,fun _=>False⟩
 let dy:St:=⟨[],[.row false e ys]⟩
 have h0:dy.an 0 = .row false e ys:=rfl
 have eZ:∀ j,j≠0->dy.an j = .dead:=by
  intro j hj
  cases j with
  | zero=>exact absurd rfl hj
  | succ j=>rfl
 have o0:∀ j,(dy.an j).live=true->j=0:=by
  intro j hj
  by_cases e:j=0
  ·exact e
  ·rw[eZ j e] at hj;cases hj
 have zw:Mem w.heap.size (Sh b) w V1 dy.an w:=by
  refine⟨fun j=>?_,fun j cs hj=>o0 j (by rw[hj];rfl),fun j hj hh=>?_,fun j e ys hj=>?_,fun j j' hj lr _ _ _=>?_,fun b h=>h.elim,fun b h=>h.elim,⟨rfl,rfl,rfl,Nat.le_refl _,fun _ _ _=>rfl,fun b v2 e2 _ _ sA=>⟨v2,e2,sA,rfl⟩⟩,fun j hj hh=>rfl,fun b hb=>hb.elim,fun j hh q hq=>?_⟩
  ·by_cases ej:j=0
   ·subst ej
    rw[h0]
    refine .inr ⟨rfl,ak,el,hb,WW,fun i hi=>?_⟩
    obtain⟨es,k1,k2,k3⟩:=ch i hi
    exact⟨es,k1,k2,k3.flat he⟩
   ·rw[eZ j ej];trivial
  ·refine⟨.inr rfl,aa1,fun hz=>?_⟩
   rcases hz with hz|⟨_,hz⟩<;>exact hz
  ·by_cases ej:j=0
   ·subst ej;rw[h0] at hj;cases hj
   ·rw[eZ j ej] at hj;cases hj
  ·rw[o0 j hj,o0 j' lr]
  ·by_cases ej:j=0
   ·subst ej;rw[h0,wk he] at hq;cases hq
   ·rw[eZ j ej] at hq;cases hq
 have aeY:Rel w.heap.size (Sh b) w V1 dy #[] w:=⟨rfl,(fun i s v hs=>by cases hs),zw⟩
 have oH:C.ok V1 dy.an w (.own 0) (.slice (some ⟨b,0,none⟩) ys.length cap):=⟨false,e,ys,h0,.inr ⟨rfl,cap,ak,el,rfl,hb,cD,hle⟩⟩
 have tQ:=h w.heap.size (Sh b) w V1 dy #[] w [.c (.own 0),.c (.val (.int .i64 k))] [.slice (some ⟨b,0,none⟩) ys.length cap,.int .i64 k] (fun s aV=>s = .c (.val (.int .i64 (F ys k)))/\aV=dy.ld [some 0] [.row true e (G ys k)]) aeY rfl (fun i s v hs hv=>by
  cases i with
  | zero=>simp only[List.getElem?_cons_zero,Option.some.injEq] at hs hv;subst hs;subst hv;exact oH
  | succ i =>
    cases i with
    | zero=>simp only[List.getElem?_cons_succ,List.getElem?_cons_zero,Option.some.injEq] at hs hv;subst hs;subst hv;exact⟨rfl,pX⟩
    | succ i=>simp at hs) (by
  unfold ib
  have hl:CV dy.an (Ty.sl e) (.c (.own 0))=some (ys,[some 0]):=by
   unfold CV og iW MJ
   simp only[iQ,h0]
   simp[cA]
  simp only[hl]
  rw[if_pos (show vt (hH [some 0])=true from rfl)]
  exact⟨eS,trivial,rfl⟩)
 refine tQ.mono ?_
 rintro e1 w1 ⟨v,rfl,V',s,aV,⟨rfl,rfl⟩,r',hs⟩
 obtain⟨rfl,mD⟩:=(hs:v = .int .i64 (F ys k)/\_)
 have iw:(dy.ld [some 0] [.row true e (G ys k)]).an 0 = .row false e (G ys k):=by
  show ((dy.xA 0 (.row true e (G ys k))).ld [] []).an 0=_
  have hx:dy.xA 0 (.row true e (G ys k))={ (dy.map (cN 0)) with hp:=bP (dy.map (cN 0)).hp 0 (.row false e (G ys k)) }:=by unfold St.xA;rw[h0]
  rw[hx]
  rfl
 have m1:=r'.mem
 refine⟨rfl,mD,m1.kept,?_⟩
 have h1:=m1.cE 0
 rw[iw] at h1
 obtain⟨v3,e3,g3,g4⟩:=m1.kept.shape b ak el aa1 rfl hb
 rcases h1 with ⟨_,c2⟩|⟨c1,dH,jb,c2,c3,c4⟩
 ·exfalso
  rw[c2] at hlen
  exact bo (List.length_eq_zero_iff.1 hlen.symm)
 ·have nv:V'.aF 0=b:=m1.jO 0 (by rw[iw];show (e.flat||e.bQ)=true;rw[he];rfl) c1
  rw[nv,g3] at c2
  injection c2 with c2
  injection c2 with c2 _ _
  subst c2
  refine⟨v3,e3,g3,g4,fun i hi=>?_⟩
  obtain⟨es,k1,k2,k3⟩:=c4 i hi
  exact⟨es,k1,k2,k3.flat he⟩
theorem Pn{Z:Nat->Prop}{wh:Bool}{e:Ty}{v:Value}{b:Nat}{ys:List e.den}(h:aI Z w (.gs wh e) [v] (b,ys))(hw:wh=true)(hp:0<ys.length) :
 ∃ cap ak el,v = .slice (some ⟨b,0,none⟩) ys.length cap/\w.heap[b]? = some (.cells ak el (0,0))/\ak.size=cap*e.size/\ys.length<=cap/\ys.length<=cY/\gl Z w e ak ys:=by
 obtain⟨⟨a,cap,h1,h2,h3,h4⟩,h5,h6⟩:=h
 obtain⟨n1,Rv,v1,pA,k1,k2,k3⟩:=h6 hw hp
 have k2:w.heap[b]? = some (.cells v1 pA (0,0)):=k2
 have h1:[v]=[Value.slice a ys.length cap]:=h1
 have k1:[v]=[Value.slice (some ⟨b,0,none⟩) n1 Rv]:=k1
 have hvv:=k1
 rw[k1] at h1
 injection h1 with h1 _
 injection h1 with q1 q2 q3
 injection hvv with hvv _
 subst q2;subst q3
 refine⟨Rv,v1,pA,hvv,k2,k3,h2,h3,fun i hi=>?_⟩
 obtain⟨ad,e1,e2,e3,es,e4,e5,e6⟩:=h4 i hi
 rw[e1] at q1
 injection q1 with q1
 subst q1
 refine⟨es,e4,fun j u hu=>?_,e6⟩
 have hj:=(List.getElem?_eq_some_iff.1 hu).1
 have:=e5 j hj
 simp only[World.cell?,k2,Nat.zero_add] at this
 rw[List.getElem?_eq_getElem hj] at hu
 injection hu with hu
 rw[<-hu];exact this
theorem Zw {f : FuncId} {e : Ty} {pre : List e.den → Int → Prop} {F : List e.den → Int → Int} {G : List e.den → Int → List e.den} (h : fS P f (ib ⟨.sl e, pre, F, G⟩)) (hE : n8 P f (FB e pre F)) (he : e.flat = true) : fS P f (NZ e pre F G) := by
  intro base M w0 V st ts w ss vs K r hlen gT bN
  unfold NZ at bN
  split at bN
  case h_2 => exact bN.elim
  rename_i fr wh e' b tE k
  split at bN
  case isFalse => exact bN.elim
  rename_i mA
  subst mA
  split at bN
  case h_2 => exact bN.elim
  rename_i e0 xs hn
  split at bN
  case isFalse => exact bN.elim
  rename_i hwg
  rw [Bool.and_eq_true] at hwg
  obtain ⟨F6, hg1⟩ := hwg
  simp only [cA] at bN
  obtain ⟨eS, Yf, acR, aa3, hK⟩ := bN
  match vs, hlen with
  | [v, u], _ =>
    have hv : aI (V.Z fr) w (.gs wh e') [v] (b, tE) := gT 0 _ v rfl rfl
    have hu : u = .int .i64 k ∧ i64.min ≤ k ∧ k ≤ i64.max := ok_int (V := V) (hp := st.an) (w := w) (gT 1 _ u rfl rfl)
    obtain ⟨rfl, pX⟩ := hu
    have mm := r.mem
    have de : (st.an 0).live = true := by rw [hn]; rfl
    have h0 := mm.cE 0
    rw [hn] at h0
    by_cases bo : tE = []
    · -- nothing is written
      subst bo
      have hargs : mu gO w [.sl e', .int .i64] [v, .int .i64 k] (([] : List e'.den), k) :=
        ⟨v, [.int .i64 k], rfl, ⟨[v], rfl, (ze hv).any⟩, .int .i64 k, rfl, [.int .i64 k], rfl, rfl, pX⟩
      refine (hE w [v, .int .i64 k] (([] : List e'.den), k) hargs ⟨rfl, eS⟩).mono ?_
      rintro e1 w1 ⟨v1, rfl, ⟨Z1, bs, Rf, rfl, k1, k2, k3, k4⟩, hk⟩
      obtain ⟨v2, rfl, cs, q1, q2, q3⟩ := k1
      have q1 : cs = [v2] := q1
      subst q1
      have sA : v2 = .int .i64 (F [] k) := by
        have : [v2] = [Value.int .i64 (F [] k)] := q2.1
        injection this
      have mD : i64.min ≤ F [] k ∧ F [] k ≤ i64.max := q2.2
      have hGn : G [] k = [] := List.length_eq_zero_iff.1 Yf
      have aeP : xs.map (kE b e' (G [] k) e0) = xs := by
        rw [hGn]
        rw [show kE b e' [] e0 = id from funext (fun d => z8 e0 d), List.map_id]
      rw [aeP] at hK
      refine ⟨_, rfl, V, _, _, hK, ?_, by subst sA; exact ⟨rfl, mD⟩⟩
      have Yn : Kept base M w0 w1 := mm.kept.trans hk
      refine t_ r hn rfl (l := []) (fun i hi => by cases hi) hk.size (fun b hb _ => hk.block b hb (fun h => h)) Yn (fun hh => ?_) (fun m f3 e3 G7 DH Mg => lz (aa3 rfl) m f3 e3 G7 (CN Mg rfl) (by omega)) false (fun h => by cases h) (fun h => by cases h) (fun i hi => hi)
      rcases h0 with ⟨h1, _⟩ | ⟨_, ak, el, h2, h3, h4⟩
      · exact absurd hh h1
      · refine ⟨ak, el, ak, el, h2, by rw [hk.block _ (mm.own 0 de hh).2.1 (fun h => h)]; exact h2, rfl, fun i hi => ?_⟩
        obtain ⟨es, g1, g2, g3⟩ := h4 i hi
        exact ⟨es, g1, g2, g3.mono (fun _ h => h) (fun b hb => hk.block b (mm.qu (Vl.db hb)) (fun h => h))⟩
    · obtain ⟨aa0, g_, Qv⟩ := acR bo
      have hX : 0 < tE.length := Nat.pos_of_ne_zero (fun h => bo (List.length_eq_zero_iff.1 h))
      obtain ⟨cap, ak, el, rfl, g2, g3, g4, g5, g6⟩ := Pn hv F6 hX
      obtain ⟨hz, UA⟩ := vF r hn (.inr rfl)
      have Jm := hz b aa0
      refine (Zv h he (n := 0) g2 g3 g4 g5 (fun i hi => by obtain ⟨es, k1, k2, k3⟩ := g6 i hi; exact ⟨es, k1, k2, k3.any⟩) pX eS bo Yf).mono ?_
      rintro e1 w1 ⟨rfl, mD, hk, ba, dC, j1, j2, j3⟩
      refine ⟨_, rfl, V, _, _, hK, ?_, ⟨rfl, mD⟩⟩
      have iM : Kept w.heap.size (tU False 0 [b]) w w1 := ⟨hk.os, hk.tape, hk.output, hk.size, fun c hc hx => hk.block c hc (fun e => hx (.inr (by rw [show c = b from e]; exact List.mem_singleton.2 rfl))), fun c v3 e3 hc hx hv3 => by
        rcases hx with ⟨hx, _⟩ | hx
        · exact hx.elim
        · exact hk.shape c v3 e3 hc (List.mem_singleton.1 hx) hv3⟩
      refine t_ r hn (by simp) (l := [b]) (fun i hi => by rw [List.mem_singleton.1 hi]; exact Vl.db Jm) hk.size (fun c hc hx => hk.block c hc (fun e => hx (.inr (by rw [show c = b from e]; exact List.mem_singleton.2 rfl))))
        (BK mm.kept iM (fun h => h.elim) (fun i hi => by rw [List.mem_singleton.1 hi]; exact UA b aa0)) (fun hh => ?_) (fun m f3 e3 G7 DH Mg => lz Qv m f3 e3 G7 (CN Mg rfl) (by omega)) false (fun h => by cases h) (fun h => by cases h) (fun i hi => ?_)
      · rcases h0 with ⟨h1, _⟩ | ⟨_, v2, jb, h2, h3, h4⟩
        · exact absurd hh h1
        · have aes : V.aF 0 ≠ b := fun e => (mm.own 0 de hh).2.2 (by rw [e]; exact Vl.db Jm)
          refine ⟨v2, jb, v2, jb, h2, by rw [hk.block _ (mm.own 0 de hh).2.1 aes]; exact h2, rfl, fun i hi => ?_⟩
          have cF : i < xs.length := by simpa using hi
          obtain ⟨es, q1, q2, q3⟩ := h4 i cF
          refine ⟨es, q1, q2, ?_⟩
          rw [List.getElem_map]
          refine GR he (fun h0 => bo (List.length_eq_zero_iff.1 (by rw [← Yf, h0]; rfl))) Yf j1 j3 g2 j2 (fun i YB Un => hk.block i (mm.qu (Vl.db YB)) Un) e0 hg1 q3 (g_ _ (List.getElem_mem cF))
      · have cF : i ∈ (if e0.bQ then aX e0 (xs.map (kE b e' (G tE k) e0)) else []) := hi
        show i ∈ (if e0.bQ then aX e0 xs else [])
        split at cF
        · rename_i hh
          rw [if_pos hh]
          obtain ⟨x, hx, Qz⟩ := List.mem_flatMap.1 cF
          obtain ⟨y, hy, rfl⟩ := List.mem_map.1 hx
          exact List.mem_flatMap.2 ⟨y, hy, z7 he e0 y i Qz⟩
        · cases cF
theorem IQ{f:FuncId}{e:Ty}{pre:List e.den->Int->Prop}{F:List e.den->Int->Int}{G:List e.den->Int->List e.den}(h:fS P f (ib ⟨.sl e,pre,F,G⟩))(hE:n8 P f (FB e pre F))(he:e.flat=true):fS P f (q8 e pre F G):=by
 intro base M w0 V st ts w ss vs K r hlen gT bN
 unfold q8 at bN
 split at bN
 ·exact Zw h hE he base M w0 V st ts w _ vs K r hlen gT bN
 ·exact h base M w0 V st ts w ss vs K r hlen gT bN
end
end Go.SX
/- slices.Insert of one element into a row that the caller owns: the rule, and what a walk of its body must show. No condition. -/
namespace Go.SX
open Go.RowKit Go.Lib
set_option linter.unusedVariables false
set_option linter.unusedSimpArgs false
variable {P : Program}
theorem oq(w:World)(dT sT ty elem:TypeId)(i0:TypeInfo)(b o aaz aep:Nat)(a:Addr)(XE acu k:Nat)(cs:List Value)
 (hu:P.underlying dT=some (.slice elem)) (hi:P.info? elem=some i0) (hk:Nat.min XE aaz=k) (hn:cs.length=k*i0.size)
 (BE:∀ j v,cs[j]? = some v->w.cell? (a.add j)=some v) (hc:∀ j,j<cs.length->(w.cell? ⟨b,o+j,none⟩).isSome=true) (hf:∀ j,j<cs.length->w.frozen? ⟨b,o+j,none⟩=false) (h1:∀ v∈cs,v.oneCell'=true) :
 (Builtin.copy_ #[dT,sT] ty #[.slice (some ⟨b,o,none⟩) aaz aep,.slice (some a) XE acu]).run P w = .ok (goInt k) (w.setCells b o cs):=by
 have hl:=run_firstCells_some (P:=P) w i0.size k a XE acu cs hn BE
 have iw:=run_storeCells_cells (P:=P) b o cs 0 w (by simpa using hc) (by simpa using hf) h1
 simp only[Nat.add_zero] at iw
 simp[Builtin.copy_,run_underlying hu,Builtin.lenOf,sizeOf,typeInfo,hi,hk,hl,iw]
theorem G6(w:World){o:Oper}{a:Act}{K:Act->World->Prop}{Q:Exit->Act->World->Prop}(d s:Operand)(t t':TypeId)
 (ho:o.op = .call { callee:=.builtin .copy,args := #[d,s],argTypes := #[t,t'] }) (v u:Value) (hd:a.eval d=v) (hs:a.eval s=u) {v':Value} {w':World}
 (hr:(Builtin.copy_ #[t,t'] o.type #[v,u]).run P w = .ok v' w') (h:K (a.put o.dst v') w'):o.wp P a w K Q:=by
 unfold Oper.wp execOp
 simp only[ho,resolve,invoke,builtin,Sem.run_bind,Sem.run_pure,Result.andThen_ok,List.map_toArray,List.map_cons,List.map_nil,hd,hs,hr]
 exact h
theorem rN(w:World){ops:Array Oper}{rest:List Oper}{o:Oper}{a:Act}{Q:Exit->Act->World->Prop}(hgd:o.guard=none)(d s:Operand)(t t':TypeId)
 (ho:o.op = .call { callee:=.builtin .copy,args := #[d,s],argTypes := #[t,t'] }) (v u:Value) (hd:a.eval d=v) (hs:a.eval s=u) {v':Value} {w':World}
 (hr:(Builtin.copy_ #[t,t'] o.type #[v,u]).run P w = .ok v' w') (h:wpList P ops Q rest (a.put o.dst v') w'):wpList P ops Q (o::rest) a w :=
 wpList_plain hgd fun _ hK=>G6 w d s t t' ho v u hd hs hr (hK _ _ h)
theorem Cq{ops:Array Oper}{o:Oper}{a:Act}{w:World}{K:Act->World->Prop}{Q:Exit->Act->World->Prop}{E:Prop}
 (hg:o.guard=none) (d x:Operand) (dT sT:TypeId) (pY:o.op=Op.call { callee:=Callee.builtin Builtin.copy,args := #[d,x],argTypes := #[dT,sT] })
 (v u:Value) (hd:a.eval d=v) (hx:a.eval x=u) {v':Value} {w':World} (hr:(Builtin.copy_ #[dT,sT] o.type #[v,u]).run P w = .ok v' w') (hK:K (a.put o.dst v') w') :
 if Region.wanted o (yielded ops a.tmps)=true then Oper.wp P o a w K Q else E:=by
 have hw:Region.wanted o (yielded ops a.tmps)=true:=by simp[Region.wanted,hg]
 rw[if_pos hw]
 exact G6 w d x dT sT pY v u hd hx hr hK
theorem vm(b:Nat)(vs:List Value)(o:Nat)(w:World)(h:∀ j,j<vs.length->(w.cell? ⟨b,o+j,none⟩).isSome=true)(k:Nat)(hk:(w.cell? ⟨b,k,none⟩).isSome=true):((w.setCells b o vs).cell? ⟨b,k,none⟩).isSome=true:=by
 by_cases v_:o<=k/\k<o+vs.length
 ·have:=World.cell?_setCells_in b vs o w h (k-o) (by omega)
  rw[show o+(k-o)=k by omega] at this
  rw[this];rfl
 ·rw[World.cell?_setCells_out b vs o w ⟨b,k,none⟩ (fun _ _=>by show k<o\/o+vs.length<=k;omega)]
  exact hk
theorem QH{α:Type}(V2 cs news:List α)(A N sz:Nat)(h1:∀ k,k<A->V2[k]? = cs[k]?)(h2:∀ k,k<sz->V2[A+k]? = news[k]?)(h3:∀ k,A<=k->k<N->V2[k+sz]? = cs[k]?)
 (hc:cs.length=N) (hn:news.length=sz) (hA:A<=N):V2.take (N+sz)=cs.take A++news++cs.drop A:=by
 apply List.ext_getElem?
 intro k
 have hl:(cs.take A).length=A:=by rw[List.length_take];omega
 have mg:(cs.take A++news).length=A+sz:=by rw[List.length_append,hl,hn]
 rw[List.getElem?_take]
 by_cases hk:k<N+sz
 ·rw[if_pos hk]
  by_cases vf:k<A
  ·rw[List.getElem?_append_left (by omega),List.getElem?_append_left (by omega),List.getElem?_take,if_pos vf]
   exact h1 k vf
  ·by_cases oZ:k<A+sz
   ·rw[List.getElem?_append_left (by omega),List.getElem?_append_right (by omega),hl]
    have:=h2 (k-A) (by omega)
    rw[show A+(k-A)=k by omega] at this
    exact this
   ·rw[List.getElem?_append_right (by omega),mg,List.getElem?_drop]
    have:=h3 (k-sz) (by omega) (by omega)
    rw[show k-sz+sz=k by omega] at this
    rw[this]
    congr 1
    omega
 ·rw[if_neg hk,List.getElem?_eq_none]
  rw[List.length_append,mg,List.length_drop]
  omega
structure G9 (P:Program) (f:FuncId) (sz gJ:Nat) (S E:TypeId) (z:Value):Prop where
 tS:P.underlying S=some (.slice E)
 iE:(P.info? E).map (fun i=>(i.zero,i.size,i.bytes))=some (some z,sz,gJ)
 hz:z.cells.size=sz
 h0:0<sz
 hb:sz<=gJ
 shift:∀(b n c i vb m vc:Nat) (cs vs:List Value) (w:World),i<n->0<m->n+m<=c->n+m<=140737488355328->vb≠b->cs.length=n*sz->vs.length=m*sz →
  (∀(j:Nat) v,cs[j]? = some v->w.cell? ⟨b,j,none⟩=some v)->(∀ j,j<(n+m)*sz->(w.cell? ⟨b,j,none⟩).isSome=true)->(∀ j,w.frozen? ⟨b,j,none⟩=false) →
  (∀(j:Nat) v,vs[j]? = some v->w.cell? ⟨vb,j,none⟩=some v)->(∀ v∈cs,v.oneCell'=true)->(∀ v∈vs,v.oneCell'=true) →
  ∀(tA tB:TypeId) (kA kB:Nat),w.shape? vb=some (tA,kA)->w.shape? b=some (tB,kB)->kB≠0->w.frozen? ⟨vb,0,none⟩=false->w.frozen? ⟨vb,kA,none⟩=false →
  Calls P f #[.slice (some ⟨b,0,none⟩) n c,.int .i64 i,.slice (some ⟨vb,0,none⟩) m vc] w fun e w' =>
   e = .returned (.slice (some ⟨b,0,none⟩) (n+m) c)/\w'=(w.drew.setCells b ((i+m)*sz) (cs.drop (i*sz))).setCells b (i*sz) vs
 grow:∀(b n c i vb m vc:Nat) (cs vs:List Value) (w:World),i<n->0<m->n<=c->c<n+m->(n+m)*gJ<=140737488355328->cs.length=n*sz->vs.length=m*sz →
  (∀(j:Nat) v,cs[j]? = some v->w.cell? ⟨b,j,none⟩=some v)->(∀(j:Nat) v,vs[j]? = some v->w.cell? ⟨vb,j,none⟩=some v)->(∀ v∈cs,v.oneCell'=true)->(∀ v∈vs,v.oneCell'=true) →
  Calls P f #[.slice (some ⟨b,0,none⟩) n c,.int .i64 i,.slice (some ⟨vb,0,none⟩) m vc] w fun e w' =>
   e = .returned (.slice (some ⟨w.heap.size,0,none⟩) (n+m) (grownCap w (n+m) c E)) ∧
   w'=(((w.alloc (.cells ((cs.take (i*sz)).toArray++Builtin.zeroCells z.cells (n+m-i)++Builtin.zeroCells z.cells (grownCap w (n+m) c E-(n+m))) E)).drew.setCells w.heap.size (i*sz) vs).drew).setCells w.heap.size ((i+m)*sz) (cs.drop (i*sz))
 last:∀(base:Option Addr) (n c vb m vc:Nat) (w:World),0<m->n<=c->∀ {v':Value} {w':World},(∀ ty,(Builtin.append_ #[S,S] ty #[.slice base n c,.slice (some ⟨vb,0,none⟩) m vc]).run P w = .ok v' w') →
  Calls P f #[.slice base n c,.int .i64 n,.slice (some ⟨vb,0,none⟩) m vc] w fun e w''=>e = .returned v'/\w''=w'
theorem G9.run{f:FuncId}{sz gJ:Nat}{S E:TypeId}{z:Value}(D:G9 P f sz gJ S E z){v:Value}{n cap g i vb vc:Nat}{ak KS:Array Value}{el Lm:TypeId}{news:List Value}{w:World}
 (hv:(v = .slice none 0 0/\n=0/\ak = #[])\/(v = .slice (some ⟨g,0,none⟩) n cap/\w.heap[g]? = some (.cells ak el (0,0))/\ak.size=cap*sz/\n<=cap/\vb≠g)) (hi:i<=n)
 (hb:w.heap[vb]? = some (.cells KS Lm (0,0))) (hl:news.length=sz) (CR:∀(j:Nat) u,news[j]? = some u->KS[j]? = some u) (h1:∀ u∈news,u.oneCell'=true) (xW:∀ u∈ak.toList.take (n*sz),u.oneCell'=true)
 (Bt:(n+1)*gJ<=140737488355328) :
 Calls P f #[v,.int .i64 i,.slice (some ⟨vb,0,none⟩) 1 vc] w fun e w'=>∃ v',e = .returned v'/\(∃ g' j9,v' = .slice (some ⟨g',0,none⟩) (n+1) j9)/\D6 w w' v v' sz (n+1) ((ak.toList.take (n*sz)).take (i*sz)++news++(ak.toList.take (n*sz)).drop (i*sz)):=by
 obtain⟨i0,qx,wg,iP,Jm⟩:=info_parts D.iE
 have hX:=D.h0
 have hsb:=D.hb
 have Je:n+1<=140737488355328:=by
  have h1:1<=gJ:=by omega
  have h2:(n+1)*1<=(n+1)*gJ:=Nat.mul_le_mul_left _ h1
  omega
 have BE:∀(j:Nat) u,news[j]? = some u->w.cell? ⟨vb,j,none⟩=some u:=fun j u hj=>by rw[(ig hb j).1];exact CR j u hj
 by_cases v_:i=n
 ·subst v_
  have kj:(ak.toList.take (i*sz)).take (i*sz)++news++(ak.toList.take (i*sz)).drop (i*sz)=ak.toList.take (i*i0.size)++news:=by
   rw[iP,List.take_take,Nat.min_self,List.drop_eq_nil_of_le (by rw[List.length_take];omega),List.append_nil]
  rw[kj]
  obtain⟨v',w',hr,ha,F3,_⟩:=rD (P:=P) (ty:=0) (w:=w) D.tS qx wg (by rw[iP];exact D.hz) (by omega) (v:=v) (h:=i) (cap:=cap) (g:=g) (ak:=ak) (el:=el)
   (by rcases hv with h|⟨q1,q2,q3,q4,_⟩;exact .inl h;exact .inr ⟨q1,q2,by rw[iP];exact q3,q4⟩) (aa:=some ⟨vb,0,none⟩) (m:=1) (c:=vc) (news:=news) (by rw[iP];omega) (fun _=>⟨vb,0,rfl,fun j u hj=>by rw[Nat.zero_add];exact BE j u hj⟩) h1 (by omega) (by rw[Jm];exact Bt)
  rw[iP] at ha
  rw[iP]
  have hr':∀ ty,(Builtin.append_ #[S,S] ty #[v,.slice (some ⟨vb,0,none⟩) 1 vc]).run P w = .ok v' w':=fun ty=>hr
  rcases hv with ⟨rfl,rfl,rfl⟩|⟨rfl,q2,q3,q4,_⟩
  ·refine (D.last none 0 0 vb 1 vc w (by omega) (by omega) hr').mono ?_
   rintro e1 w1 ⟨rfl,rfl⟩
   exact⟨_,rfl,F3 (by omega),ha⟩
  ·refine (D.last (some ⟨g,0,none⟩) i cap vb 1 vc w (by omega) q4 hr').mono ?_
   rintro e1 w1 ⟨rfl,rfl⟩
   exact⟨_,rfl,F3 (by omega),ha⟩
 ·rcases hv with ⟨rfl,rfl,rfl⟩|⟨rfl,q2,q3,q4,q5⟩
  ·omega
  have AE:ak.toList.length=ak.size:=Array.length_toList
  have hnc:n*sz<=cap*sz:=Nat.mul_le_mul_right _ q4
  have WV:i*sz<=n*sz:=Nat.mul_le_mul_right _ hi
  obtain⟨cs,fA⟩:∃ cs,cs=ak.toList.take (n*sz):=⟨_,rfl⟩
  have gK:cs.length=n*sz:=by rw[fA,List.length_take,AE,q3];omega
  have hcv:∀ k,k<n*sz->cs[k]? = ak[k]? := fun k hk=>by rw[fA,List.getElem?_take,if_pos hk,Array.getElem?_toList]
  have KW:∀(j:Nat) u,cs[j]? = some u->w.cell? ⟨g,j,none⟩=some u:=fun j u hj=>by
   have:=(List.getElem?_eq_some_iff.1 hj).1
   rw[(ig q2 j).1,<-hcv j (by omega)];exact hj
  rw[<-fA] at xW ⊢
  have e1:(n+1)*sz=n*sz+sz:=by rw[Nat.add_mul,Nat.one_mul]
  have e2:(i+1)*sz=i*sz+sz:=by rw[Nat.add_mul,Nat.one_mul]
  have Qw:(cs.drop (i*sz)).length=n*sz-i*sz:=by rw[List.length_drop,gK]
  by_cases r5:n+1<=cap
  ·have hrc:(n+1)*sz<=cap*sz:=Nat.mul_le_mul_right _ r5
   refine (D.shift g n cap i vb 1 vc cs news w (by omega) (by omega) r5 Je q5 gK (by omega) KW (fun j hj=>?_) (fun j=>(ig q2 j).2) BE xW h1 Lm el KS.size ak.size (by simp[World.shape?,hb]) (by simp[World.shape?,q2]) (by omega) (ig hb _).2 (ig hb _).2).mono ?_
   ·rw[(ig q2 j).1,Array.getElem?_eq_getElem (by omega)];rfl
   ·rintro LC w1 ⟨rfl,rfl⟩
    obtain⟨va,a1,a2,a3⟩:=gF g el (cs.drop (i*sz)) ((i+1)*sz) w.drew ak q2 (by omega)
    obtain⟨vb',b1,b2,b3⟩:=gF g el news (i*sz) _ va a1 (by omega)
    obtain⟨c1,c2,c3,c4,c5⟩:=gG g (cs.drop (i*sz)) ((i+1)*sz) w.drew
    obtain⟨d1,d2,d3,d4,d5⟩:=gG g news (i*sz) (w.drew.setCells g ((i+1)*sz) (cs.drop (i*sz)))
    have hgl:g<w.heap.size:=(Array.getElem?_eq_some_iff.1 q2).1
    refine⟨_,rfl,⟨_,_,rfl⟩,.row g cap vb' el rfl b1 (by omega) r5 ?_ (.inl ⟨n,rfl,hgl,d1.trans c1⟩) (fun b hb _=>(d2 b hb).trans (c2 b hb)) ⟨d3.trans c3,d4.trans c4,d5.trans c5⟩⟩
    rw[e1]
    refine QH _ cs news (i*sz) (n*sz) sz (fun k hk=>?_) (fun k hk=>?_) (fun k vf oZ=>?_) gK hl WV
    ·rw[Array.getElem?_toList,b3,if_neg (by omega),a3,if_neg (by omega),hcv k (by omega)]
    ·rw[Array.getElem?_toList,b3,if_pos (by omega)];congr 1;omega
    ·rw[Array.getElem?_toList,b3,if_neg (by omega),a3,if_pos (by omega),List.getElem?_drop];congr 1;omega
  ·have hgc:=grownCap_ge w (n+1) cap E
   have ahf:(n+1)*sz<=grownCap w (n+1) cap E*sz:=Nat.mul_le_mul_right _ hgc
   have e3:n*sz-i*sz+i*sz=n*sz:=by omega
   refine (D.grow g n cap i vb 1 vc cs news w (by omega) (by omega) q4 (by omega) Bt gK (by omega) KW BE xW h1).mono ?_
   rintro LC w1 ⟨rfl,rfl⟩
   obtain⟨j6,Ej⟩:∃ j6:Array Value,j6=(cs.take (i*sz)).toArray++Builtin.zeroCells z.cells (n+1-i)++Builtin.zeroCells z.cells (grownCap w (n+1) cap E-(n+1)):=⟨_,rfl⟩
   have hRs:j6.size=grownCap w (n+1) cap E*sz:=by
    rw[Ej]
    simp only[Array.size_append,List.size_toArray,List.length_take,Builtin.zeroCells,Array.size_map,Array.size_range,D.hz,gK]
    rw[Nat.min_eq_left WV,<-Nat.add_mul,<-Nat.add_mul]
    congr 1;omega
   have hRg:∀ k,k<i*sz->j6[k]? = cs[k]? := fun k hk=>by
    have mg:(cs.take (i*sz)).toArray.size=i*sz:=by rw[List.size_toArray,List.length_take];omega
    rw[Ej,Array.append_assoc,Array.getElem?_append_left (by omega),List.getElem?_toArray,List.getElem?_take,if_pos hk]
   rw[<-Ej]
   generalize grownCap w (n+1) cap E=G at *
   have Ub:(w.alloc (.cells j6 E)).drew.heap[w.heap.size]? = some (.cells j6 E (0,0)):=by
    show (w.heap.push _)[w.heap.size]? = _
    rw[Array.getElem?_push_size]
   have has:(w.alloc (.cells j6 E)).drew.heap.size=w.heap.size+1:=by show (w.heap.push _).size=_;rw[Array.size_push]
   have hao:∀ b,b<w.heap.size->(w.alloc (.cells j6 E)).drew.heap[b]? = w.heap[b]? := fun b hb=>by
    show (w.heap.push _)[b]? = _
    rw[Array.getElem?_push];rw[if_neg (by omega)]
   obtain⟨va,a1,a2,a3⟩:=gF w.heap.size E news (i*sz) _ j6 Ub (by omega)
   obtain⟨c1,c2,c3,c4,c5⟩:=gG w.heap.size news (i*sz) (w.alloc (.cells j6 E)).drew
   obtain⟨vb',b1,b2,b3⟩:=gF w.heap.size E (cs.drop (i*sz)) ((i+1)*sz) ((w.alloc (.cells j6 E)).drew.setCells w.heap.size (i*sz) news).drew va a1 (by omega)
   obtain⟨d1,d2,d3,d4,d5⟩:=gG w.heap.size (cs.drop (i*sz)) ((i+1)*sz) ((w.alloc (.cells j6 E)).drew.setCells w.heap.size (i*sz) news).drew
   refine⟨_,rfl,⟨_,_,rfl⟩,.row w.heap.size G vb' E rfl b1 (by omega) hgc ?_ (.inr ⟨rfl,d1.trans (c1.trans has)⟩) (fun b hb jx=>(d2 b hb).trans ((c2 b hb).trans (hao b jx))) ⟨d3.trans c3,d4.trans c4,d5.trans c5⟩⟩
   rw[e1]
   refine QH _ cs news (i*sz) (n*sz) sz (fun k hk=>?_) (fun k hk=>?_) (fun k vf oZ=>?_) gK hl WV
   ·rw[Array.getElem?_toList,b3,if_neg (by omega),a3,if_neg (by omega),hRg k hk]
   ·rw[Array.getElem?_toList,b3,if_neg (by omega),a3,if_pos (by omega)];congr 1;omega
   ·rw[Array.getElem?_toList,b3,if_pos (by omega),List.getElem?_drop];congr 1;omega
section
variable {base : Nat} {M : LM} {w0 : World} {V : Vl}
theorem ZP{st:St}{ts:Array Value}{w:World}(r:Rel base M w0 V st ts w){m:Nat}{e:Ty}{xs ys:List e.den}(hm:st.an m = .row true e xs){v v':Value}{w':World}(hs:du V w m e xs.length v){all:List Value}
 (ha:D6 w w' v v' e.size ys.length all) (hk:xs.length<ys.length) (hlen:ys.length<=cY) (cr:∃ g' j9,v' = .slice (some ⟨g',0,none⟩) ys.length j9) (ch:∀ dH:Array Value,dH.toList.take (ys.length*e.size)=all->gl (V.Z true) w e dH ys) :
 ∃ V',Rel base M w0 V' { (st.map (bI m)) with hp:=bP (st.map (bI m)).hp m (.row true e ys) } ts w' ∧
  S.ok V' (St.mk (st.map (bI m)).ts (bP (st.map (bI m)).hp m (.row true e ys))).an w' (.c (.own m)) v':=by
 have Ji:=r.mem.cE m
 rw[hm] at Ji
 have hl:(st.an m).live=true:=by rw[hm];rfl
 have aT:m<st.hp.length:=iJ hl
 have ec:(St.mk (st.map (bI m)).ts (bP (st.map (bI m)).hp m (.row true e ys))).an m = .row true e ys:=by
  rw[gZ (by show m<(lmap _ _).length;rw[bS,List.length_map];exact aT)]
  simp only[aD,if_true]
 cases ha with
 | same h1 h2 =>
   exfalso
   subst h1
   obtain⟨g',j9,cr⟩:=cr
   rcases hs with ⟨_,k2,_⟩|⟨_,cap,_,_,k2,_⟩
   ·rw[k2] at cr;cases cr
   ·rw[k2] at cr;injection cr with _ h _;omega
 | row g' j9 dH jb h1 h2 h3 h4 h5 h6 h7 h8 =>
   have km:(V.has m/\g'=V.aF m/\w'.heap.size=w.heap.size)\/(g'=w.heap.size/\w'.heap.size=w.heap.size+1):=by
    rcases h6 with ⟨l0,e1,e2,e3⟩|h6
    ·left
     rcases hs with ⟨k1,k2,k3⟩|⟨k1,cap,ak,el,k2,k3,k4,k5⟩
     ·rw[k2] at e1;cases e1
     ·rw[k2] at e1
      injection e1 with e1 _ _
      injection e1 with e1
      injection e1 with e1
      exact⟨k1,e1.symm,e3⟩
    ·exact .inr h6
   have L6:g'<w'.heap.size:=(Array.getElem?_eq_some_iff.1 h2).1
   have cD:w.heap.size<=w'.heap.size:=by rcases km with ⟨_,_,h⟩|⟨_,h⟩<;>omega
   have jh:∀ b,b<w.heap.size->(V.has m->b≠V.aF m)->w'.heap[b]? = w.heap[b]? := by
    intro b hb bo
    refine h7 b (fun e=>?_) hb
    rcases km with ⟨q1,q2,_⟩|⟨q1,_⟩
    ·exact bo q1 (by rw[e,q2])
    ·omega
   have F1:base<=g'\/M g':=by
    rcases km with ⟨q1,q2,_⟩|⟨q1,_⟩
    ·rw[q2];exact (r.mem.own m hl q1).1
    ·left;have:=r.mem.kept.size;omega
   have RN:Kept base M w0 w':=by
    refine⟨h8.1.trans r.mem.kept.os,h8.2.1.trans r.mem.kept.tape,h8.2.2.trans r.mem.kept.output,Nat.le_trans r.mem.kept.size cD,fun b hb hM=>?_,fun b ue Fz hb hM Jk=>?_⟩
    ·rw[h7 b (fun e=>by subst e;rcases F1 with h|h;omega;exact hM h) (by have:=r.mem.kept.size;omega)]
     exact r.mem.kept.block b hb hM
    ·obtain⟨C8,pA,j1,j2⟩:=r.mem.kept.shape b ue Fz hb hM Jk
     by_cases Bs:b=g'
     ·subst Bs
      rcases km with ⟨q1,q2,_⟩|⟨q1,_⟩
      ·rcases h6 with ⟨l0,e1,_,_⟩|⟨h6,_⟩
       ·rcases hs with ⟨k1,k2,k3⟩|⟨k1,cap,ak,el,k2,k3,k4,k5⟩
        ·rw[k2] at e1;cases e1
        ·rw[k2] at e1
         injection e1 with _ _ e2
         subst e2
         rw[q2,k3] at j1
         injection j1 with j1
         injection j1 with j1 _ _
         subst j1
         exact⟨dH,jb,h2,by rw[h3,<-k4];exact j2⟩
       ·exfalso;have:=r.mem.kept.size;omega
      ·exfalso;have:=r.mem.kept.size;omega
     ·exact⟨C8,pA,by rw[h7 b Bs (by have:=r.mem.kept.size;omega)];exact j1,j2⟩
   have Ja:∀ {f:Bool} {b:Nat},V.Z f b->w'.heap[b]? = w.heap[b]? := by
    intro f b hb
    exact jh b (r.mem.qu hb) (fun hh e=>by subst e;exact (r.mem.own m hl hh).2.2 (Vl.db hb))
   have Mk:gl ((V.move m g').Z true) w' e dH ys:=by
    intro j hj
    obtain⟨es,p1,p2,p3⟩:=ch dH h5 j hj
    exact⟨es,p1,p2,p3.mono (fun b hb=>hb) (fun b hb=>Ja hb)⟩
   subst h1
   refine⟨V.move m g',?_,⟨true,e,_,ec,.inr ⟨zA V m g',j9,dH,jb,by rw[jR],by rw[jR];exact h2,h3,h4⟩⟩⟩
   refine rC r hm RN cD jh (fun n hn=>QM hn) rfl rfl (fun aJ _=>?_) (fun _=>?_) (fun _ _=>?_) (fun aT _=>False.elim aT) (fun _ q hq=>by cases hq)
   ·exact .inr ⟨zA V m g',dH,jb,by rw[jR];exact h2,hlen,Mk⟩
   ·rw[jR]
    refine⟨F1,L6,?_⟩
    rcases km with ⟨q1,q2,_⟩|⟨q1,_⟩
    ·exact .inr ⟨q1,q2⟩
    ·exact .inl (by omega)
   ·rw[jR]
    rcases km with ⟨q1,q2,_⟩|⟨q1,_⟩
    ·rw[q2];exact r.mem.fY m e xs hm q1
    ·have:=r.mem.kept.size;omega
end
def R6(e2 e:Ty)(ys:List e2.den):Option (Prop×List e.den) :=
 if h:e2=e then some (True,cA h ys) else if h:e2=e.cO then some ((∀ y∈cA h ys,zB e y),(cA h ys).map (gq e)) else none
theorem W_{e2 e:Ty}{ys:List e2.den}{p:Prop}{zs:List e.den}(h:R6 e2 e ys=some (p,zs))(hp:p):zs.length=ys.length/\e2.size=e.size ∧
 ∀(i:Nat) (h:i<ys.length) (h':i<zs.length) {cs:List Value} {Z:Nat->Prop} {w:World},aI Z w e2 cs ys[i]->aI Z w e cs zs[i]:=by
 unfold R6 at h
 split at h
 ·rename_i he
  subst he
  injection h with h
  injection h with h1 h2
  subst h2
  exact⟨rfl,rfl,fun i _ _ _ _ _ h=>h⟩
 ·split at h
  ·rename_i he
   subst he
   injection h with h
   injection h with h1 h2
   subst h2
   subst h1
   refine⟨by rw[List.length_map];rfl,b_ e,fun i hi cF cs Z w hr=>?_⟩
   rw[List.getElem_map]
   exact aI.gq e hr (hp _ (List.getElem_mem (l:=ys) hi))
  ·cases h
def yc(e:Ty)(gJ:Nat):cL:=fun ss st K =>
 match ss with
 | [.c (.own m),.c (.val (.int .i64 i)),.c (.own k)] =>
   match st.an m,st.an k with
   | .row true e' xs,.row true e2 D5 =>
     match R6 e2 e' D5 with
     | some (p,ys) =>
       if e'.cO=e.cO&&m != k then
        (p/\0<=i/\i<=(xs.length:Nat)/\ys.length=1/\(xs.length+1)*gJ<=140737488355328) ∧
          K (.c (.own m)) { (st.map (bI m)) with hp:=bP (st.map (bI m)).hp m (.row true e' (xs.take i.toNat++ys++xs.drop i.toNat)) }
       else False
     | none=>False
   | _,_=>False
 | _=>False
theorem Xa {f : FuncId} {e : Ty} {gJ : Nat} {S' E : TypeId} {z : Value} (D : G9 P f e.size gJ S' E z) : fS P f (yc e gJ) := by
  intro base M w0 V st ts w ss vs K r hlen nP hr
  unfold yc at hr
  split at hr
  case h_2 => exact hr.elim
  rename_i m i k
  split at hr
  case h_2 => exact hr.elim
  rename_i e' xs e2 D5 hm oZ
  split at hr
  case h_2 => exact hr.elim
  rename_i p ys BG
  split at hr
  case isFalse => exact hr.elim
  rename_i he
  simp only [Bool.and_eq_true, decide_eq_true_eq, bne_iff_ne, ne_eq] at he
  obtain ⟨he, hmk⟩ := he
  have W4 : e.size = e'.size := by rw [← b_ e, ← he, b_ e']
  rw [W4] at D
  obtain ⟨⟨hp, qx, v9, hy1, Bt⟩, hK⟩ := hr
  obtain ⟨v0, v1, v2, rfl⟩ : ∃ v0 v1 v2, vs = [v0, v1, v2] := by
    match vs, hlen with
    | [a, b, c], _ => exact ⟨a, b, c, rfl⟩
  have k0 := nP 0 _ _ rfl rfl
  have k1 := nP 1 _ _ rfl rfl
  have k2 := nP 2 _ _ rfl rfl
  obtain ⟨rfl, _⟩ := (k1 : v1 = .int .i64 i ∧ _)
  obtain ⟨fr0, e9, Y0, AB, ch⟩ := k0
  rw [hm] at AB
  injection AB with q1 q2 q3
  subst q1; subst q2
  have q3 := eq_of_heq q3
  subst q3
  obtain ⟨Bo, e8, tE, BA, ac1⟩ := k2
  rw [oZ] at BA
  injection BA with q1 q2 q3
  subst q1; subst q2
  have q3 := eq_of_heq q3
  subst q3
  obtain ⟨mg, Yv, Ud⟩ := W_ BG hp
  obtain ⟨i, rfl⟩ := Int.eq_ofNat_of_zero_le qx
  simp only [Int.toNat_natCast] at hK
  have abc : i ≤ xs.length := by omega
  have Ji := r.mem.cE m
  rw [hm] at Ji
  have abB := r.mem.cE k
  rw [oZ] at abB
  have hl : (st.an m).live = true := by rw [hm]; rfl
  have qy : (st.an k).live = true := by rw [oZ]; rfl
  rcases ac1 with ⟨_, _, h3⟩ | ⟨DE, Wq, KS, Lm, rfl, fe, jx, hb3⟩
  · omega
  rcases abB with ⟨g1, _⟩ | ⟨_, ae7, ahc, Uf, hb5, hb6⟩
  · exact absurd DE g1
  rw [fe] at Uf
  injection Uf with Uf
  injection Uf with qa qb _
  subst qa; subst qb
  obtain ⟨es, p1, p2, p3⟩ := hb6 0 (by omega)
  have p3' := Ud 0 (by omega) (by omega) p3
  have hyl : D5.length = 1 := by omega
  rw [hyl]
  -- the row's cells
  obtain ⟨cap, g, ak, el, hv, hra, AD⟩ : ∃ (cap g : Nat) (ak : Array Value) (el : TypeId),
      ((v0 = .slice none 0 0 ∧ xs.length = 0 ∧ ak = #[]) ∨ (v0 = .slice (some ⟨g, 0, none⟩) xs.length cap ∧ w.heap[g]? = some (.cells ak el (0, 0)) ∧ ak.size = cap * e'.size ∧ xs.length ≤ cap ∧ V.aF k ≠ g)) ∧
      gl (V.Z true) w e' ak xs ∧ xs.length * e'.size ≤ ak.size := by
    rcases ch with ⟨h1, h2, h3⟩ | ⟨h1, cap, ak, el, h2, h3, h4, h5⟩
    · exact ⟨0, 0, #[], 0, .inl ⟨h2, h3, rfl⟩, fun j hj => by omega, by rw [h3]; simp⟩
    · rcases Ji with ⟨g1, _⟩ | ⟨_, dH, jb, g2, g3, g4⟩
      · exact absurd h1 g1
      rw [h3] at g2
      injection g2 with g2
      injection g2 with g2a g2b _
      subst g2a; subst g2b
      exact ⟨cap, V.aF m, ak, el, .inr ⟨h2, h3, h4, h5, fun e => hmk (r.mem.gi k m qy hl DE h1 e).symm⟩, g4, by rw [h4]; exact Nat.mul_le_mul_right _ h5⟩
  have hX := e'.size_pos
  have nC : ∀ u ∈ ak.toList.take (xs.length * e'.size), u.oneCell' = true := by
    intro u hu
    obtain ⟨t, hu⟩ := List.mem_iff_getElem?.1 hu
    rw [List.getElem?_take] at hu
    split at hu
    case isFalse => cases hu
    rename_i ht
    rw [Array.getElem?_toList] at hu
    have hx : t / e'.size < xs.length := (Nat.div_lt_iff_lt_mul hX).2 ht
    obtain ⟨jc, p1, p2, p3⟩ := hra (t / e'.size) hx
    have xk : t % e'.size < jc.length := by rw [p1]; exact Nat.mod_lt _ hX
    have := p2 (t % e'.size) _ (List.getElem?_eq_getElem xk)
    rw [show (t / e'.size) * e'.size + t % e'.size = t by rw [Nat.mul_comm, Nat.div_add_mod]] at this
    rw [this] at hu
    injection hu with hu
    subst hu
    exact p3.dA _ (List.getElem_mem xk)
  refine (D.run hv abc fe (by rw [← Yv, p1]) (fun j u hj => by have := p2 j u hj; rwa [Nat.zero_mul, Nat.zero_add] at this) (fun u hu => p3.dA u hu) nC Bt).mono ?_
  rintro e1 w1 ⟨v', rfl, F3, ha⟩
  have qz : (xs.take i ++ ys ++ xs.drop i).length = xs.length + 1 := by
    rw [List.length_append, List.length_append, List.length_take, List.length_drop, hy1]; omega
  have hlm : xs.length + 1 ≤ cY := by
    have h1 : 1 ≤ gJ := by have := D.hb; omega
    have h2 : (xs.length + 1) * 1 ≤ (xs.length + 1) * gJ := Nat.mul_le_mul_left _ h1
    unfold cY; omega
  rw [← qz] at ha F3
  obtain ⟨V', hR, hS⟩ := ZP r hm ch ha (by omega) (by omega) F3 (fun dH h5 => by
    intro x hx
    rw [qz] at hx h5
    have fA : (ak.toList.take (xs.length * e'.size)).length = xs.length * e'.size := by
      have : ak.toList.length = ak.size := Array.length_toList
      rw [List.length_take, this]; omega
    have v_ : i * e'.size ≤ xs.length * e'.size := Nat.mul_le_mul_right _ abc
    have L3 : es.length = e'.size := by rw [p1]; exact Yv
    have e1 : (xs.length + 1) * e'.size = xs.length * e'.size + e'.size := by rw [Nat.add_mul, Nat.one_mul]
    have nz : (x + 1) * e'.size ≤ (xs.length + 1) * e'.size := Nat.mul_le_mul_right _ (by omega)
    have e2' : (x + 1) * e'.size = x * e'.size + e'.size := by rw [Nat.add_mul, Nat.one_mul]
    have Bv : ∀ j u, j < e'.size → ((ak.toList.take (xs.length * e'.size)).take (i * e'.size) ++ es ++ (ak.toList.take (xs.length * e'.size)).drop (i * e'.size))[x * e'.size + j]? = some u → dH[x * e'.size + j]? = some u := by
      intro j u hj hu
      rw [← h5, List.getElem?_take, if_pos (by omega)] at hu
      simpa using hu
    have hl3 : ((ak.toList.take (xs.length * e'.size)).take (i * e'.size)).length = i * e'.size := by rw [List.length_take]; omega
    have hl4 : ((ak.toList.take (xs.length * e'.size)).take (i * e'.size) ++ es).length = i * e'.size + e'.size := by rw [List.length_append, hl3, L3]
    have abM : (xs.take i).length = i := by rw [List.length_take]; omega
    have aeR : (xs.take i ++ ys).length = i + 1 := by rw [List.length_append, abM, hy1]
    by_cases Mq : x < i
    · have hxm : (x + 1) * e'.size ≤ i * e'.size := Nat.mul_le_mul_right _ Mq
      obtain ⟨jc, r1, r2, r3⟩ := hra x (by omega)
      refine ⟨jc, r1, fun j u hu => ?_, ?_⟩
      · have hj : j < e'.size := by rw [← r1]; exact (List.getElem?_eq_some_iff.1 hu).1
        refine Bv j u hj ?_
        rw [List.getElem?_append_left (by omega), List.getElem?_append_left (by omega), List.getElem?_take, if_pos (by omega), List.getElem?_take, if_pos (by omega), Array.getElem?_toList]
        exact r2 j u hu
      · rw [List.getElem_append_left (by omega), List.getElem_append_left (by omega), List.getElem_take]
        exact r3
    · by_cases UB : x = i
      · subst UB
        refine ⟨es, L3, fun j u hu => ?_, ?_⟩
        · have hj : j < e'.size := by rw [← L3]; exact (List.getElem?_eq_some_iff.1 hu).1
          refine Bv j u hj ?_
          rw [List.getElem?_append_left (by omega), List.getElem?_append_right (by omega), hl3, show x * e'.size + j - x * e'.size = j by omega]
          exact hu
        · rw [List.getElem_append_left (by omega), List.getElem_append_right (by omega)]
          simp only [abM, Nat.sub_self]
          exact p3'
      · obtain ⟨jc, r1, r2, r3⟩ := hra (x - 1) (by omega)
        have hxm : (i + 1) * e'.size ≤ x * e'.size := Nat.mul_le_mul_right _ (by omega)
        have e3 : (i + 1) * e'.size = i * e'.size + e'.size := by rw [Nat.add_mul, Nat.one_mul]
        have e4 : x * e'.size = (x - 1) * e'.size + e'.size := by conv => lhs; rw [show x = x - 1 + 1 by omega, Nat.add_mul, Nat.one_mul]
        refine ⟨jc, r1, fun j u hu => ?_, ?_⟩
        · have hj : j < e'.size := by rw [← r1]; exact (List.getElem?_eq_some_iff.1 hu).1
          refine Bv j u hj ?_
          rw [List.getElem?_append_right (by omega), hl4, List.getElem?_drop, show i * e'.size + (x * e'.size + j - (i * e'.size + e'.size)) = (x - 1) * e'.size + j by omega, List.getElem?_take, if_pos (by omega), Array.getElem?_toList]
          exact r2 j u hu
        · rw [List.getElem_append_right (by omega)]
          simp only [aeR, List.getElem_drop]
          have : i + (x - (i + 1)) = x - 1 := by omega
          simp only [this]
          exact r3)
  exact ⟨v', rfl, V', _, _, hK, hR, hS⟩
end Go.SX
/- A told row that is cut at its end: the rule. No condition. -/
namespace Go.SX
open Go.RowKit
set_option linter.unusedVariables false
set_option linter.unusedSimpArgs false
structure CT where
 e:Ty
 pre:Int->List e.den->Prop
 F:Int->List e.den->Nat
def pe(c:Int)(e:Ty)(xs:List e.den)(ntmps:Nat):St:={ ts:=.agg [.val (.int .i64 c),.pre 0 xs.length]::kW .fh (ntmps-1),hp:=[.row false e xs] }
def EV(T:cC)(fn:Func)(c:Int)(e:Ty)(xs:List e.den)(h:Nat)(ex:Ex)(st:St):Prop :=
 match ex with
 | .exit _=>False
 | _ =>
   match sL T st fn.results.toList with
   | some [.agg [.val (.int .i64 c'),.pre 0 k]]=>c'=c/\k=h/\cU (kC st.an 0 [.row true e xs])
   | _=>False
def yD(T:cC)(Γ:FuncId->Option PC)(R:FuncId->Option cL)(fn:Func)(ct:CT)(A:Int×List ct.e.den->Nat->Option bg):Prop :=
 match fn.body with
 | some code=>∀ c xs,i64.min<=c/\c<=i64.max->(Ty.sl ct.e).wf xs->ct.pre c xs->vc T Γ R code (A (c,xs)) (pe c ct.e xs fn.ntmps) fun e _ st=>EV T fn c ct.e xs (ct.F c xs) e st
 | none=>False
def Rz(n:Nat)(e:Ty)(xs:List e.den)(h:Nat)(st:St):St :=
 { (({ (st.map (dF false)) with hp:=bP (st.map (dF false)).hp n (.row true e xs) }:St).map (bI n)) with hp:=bP (({ (st.map (dF false)) with hp:=bP (st.map (dF false)).hp n (.row true e xs) }:St).map (bI n)).hp n (.row true e (xs.take h)) }
def X1(n:Nat)(l:List Nat)(c:Int)(e:Ty)(xs:List e.den)(h:Nat)(st:St)(K:S->St->Prop):Prop :=
 cU (jD n l 0 st.hp)/\K (.agg [.val (.int .i64 c),.own n]) (Rz n e xs h st)
def oD(ct:CT):cL:=fun ss st K =>
 match ss with
 | [.agg [.val (.int .i64 c),.own n]] =>
   match st.an n with
   | .row true e' xs =>
     if h:e'=ct.e then ct.pre c (cA h xs)/\X1 n (aX ct.e (cA h xs)) c ct.e (cA h xs) (ct.F c (cA h xs)) (st.vP (fi n 0 st.hp)) K
     else False
   | _=>False
 | _=>False
section
variable {P : Program} {T : cC} {Γ : FuncId → Option PC} {R : FuncId → Option cL} {base : Nat} {M : LM} {w0 : World} {V : Vl} {hp : Nat → az} {w w' : World}
theorem Wu(hm:P.follows .mixedOrders=true)(hT:cv P T)(hΓ:eI P Γ)(hR:cV P R){f:FuncId}{fn:Func}(hf:P.funcs[f]? = some fn){ct:CT}{A:Int×List ct.e.den->Nat->Option bg}
 (h:yD T Γ R fn ct A) {v0:Value} {c:Int} {xs:List ct.e.den} {b0:Nat} {has:Prop} (hg:ct.e.ir=true)
 (oc:∀ V' aJ,aJ 0 = .row false ct.e xs->(V'.has 0↔has)->V'.aF 0=b0->C.ok V' aJ w (.own 0) v0)
 (Es:¬has->xs=[]) (ch:has->∃ ak el,w.heap[b0]? = some (.cells ak el (0,0))/\xs.length<=cY/\gl (fun i=>i∈aX ct.e xs) w ct.e ak xs) (hb:has->b0 ∉ aX ct.e xs) (aT:∀ i∈aX ct.e xs,i<w.heap.size)
 (pX:i64.min<=c/\c<=i64.max) (eS:ct.pre c xs) (gK:(Ty.sl ct.e).wf xs) :
 Calls P f #[.agg #[.int .i64 c,v0]] w fun e1 w'=>∃ v1,e1 = .returned (.agg #[.int .i64 c,v1]) ∧
  Kept w.heap.size (tU has b0 (aX ct.e xs)) w w'/\(has->∃ ba dC,w'.heap[b0]? = some (.cells ba dC (0,0))/\gl (fun i=>i∈aX ct.e xs) w' ct.e ba xs)/\ct.F c xs<=xs.length ∧
  ((v1 = .slice none 0 0/\ct.F c xs=0)\/(has/\∃ cap ak el,v1 = .slice (some ⟨b0,0,none⟩) (ct.F c xs) cap/\w'.heap[b0]? = some (.cells ak el (0,0))/\ak.size=cap*ct.e.size/\ct.F c xs<=cap)):=by
 unfold yD at h
 split at h
 case h_2=>exact h.elim
 rename_i code tw
 have Mo:=h c xs pX gK eS
 let V0:Vl:=⟨fun _=>b0,fun j=>j=0/\has,fun b=>b∈aX ct.e xs,fun _=>False⟩
 have ec:∀ j,(pe c ct.e xs fn.ntmps).an j=if j=0 then .row false ct.e xs else .dead:=by
  intro j
  show nth .dead [az.row false ct.e xs] j=_
  cases j with
  | zero=>rfl
  | succ j=>rfl
 have h0:(pe c ct.e xs fn.ntmps).an 0 = .row false ct.e xs:=by rw[ec];rfl
 have eZ:∀ j,j≠0->(pe c ct.e xs fn.ntmps).an j = .dead:=fun j hj=>by rw[ec,if_neg hj]
 have o0:∀ j,((pe c ct.e xs fn.ntmps).an j).live=true->j=0:=by
  intro j hj
  by_cases e:j=0
  ·exact e
  ·rw[eZ j e] at hj;cases hj
 have zw:Mem w.heap.size (tU has b0 (aX ct.e xs)) w V0 (pe c ct.e xs fn.ntmps).an w:=by
  refine⟨fun j=>?_,fun j cs hj=>?_,fun j hj hh=>?_,fun j e ys hj=>?_,fun j j' hj lr _ _ _=>?_,fun b h=>⟨aT b h,trivial⟩,fun b h=>h.elim,⟨rfl,rfl,rfl,Nat.le_refl _,fun _ _ _=>rfl,fun b v2 e2 _ _ sA=>⟨v2,e2,sA,rfl⟩⟩,fun j hj hh=>?_,fun b hb=>hb.elim,fun j hh q hq=>?_⟩
  ·by_cases ej:j=0
   ·subst ej
    rw[h0]
    by_cases hh:has
    ·obtain⟨ak,el,q1,q2,q3⟩:=ch hh
     refine .inr ⟨⟨rfl,hh⟩,ak,el,q1,q2,fun i hi=>?_⟩
     obtain⟨es,k1,k2,k3⟩:=q3 i hi
     exact⟨es,k1,k2,k3.mono (fun b hb=>.inr ⟨rfl,hb⟩) (fun _ _=>rfl)⟩
    ·exact .inl ⟨fun h=>hh h.2,Es hh⟩
   ·rw[eZ j ej];trivial
  ·by_cases ej:j=0
   ·subst ej;rw[h0] at hj;cases hj
   ·rw[eZ j ej] at hj;cases hj
  ·obtain⟨ak,el,q1,_⟩:=ch hh.2
   refine⟨.inr (.inl ⟨hh.2,rfl⟩),(Array.getElem?_eq_some_iff.1 q1).1,fun hz=>?_⟩
   rcases hz with hz|⟨_,hz⟩
   ·exact hz
   ·exact hb hh.2 hz
  ·by_cases ej:j=0
   ·subst ej;rw[h0] at hj;injection hj with q;cases q
   ·rw[eZ j ej] at hj;cases hj
  ·rw[o0 j hj,o0 j' lr]
  ·by_cases ej:j=0
   ·exact⟨ej,hh.2,rfl⟩
   ·rw[eZ j ej] at hj;exact False.elim hj
  ·by_cases ej:j=0
   ·subst ej
    rw[h0] at hq
    have fH:q∈(if ct.e.bQ then aX ct.e xs else []):=hq
    split at fH
    ·exact fun _=>.inr fH
    ·cases fH
   ·rw[eZ j ej] at hq;cases hq
 have Ml:=oc V0 (pe c ct.e xs fn.ntmps).an h0 ⟨fun h=>h.2,fun h=>⟨rfl,h⟩⟩ rfl
 have EJ:Sat w.heap.size (tU has b0 (aX ct.e xs)) w (pe c ct.e xs fn.ntmps) { tmps := #[.agg #[.int .i64 c,v0]]++Array.replicate (fn.ntmps-1) undef,defers:=[] } w:=by
  refine⟨rfl,V0,⟨?_,fun i s' v' bb cr=>?_,zw⟩⟩
  ·show (S.agg _::kW S.fh (fn.ntmps-1)).length=_
   rw[iG];simp;omega
  ·have bb:(S.agg [.val (.int .i64 c),.pre 0 xs.length]::kW S.fh (fn.ntmps-1))[i]? = some s':=bb
   have cr:([Value.agg #[.int .i64 c,v0]]++List.replicate (fn.ntmps-1) undef)[i]? = some v':=by
    rw[<-cr]
    simp only[Array.getElem?_append,List.getElem?_append,List.getElem?_toArray,List.size_toArray,Array.getElem?_replicate,List.getElem?_replicate]
   cases i with
   | zero =>
     simp only[List.getElem?_cons_zero,Option.some.injEq,List.cons_append] at bb cr
     subst bb;subst cr
     refine⟨#[.int .i64 c,v0],rfl,rfl,fun j c' v' h1 h2=>?_⟩
     match j with
     | 0=>simp at h1 h2;subst h1;subst h2;exact⟨rfl,pX⟩
     | 1 =>
       simp at h1 h2;subst h1;subst h2
       obtain⟨f9,e9,x9,g1,g2⟩:=Ml
       have g1':=g1
       rw[h0] at g1'
       injection g1' with q1 q2 q3
       subst q1;subst q2;cases q3
       exact⟨_,_,_,g1,Nat.le_refl _,g2⟩
     | j+2=>simp at h1
   | succ i =>
     simp only[List.getElem?_cons_succ,List.cons_append,List.nil_append,iG,List.getElem?_replicate] at bb cr
     split at bb
     ·rename_i hi
      injection bb with bb;subst bb
      rw[if_pos hi] at cr
      injection cr with cr;exact cr.symm
     ·cases bb
 refine calls_of_wp (args := #[.agg #[.int .i64 c,v0]]) hf tw (C_ hm hT hΓ hR code (A (c,xs)) _ _ _ _ w EJ Mo (fun e1 A' aV a' w' hk bb=>?_))
 obtain⟨hd,V1,r1⟩:=bb
 have key:EV T fn c ct.e xs (ct.F c xs) e1 aV->(∃ i,e1 = .exit i)\/∃ v1,(results fn a'.tmps).run P w' = .ok (.agg #[.int .i64 c,v1]) w'/\C.ok V1 aV.an w' (.pre 0 (ct.F c xs)) v1/\cU (kC aV.an 0 [.row true ct.e xs]):=by
  intro hp
  unfold EV at hp
  split at hp
  ·exact hp.elim
  ·right
   split at hp
   ·rename_i c' k' nP
    obtain⟨et,je,F2⟩:=hp
    subst et;subst je
    obtain⟨vs,e1,e2,e3⟩:=la hT r1 nP
    match vs,e1 with
    | [x],_ =>
      obtain⟨ws,g1,g2,g3⟩:=e2 0 _ x rfl rfl
      have g2':ws.toList.length=2:=g2.symm
      obtain⟨x1,x2,hx⟩:∃ x1 x2,ws.toList=[x1,x2]:=by
       match hw:ws.toList,g2' with
       | [a,b],_=>exact⟨a,b,rfl⟩
      have hw:ws = #[x1,x2]:=by rw[<-Array.toArray_toList (xs:=ws),hx]
      have i1:=g3 0 _ x1 rfl (by rw[hx];rfl)
      have i2:=g3 1 _ x2 rfl (by rw[hx];rfl)
      refine⟨x2,?_,i2,F2⟩
      have i1':x1=Value.int .i64 c':=i1.1
      have nQ:x=Value.agg #[.int .i64 c',x2]:=by rw[g1,hw,i1']
      exact (lM e3).trans (by rw[nQ];rfl)
   ·exact hp.elim
 have fin:∀ v1,C.ok V1 aV.an w' (.pre 0 (ct.F c xs)) v1->cU (kC aV.an 0 [.row true ct.e xs])->(has->∃ ba dC,w'.heap[b0]? = some (.cells ba dC (0,0))/\gl (fun i=>i∈aX ct.e xs) w' ct.e ba xs)/\ct.F c xs<=xs.length ∧
  ((v1 = .slice none 0 0/\ct.F c xs=0)\/(has/\∃ cap ak el,v1 = .slice (some ⟨b0,0,none⟩) (ct.F c xs) cap/\w'.heap[b0]? = some (.cells ak el (0,0))/\ak.size=cap*ct.e.size/\ct.F c xs<=cap)):=by
  intro v1 hv1 hp
  have m1:=r1.mem
  have hz:=se hp 0 true ct.e xs rfl
  rw[Nat.zero_add] at hz
  have h1:=m1.cE 0
  rw[hz] at h1
  obtain⟨fr9,e9,xs9,Uq,hle,hrw⟩:=hv1
  rw[hz] at Uq
  injection Uq with q1 q2 q3
  subst q1;subst q2;cases q3
  have FY:(ct.e.flat||ct.e.bQ)=true:=kS hg
  refine⟨fun hh=>?_,hle,?_⟩
  ·rcases h1 with ⟨c1,c2⟩|⟨c1,dH,jb,c2,c3,c4⟩
   ·obtain⟨ak,el,q1,_⟩:=ch hh
    obtain⟨v3,e3,h3,_⟩:=m1.kept.shape b0 ak el (Array.getElem?_eq_some_iff.1 q1).1 (.inl ⟨hh,rfl⟩) q1
    exact⟨v3,e3,h3,by rw[c2];intro i hi;exact absurd hi (Nat.not_lt_zero _)⟩
   ·obtain⟨_,_,nv⟩:=m1.jO 0 (by rw[hz];exact FY) c1
    rw[nv] at c2
    refine⟨dH,jb,c2,fun i hi=>?_⟩
    obtain⟨es,k1,k2,k3⟩:=c4 i hi
    exact⟨es,k1,k2,aI.mv ct.e hg k3 (fun i' cF=>⟨List.mem_flatMap.2 ⟨_,List.getElem_mem hi,cF⟩,rfl⟩)⟩
  ·rcases hrw with ⟨a1,a2,a3⟩|⟨a1,cap,ak,el,a2,a3,a4,a5⟩
   ·exact .inl ⟨a2,a3⟩
   ·obtain⟨_,hh,nv⟩:=m1.jO 0 (by rw[hz];exact FY) a1
    rw[nv] at a2 a3
    exact .inr ⟨hh,cap,ak,el,a2,a3,a4,a5⟩
 have iM:=key hk
 cases e1 with
 | normal =>
   rcases iM with ⟨i,h⟩|⟨v1,h1,h2,h3⟩
   ·cases h
   ·exact⟨hd,_,h1,v1,rfl,r1.mem.kept,fin v1 h2 h3⟩
 | exit i=>exact hk.elim
 | ret =>
   rcases iM with ⟨i,h⟩|⟨v1,h1,h2,h3⟩
   ·cases h
   ·exact⟨hd,_,h1,v1,rfl,r1.mem.kept,fin v1 h2 h3⟩
where kS:∀ {t:Ty},t.ir=true->(t.flat||t.bQ)=true
 | .gs _ _,_=>rfl
 | .sl _,h=>by cases h
 | .st t,h=>kS (t:=t) h
 | .pr a b,h=>by
   have h':(a.ir&&b.ir)=true:=h
   rw[Bool.and_eq_true] at h'
   have h1:=kS h'.1
   have h2:=kS h'.2
   show (a.flat&&b.flat||(a.bQ||b.bQ))=true
   cases ha:a.bQ<;>cases hb:b.bQ<;>simp_all
 | .int _,_=>rfl
 | .bool,_=>rfl
 | .str,_=>rfl
 | .ptr _,h=>by cases h
 | .ca _ _,h=>by cases h
theorem TP(hm:P.follows .mixedOrders=true)(hT:cv P T)(hΓ:eI P Γ)(hR:cV P R){f:FuncId}{fn:Func}(hf:P.funcs[f]? = some fn){ct:CT}{A:Int×List ct.e.den->Nat->Option bg}
 (hg:ct.e.ir=true) (h:yD T Γ R fn ct A):fS P f (oD ct):=by
 intro base M w0 V st ts w ss vs K r hlen gT bN
 unfold oD at bN
 split at bN
 case h_2=>exact bN.elim
 rename_i c n
 match vs,hlen with
 | [v],_ =>
   obtain⟨ws,hv,hwl,hws⟩:=gT 0 _ v rfl rfl
   have aeQ:ws.toList.length=2:=hwl.symm
   obtain⟨x1,v0,hx⟩:∃ x1 x2,ws.toList=[x1,x2]:=by
    match hw:ws.toList,aeQ with
    | [a,b],_=>exact⟨a,b,rfl⟩
   have hw:ws = #[x1,v0]:=by rw[<-Array.toArray_toList (xs:=ws),hx]
   have i1:=hws 0 _ x1 rfl (by rw[hx];rfl)
   have hc:C.ok V st.an w (.own n) v0:=hws 1 _ v0 rfl (by rw[hx];rfl)
   obtain⟨i1',pX⟩:=(i1:x1=Value.int .i64 c/\i64.min<=c/\c<=i64.max)
   subst i1'
   subst hw
   subst hv
   split at bN
   case h_2=>exact bN.elim
   rename_i e' xs F0
   split at bN
   case isFalse=>exact bN.elim
   rename_i he
   subst he
   have bN:ct.pre c xs/\X1 n (aX ct.e xs) c ct.e xs (ct.F c xs) (st.vP (fi n 0 st.hp)) K:=bN
   obtain⟨eS,Qv,hK⟩:=bN
   obtain⟨fr9,e9,xs9,Uq,RV⟩:=hc
   rw[F0] at Uq
   injection Uq with q1 q2 q3
   subst q1;subst q2;cases q3
   obtain⟨V1,r1,Je,fe,L7⟩:=Cd (n:=n) (fi n 0 st.hp) r F0 (fun m hm=>(kb hm).2.1) (fun m hm=>by
    obtain⟨_,_,f1,e1,x1,h1⟩:=kb hm
    exact⟨f1,e1,x1,Uu h1⟩) (iC _ _)
   have CU:du V1 w n ct.e xs.length v0:=by
    unfold du at RV ⊢
    rw[L7,fe];exact RV
   clear RV F0
   generalize st.vP (fi n 0 st.hp)=st at *
   have hn:=Je
   have r:=r1
   have mm:=r1.mem
   have ha1:=Qv
   have h0:=mm.cE n
   rw[hn] at h0
   obtain⟨hz,UA⟩:=vF r hn (.inl rfl)
   have de:(st.an n).live=true:=by rw[hn];rfl
   refine (Wu hm hT hΓ hR hf h (v0:=v0) (c:=c) (xs:=xs) (b0:=V1.aF n) (has:=V1.has n) hg ?_ ?_ ?_ ?_ ?_ pX eS ?_).mono ?_
   ·intro V' aJ g1 g2 g3
    refine⟨false,ct.e,xs,g1,?_⟩
    unfold du at CU ⊢
    rw[g2,g3];exact CU
   ·intro hh
    rcases h0 with ⟨_,h2⟩|⟨h1,_⟩
    ·exact h2
    ·exact absurd h1 hh
   ·intro hh
    rcases h0 with ⟨h1,_⟩|⟨_,ak,el,h2,h3,h4⟩
    ·exact absurd hh h1
    ·refine⟨ak,el,h2,h3,fun i hi=>?_⟩
     obtain⟨es,k1,k2,k3⟩:=h4 i hi
     exact⟨es,k1,k2,aI.mv ct.e hg k3 (fun i' cF=>⟨List.mem_flatMap.2 ⟨_,List.getElem_mem hi,cF⟩,rfl⟩)⟩
   ·intro hh hx
    exact (mm.own n de hh).2.2 (Vl.db (hz _ hx))
   ·intro i hi
    exact mm.qu (Vl.db (hz i hi))
   ·rcases h0 with ⟨_,h2⟩|⟨_,ak,el,_,h3,h4⟩
    ·rw[h2];exact⟨Nat.zero_le _,fun x hx=>by cases hx⟩
    ·refine⟨h3,fun x hx=>?_⟩
     obtain⟨i,hi,rfl⟩:=List.getElem_of_mem hx
     obtain⟨es,_,_,k3⟩:=h4 i hi
     exact k3.wf
   ·rintro e1 w1 ⟨v1,rfl,p4,p5,p6,p7⟩
    have R2:=t_ r hn rfl (l:=aX ct.e xs) (fun i hi=>Vl.db (hz i hi)) p4.size (fun b hb hx=>p4.block b hb hx) (BK mm.kept p4 (fun hh=>(mm.own n de hh).1) UA) (fun hh=>by
     obtain⟨ba,dC,g1,g2⟩:=p5 hh
     rcases h0 with ⟨h1,_⟩|⟨_,ak,el,h2,h3,h4⟩
     ·exact absurd hh h1
     ·obtain⟨v3,e3,g3,g4⟩:=p4.shape (V1.aF n) ak el (Array.getElem?_eq_some_iff.1 h2).1 (.inl ⟨hh,rfl⟩) h2
      rw[g1] at g3
      injection g3 with g3
      injection g3 with g3 _ _
      subst g3
      refine⟨ak,el,ba,dC,h2,g1,g4,fun i hi=>?_⟩
      obtain⟨es,k1,k2,k3⟩:=g2 i hi
      exact⟨es,k1,k2,k3.mono (fun b hb=>hz b hb) (fun _ _=>rfl)⟩) (fun m f3 e3 G7 DH Mg=>lz ha1 m f3 e3 G7 (CN Mg rfl) (by omega)) false (fun h=>by cases h) (fun h=>by cases h) (fun i hi=>hi)
    have Yq:(St.mk (st.map (dF false)).ts (bP (st.map (dF false)).hp n (.row true ct.e xs))).an n = .row true ct.e xs:=by
     rw[gZ (by show n<(lmap _ _).length;rw[bS,List.length_map];exact iJ de)]
     simp only[aD,if_true]
    have h2:=R2.mem.cE n
    rw[Yq] at h2
    have mg:((St.mk (st.map (dF false)).ts (bP (st.map (dF false)).hp n (.row true ct.e xs))).an n).live=true:=by rw[Yq];rfl
    have acV:(Rz n ct.e xs (ct.F c xs) st).an n = .row true ct.e (xs.take (ct.F c xs)):=by
     unfold Rz
     rw[show ({ (({ (st.map (dF false)) with hp:=bP (st.map (dF false)).hp n (.row true ct.e xs) }:St).map (bI n)) with hp:=bP (({ (st.map (dF false)) with hp:=bP (st.map (dF false)).hp n (.row true ct.e xs) }:St).map (bI n)).hp n (.row true ct.e (xs.take (ct.F c xs))) }:St)=St.mk _ (bP (({ (st.map (dF false)) with hp:=bP (st.map (dF false)).hp n (.row true ct.e xs) }:St).map (bI n)).hp n (.row true ct.e (xs.take (ct.F c xs)))) from rfl,gZ (by show n<(lmap _ _).length;rw[bS,List.length_map];exact iJ mg)]
     simp only[aD,if_true]
    have ny:(xs.take (ct.F c xs)).length=ct.F c xs:=by rw[List.length_take];omega
    let V2:Vl:={ V1 with has:=fun j=>if j=n then (V1.has n/\v1 ≠ .slice none 0 0) else V1.has j }
    have DE:V2.has n↔(V1.has n/\v1 ≠ .slice none 0 0):=by show (if n=n then _ else _)↔_;rw[if_pos rfl]
    refine⟨_,rfl,V2,_,_,hK,?_,⟨_,rfl,rfl,fun j c' u' g1 g2=>?_⟩⟩
    ·refine rC (V':=V2) R2 Yq R2.mem.kept (Nat.le_refl _) (fun _ _ _=>rfl) (fun j hj=>⟨rfl,by show (if j=n then _ else _)↔_;rw[if_neg hj]⟩) rfl rfl (fun aJ _=>?_) (fun hh=>?_) (fun _ hh=>?_) (fun h _=>False.elim h) (fun _ q hq=>by cases hq)
     ·rcases p7 with ⟨a1,a2⟩|⟨a1,cap,ak,el,a2,a3,a4,a5⟩
      ·exact .inl ⟨fun hh=>(DE.1 hh).2 a1,by rw[a2];rfl⟩
      ·rcases h2 with ⟨b1,_⟩|⟨_,dH,jb,b2,b3,b4⟩
       ·exact absurd a1 b1
       ·refine .inr ⟨DE.2 ⟨a1,by rw[a2];simp⟩,dH,jb,b2,by rw[ny];omega,fun i hi=>?_⟩
        rw[ny] at hi
        obtain⟨es,k1,k2,k3⟩:=b4 i (by omega)
        exact⟨es,k1,k2,by rw[List.getElem_take];exact k3⟩
     ·obtain⟨o1,o2,_⟩:=R2.mem.own n mg (DE.1 hh).1
      exact⟨o1,o2,.inr ⟨(DE.1 hh).1,rfl⟩⟩
     ·exact R2.mem.fY n ct.e xs Yq (DE.1 hh).1
    ·match j with
     | 0=>simp at g1 g2;subst g1;subst g2;exact⟨rfl,pX⟩
     | 1 =>
       simp at g1 g2;subst g1;subst g2
       refine⟨true,ct.e,_,acV,?_⟩
       rw[ny]
       rcases p7 with ⟨a1,a2⟩|⟨a1,cap,ak,el,a2,a3,a4,a5⟩
       ·exact .inl ⟨fun hh=>(DE.1 hh).2 a1,a1,a2⟩
       ·exact .inr ⟨DE.2 ⟨a1,by rw[a2];simp⟩,cap,ak,el,a2,a3,a4,a5⟩
     | j+2=>simp at g1
end
end Go.SX
