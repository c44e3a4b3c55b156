/- A verified symbolic executor and its contracts (part SxB). No condition. -/
import Derived.Test.YtbnplfhajafhmaaGreatSxA
import Derived.Orders
set_option linter.unusedVariables false
set_option linter.unusedSimpArgs false
/- What a write leaves of the symbolic values; rows that are not written any more. No condition. -/
namespace Go.SX
open Go.RowKit
set_option linter.unusedVariables false
set_option linter.unusedSimpArgs false
def bF(f:C->C)(hp:Nat->ax)(n:Nat):ax:=(hp n).map f
def az(hp:Nat->ax)(m:Nat)(e:ax)(n:Nat):ax:=if n=m then e else hp n
theorem il(st:St)(f:C->C):(st.map f).au=bF f st.au:=by
 funext n
 show nth .dead (lmap (ax.map f) st.hp) n=(nth .dead st.hp n).map f
 rw[cB,cB,bt,List.getElem?_map]
 cases st.hp[n]? <;> rfl
theorem gj{hp:List ax}{m:Nat}(hm:m<hp.length)(e:ax)(ts:List S):(St.mk ts (bD hp m e)).au=az (fun n=>nth .dead hp n) m e:=by
 funext n
 show nth .dead (bD hp m e) n=if n=m then e else nth .dead hp n
 rw[cB,cB,eS,List.getElem?_set]
 by_cases h:m=n
 ·subst h;simp[hm]
 ·rw[if_neg h,if_neg (fun h'=>h h'.symm)]
theorem gP{st:St}{n:Nat}(h:(st.au n).live=true):n<st.hp.length:=by
 have h':(nth .dead st.hp n).live=true:=h
 rw[cB] at h'
 cases hn:st.hp[n]? with
 | none=>rw[hn] at h';cases h'
 | some e=>exact (List.getElem?_eq_some_iff.1 hn).1
section
variable {V V' : Vl} {hp aH : Nat → ax} {w w' : World} {f : C → C}
def ml(V:Vl)(hp:Nat->ax)(w:World)(f:C->C)(V':Vl)(aH:Nat->ax)(w':World):Prop:=∀ c v,C.ok V hp w c v->C.ok V' aH w' (f c) v
theorem ml.all(t:ml V hp w f V' aH w'){cs:List C}{vs:List Value}(h:bz V hp w cs vs):bz V' aH w' (lmap f cs) vs:=by
 rw[bt]
 refine⟨by simp[h.1],fun j c v hc hv=>?_⟩
 rw[List.getElem?_map] at hc
 cases hx:cs[j]? with
 | none=>rw[hx] at hc;cases hc
 | some x=>rw[hx] at hc;simp only[Option.map_some,Option.some.injEq] at hc;subst hc;exact t _ _ (h.2 j x v hx hv)
theorem ml.s(t:ml V hp w f V' aH w'){s:S}{v:Value}(h:S.ok V hp w s v):S.ok V' aH w' (S.map f s) v:=by
 cases s with
 | c x=>exact t _ _ h
 | agg cs=>obtain⟨vs,h1,h2⟩:=h;exact⟨vs,h1,t.all h2⟩
 | m_ xs =>
   obtain⟨vs,h1,h2,h3⟩:=h
   refine⟨vs,h1,by rw[bt,List.length_map];exact h2,fun j x v hx hv=>?_⟩
   rw[bt,List.getElem?_map] at hx
   cases hy:xs[j]? with
   | none=>rw[hy] at hx;cases hx
   | some y =>
     rw[hy] at hx
     simp only[Option.map_some,Option.some.injEq] at hx
     subst hx
     have:=h3 j y v hy hv
     unfold eZ at this ⊢
     simp only
     split
     ·rename_i hb;rw[if_pos hb] at this;obtain⟨us,k1,k2⟩:=this;exact⟨us,k1,t.all k2⟩
     ·rename_i hb;rw[if_neg hb] at this;exact t.all this
 | ew=>exact h
 | arr e xs=>exact S.sX h
 | any=>trivial
theorem sG{f:C->C}{e:ax}(h:(e.map f).fH):e.fH:=by
 cases e with
 | row fr e xs=>exact h
 | _=>exact h.elim
theorem fB{fr:Bool}{e:Ty}{xs:List e.den}(h:(ax.row fr e xs).fH):(e.flat||e.bU)=true:=by
 cases fr with
 | false=>exact h
 | true=>exact h.elim
theorem mX{e:ax}(h:e.fH):e.live=true:=by
 cases e with
 | row fr e xs=>rfl
 | _=>exact h.elim
theorem zf{f:C->C}(e:ax):(e.map f).fL=e.fL:=by cases e<;>rfl
theorem n7{f:C->C}(e:ax):(e.map f).lK=e.lK:=by cases e<;>rfl
theorem lM(e:ax):(e.map f).live=e.live:=by cases e<;>rfl
def zG(f:C->C):Prop:=∀ c,f c=c\/f c = .any
theorem C.tx(hf:zG f){c:C}{v:Value}(h:C.ok V hp w c v):C.ok V (bF f hp) w (f c) v:=by
 rcases hf c with e|e
 ·rw[e]
  have cY:∀ {n fr e xs},hp n = .row fr e xs->bF f hp n = .row fr e xs:=fun {n fr e xs} h=>by show (hp n).map f=_;rw[h];rfl
  have gR:∀ {n cs},hp n = .bx cs->∃ cp,bF f hp n = .bx cp:=fun {n cs} h=>⟨lmap f cs,by show (hp n).map f=_;rw[h];rfl⟩
  cases c with
  | own n=>obtain⟨fr,e,xs,h1,h2⟩:=h;exact⟨fr,e,xs,cY h1,h2⟩
  | pre n k=>obtain⟨fr,e,xs,h1,h2⟩:=h;exact⟨fr,e,xs,cY h1,h2⟩
  | eE n e' ys=>obtain⟨⟨fr,e,xs,h1⟩,h2⟩:=h;exact⟨⟨fr,e,xs,cY h1⟩,h2⟩
  | box n off=>obtain⟨h1,h2,cs,h3⟩:=h;exact⟨h1,h2,gR h3⟩
  | iY n len=>obtain⟨cap,h1,h2,cs,h3⟩:=h;exact⟨cap,h1,h2,gR h3⟩
  | dL n i off=>obtain⟨h0,fr,e,xs,h1,h2⟩:=h;exact⟨h0,fr,e,xs,cY h1,h2⟩
  | fn g di=>exact⟨h.1,fun n hn=>⟨(h.2 n hn).1,let ⟨_,cs,h3⟩:=h.2 n hn;gR h3⟩⟩
  | _=>exact h
 ·rw[e];exact C.cO h
theorem ax.tx(hf:zG f){n:Nat}{e:ax}(h:e.ok V hp w n):(e.map f).ok V (bF f hp) w n:=by
 cases e with
 | dead=>trivial
 | bx cs=>obtain⟨aq,el,h1,h2⟩:=h;exact⟨aq,el,h1,ml.all (fun c v hc=>C.tx hf hc) h2⟩
 | row fr e xs=>exact h
theorem Rel.kill{base:Nat}{M:LM}{w0:World}{st:St}{ts:Array Value}(hf:zG f)(r:Rel base M w0 V st ts w):Rel base M w0 V (st.map f) ts w:=by
 have m:=r.mem
 refine⟨by show (lmap _ _).length=_;rw[bt,List.length_map];exact r.len,fun i s v hs hv=>?_,?_⟩
 ·rw[il]
  have aW:(lmap (S.map f) st.ts)[i]? = some s:=hs
  rw[bt,List.getElem?_map] at aW
  cases hx:st.ts[i]? with
  | none=>rw[hx] at aW;cases aW
  | some x =>
    rw[hx] at aW
    simp only[Option.map_some,Option.some.injEq] at aW
    subst aW
    exact ml.s (fun c v hc=>C.tx hf hc) (r.fI i x v hx hv)
 ·rw[il]
  refine⟨fun n=>ax.tx hf (m.ck n),fun n cs h=>?_,fun n hl=>m.own n (by rw[<-lM (f:=f)];exact hl),fun n e xs h=>?_,fun n n' hl dm=>m.fw n n' (by rw[<-lM (f:=f)];exact hl) (by rw[<-lM (f:=f)];exact dm),m.z0,m.z1,m.kept,fun n hl hh=>m.lL n (sG hl) hh,fun b hb=>⟨by show ((st.au 0).map f).lK=true;rw[n7];exact (m.lr b hb).1,(m.lr b hb).2⟩,fun n hh i hi=>m.fL n hh i (by rw[<-zf (f:=f)];exact hi)⟩
  ·have h':(st.au n).map f = .bx cs:=h
   cases hn:st.au n with
   | bx cp=>exact m.box n cp hn
   | dead=>rw[hn] at h';cases h'
   | row fr e xs=>rw[hn] at h';cases h'
  ·have h':(st.au n).map f = .row true e xs:=h
   cases hn:st.au n with
   | row fr e' a_=>rw[hn] at h';exact m.eK n e xs (by rw[hn];exact h')
   | dead=>rw[hn] at h';cases h'
   | bx cs=>rw[hn] at h';cases h'
theorem ym(m:Nat):zG (bB m):=fun c =>
 match c with
 | .val _=>.inl rfl
 | .gi =>.inl rfl
 | .ga =>.inl rfl
 | .rd _ _ _=>.inl rfl
 | .own n=>if h:n=m then .inr (if_pos h) else .inl (if_neg h)
 | .pre n _=>if h:n=m then .inr (if_pos h) else .inl (if_neg h)
 | .eE n _ _=>if h:n=m then .inr (if_pos h) else .inl (if_neg h)
 | .box _ _=>.inl rfl
 | .iY _ _=>.inl rfl
 | .at_ _ _ _ _=>.inl rfl
 | .dL n _ _=>if h:n=m then .inr (if_pos h) else .inl (if_neg h)
 | .fn _ _=>.inl rfl
 | .bZ _ _ _ _=>.inl rfl
 | .rg _ _ _ _ _=>.inl rfl
 | .any =>.inl rfl
theorem Hf(m:Nat):zG (dj m):=fun c =>
 match c with
 | .val _=>.inl rfl
 | .gi =>.inl rfl
 | .ga =>.inl rfl
 | .rd _ _ _=>.inl rfl
 | .own _=>.inl rfl
 | .pre _ _=>.inl rfl
 | .eE n _ _=>if h:n=m then .inr (if_pos h) else .inl (if_neg h)
 | .box _ _=>.inl rfl
 | .iY _ _=>.inl rfl
 | .at_ _ _ _ _=>.inl rfl
 | .dL _ _ _=>.inl rfl
 | .fn _ _=>.inl rfl
 | .bZ _ _ _ _=>.inl rfl
 | .rg _ _ _ _ _=>.inl rfl
 | .any =>.inl rfl
def C.names(m:Nat):C->Bool
 | .own n=>n == m
 | .pre n _=>n == m
 | .eE n _ _=>n == m
 | .dL n _ _=>n == m
 | .box n _=>n == m
 | .iY n _=>n == m
 | .fn _ di=>di.any (· == m)
 | _=>false
def kI(hp:Nat->ax)(m:Nat)(n:Nat):ax:=if n=m then .dead else hp n
theorem gV{m n:Nat}(h:n≠m):kI hp m n=hp n:=by unfold kI;rw[if_neg h]
theorem C.JV{m:Nat}{c:C}{v:Value}(hn:c.names m=false)(h:C.ok V hp w c v):C.ok V (kI hp m) w c v:=by
 cases c with
 | own n=>obtain⟨fr,e,xs,h1,h2⟩:=h;exact⟨fr,e,xs,by rw[gV (by simpa[C.names] using hn)];exact h1,h2⟩
 | pre n k=>obtain⟨fr,e,xs,h1,h2⟩:=h;exact⟨fr,e,xs,by rw[gV (by simpa[C.names] using hn)];exact h1,h2⟩
 | eE n e' ys=>obtain⟨⟨fr,e,xs,h1⟩,h2⟩:=h;exact⟨⟨fr,e,xs,by rw[gV (by simpa[C.names] using hn)];exact h1⟩,h2⟩
 | box n off=>obtain⟨h1,h2,cs,h3⟩:=h;exact⟨h1,h2,cs,by rw[gV (by simpa[C.names] using hn)];exact h3⟩
 | iY n len=>obtain⟨cap,h1,h2,cs,h3⟩:=h;exact⟨cap,h1,h2,cs,by rw[gV (by simpa[C.names] using hn)];exact h3⟩
 | dL n i off=>obtain⟨h0,fr,e,xs,h1,h2⟩:=h;exact⟨h0,fr,e,xs,by rw[gV (by simpa[C.names] using hn)];exact h1,h2⟩
 | fn g di =>
   refine⟨h.1,fun n hm=>⟨(h.2 n hm).1,?_⟩⟩
   obtain⟨_,cs,h3⟩:=h.2 n hm
   have bb:n≠m:=by
    intro e;subst e
    simp[C.names] at hn
    exact hn n hm rfl
   exact⟨cs,by rw[gV bb];exact h3⟩
 | _=>exact h
def Vl.freeze(V:Vl)(m base:Nat):Vl where
 aE:=V.aE
 has:=V.has
 Z0 b:=V.Z0 b\/(V.has m/\b=V.aE m/\b<base)
 Z1 b:=V.Z1 b\/(V.has m/\b=V.aE m/\base<=b)
theorem Vl.eG{m base:Nat}{fr:Bool}{b:Nat}(h:V.Z fr b):(V.freeze m base).Z fr b:=by
 rcases h with h|⟨h,k⟩
 ·exact .inl (.inl h)
 ·exact .inr ⟨h,.inl k⟩
theorem Vl.uq{m base:Nat}(hh:V.has m):(V.freeze m base).Z false (V.aE m):=by
 rcases Nat.lt_or_ge (V.aE m) base with h|h
 ·exact .inr ⟨rfl,.inr ⟨hh,rfl,h⟩⟩
 ·exact .inl (.inr ⟨hh,rfl,h⟩)
theorem Vl.Hc{m base:Nat}(hh:V.has m)(h:base<=V.aE m):(V.freeze m base).Z true (V.aE m):=.inl (.inr ⟨hh,rfl,h⟩)
theorem Vl.EM{m base:Nat}{fr:Bool}{b:Nat}(h:(V.freeze m base).Z fr b):V.Z fr b\/(V.has m/\b=V.aE m):=by
 rcases h with (h|⟨h1,h2,_⟩)|⟨h,k|⟨h1,h2,_⟩⟩
 ·exact .inl (.inl h)
 ·exact .inr ⟨h1,h2⟩
 ·exact .inl (.inr ⟨h,k⟩)
 ·exact .inr ⟨h1,h2⟩
theorem VX.freeze(m base:Nat):VX V (kI hp m) w (V.freeze m base) (kI hp m) w :=
 ⟨fun _ _=>⟨rfl,Iff.rfl,rfl⟩,fun _ h=>.inl h,fun _ h=>.inl h,fun _ _=>rfl,fun _ _ _=>rfl⟩
theorem qS{base m:Nat}{fr:Bool}{e:Ty}{xs:List e.den}(hm:hp m = .row fr e xs)(eB:(ax.row fr e xs).ok V hp w m)(jQ:fr=true->V.has m->base<=V.aE m) :
 ml V hp w (cV m fr e xs) (V.freeze m base) (az (bF (cV m fr e xs) hp) m .dead) w:=by
 have hz:∀ b,(V.Z fr b\/(V.has m/\b=V.aE m))->(V.freeze m base).Z fr b:=by
  intro b hb
  rcases hb with hb|⟨h1,h2⟩
  ·exact Vl.eG hb
  ·subst h2
   cases fr with
   | false=>exact Vl.uq h1
   | true=>exact Vl.Hc h1 (jQ rfl h1)
 have bb:∀ {n},n≠m->∀ {aV e' a_},hp n = .row aV e' a_->az (bF (cV m fr e xs) hp) m .dead n = .row aV e' a_:=by
  intro n hn aV e' a_ h
  show (if n=m then _ else (hp n).map _)=_
  rw[if_neg hn,h];rfl
 have gR:∀ {n cs},hp n = .bx cs->∃ cp,az (bF (cV m fr e xs) hp) m .dead n = .bx cp:=by
  intro n cs h
  have hn:n≠m:=fun e=>by subst e;rw[hm] at h;cases h
  exact⟨_,by show (if n=m then _ else (hp n).map _)=_;rw[if_neg hn,h];rfl⟩
 intro c v h
 cases c with
 | own n =>
   obtain⟨aV,e',a_,h1,h2⟩:=h
   by_cases hn:n=m
   ·subst hn
    rw[hm] at h1
    injection h1 with e1 e2 e3
    subst e1;subst e2;cases e3
    simp only[cV,if_true]
    have:=wX eB h2 (Nat.le_refl _)
    rw[List.take_length] at this
    exact this.mono hz (fun _ _=>rfl)
   ·simp only[cV,if_neg hn]
    exact⟨aV,e',a_,bb hn h1,h2⟩
 | pre n k =>
   obtain⟨aV,e',a_,h1,h3,h2⟩:=h
   by_cases hn:n=m
   ·subst hn
    rw[hm] at h1
    injection h1 with e1 e2 e3
    subst e1;subst e2;cases e3
    simp only[cV,if_true]
    exact (wX eB h2 h3).mono hz (fun _ _=>rfl)
   ·simp only[cV,if_neg hn]
    exact⟨aV,e',a_,bb hn h1,h3,h2⟩
 | eE n e' ys =>
   obtain⟨⟨aV,e2,a_,h1⟩,h2⟩:=h
   by_cases hn:n=m
   ·subst hn
    simp only[cV,if_true]
    exact h2.mono (fun b hb=>hb.elim (fun h=>Vl.eG h) (fun⟨k1,k2⟩=>by subst k2;exact Vl.uq k1)) (fun _ _=>rfl)
   ·simp only[cV,if_neg hn]
    exact⟨⟨aV,e2,a_,bb hn h1⟩,h2.mono (fun b hb=>hb.elim (fun h=>.inl (Vl.eG h)) .inr) (fun _ _=>rfl)⟩
 | dL n i off =>
   obtain⟨h0,aV,e',a_,h1,h2,h3⟩:=h
   by_cases hn:n=m
   ·subst hn
    rw[hm] at h1
    injection h1 with e1 e2 e3
    subst e1;subst e2;cases e3
    simp only[cV,if_true]
    obtain⟨es,k1,k2,k3⟩:=Gj eB h0 h2
    refine⟨V.aE n,i*e.size,h3,hz _ (.inr ⟨h0,rfl⟩),es,k1,fun j hj=>k2 j _ (List.getElem?_eq_getElem hj),k3.mono (fun b hb=>hz b (.inl hb)) (fun _ _=>rfl)⟩
   ·simp only[cV,if_neg hn]
    exact⟨h0,aV,e',a_,bb hn h1,h2,h3⟩
 | box n off=>obtain⟨h1,h2,cs,h3⟩:=h;exact⟨h1,h2,gR h3⟩
 | iY n len=>obtain⟨cap,h1,h2,cs,h3⟩:=h;exact⟨cap,h1,h2,gR h3⟩
 | fn g di=>exact⟨h.1,fun n hn=>⟨(h.2 n hn).1,let ⟨_,cs,h3⟩:=h.2 n hn;gR h3⟩⟩
 | rd aV e' ys =>
   have h':aF (V.Z aV) w (.sl e') [v] ys:=h
   exact h'.mono (fun b hb=>Vl.eG hb) (fun _ _=>rfl)
 | bZ aV f t d =>
   have h':aF (V.Z aV) w (.bZ f t) [v] d:=h
   exact h'.mono (fun b hb=>Vl.eG hb) (fun _ _=>rfl)
 | rg aV wh e' b ys =>
   have h':aF (V.Z aV) w (.gs wh e') [v] (b,ys):=h
   exact h'.mono (fun b hb=>Vl.eG hb) (fun _ _=>rfl)
 | at_ aV t d off =>
   obtain⟨b,o,h1,h2,es,h3,h4,h5⟩:=h
   exact⟨b,o,h1,Vl.eG h2,es,h3,h4,h5.mono (fun b hb=>Vl.eG hb) (fun _ _=>rfl)⟩
 | val u=>exact h
 | gi=>exact h
 | ga=>exact h
 | any=>exact h
theorem Rel.Bz{base:Nat}{M:LM}{w0:World}{st:St}{ts:Array Value}(r:Rel base M w0 V st ts w){m:Nat}{fr:Bool}{e:Ty}{xs:List e.den}(hm:st.au m = .row fr e xs){g:C->C}
 (tn:ml V st.au w g (V.freeze m base) (az (bF g st.au) m .dead) w) :
 Rel base M w0 (V.freeze m base) { (st.map g) with hp:=bD (st.map g).hp m .dead } ts w:=by
 have mm:=r.mem
 have jQ:fr=true->V.has m->base<=V.aE m:=fun hf hh=>by subst hf;exact mm.eK m e xs hm hh
 have aZ:m<st.hp.length:=gP (by rw[hm];rfl)
 have dS:(St.mk (st.map (g)).ts (bD (st.map (g)).hp m .dead)).au=az (bF (g) st.au) m .dead:=by
  rw[gj (by show m<(lmap _ _).length;rw[bt,List.length_map];exact aZ)]
  congr 1
  exact il st _
 have eY:∀ n,(az (bF (g) st.au) m .dead n).live=true->n≠m/\(st.au n).live=true:=by
  intro n hl
  by_cases hn:n=m
  ·subst hn;simp[az,ax.live] at hl
  ·refine⟨hn,?_⟩
   simp only[az,if_neg hn] at hl
   rw[<-lM (f:=g)];exact hl
 have iO:∀ n,n≠m->az (bF (g) st.au) m .dead n=(st.au n).map (g):=fun n hn=>by simp only[az,if_neg hn];rfl
 refine⟨by show (lmap _ _).length=_;rw[bt,List.length_map];exact r.len,fun i s v hs hv=>?_,?_⟩
 ·rw[dS]
  have aW:(lmap (S.map (g)) st.ts)[i]? = some s:=hs
  rw[bt,List.getElem?_map] at aW
  cases hx:st.ts[i]? with
  | none=>rw[hx] at aW;cases aW
  | some x =>
    rw[hx] at aW
    simp only[Option.map_some,Option.some.injEq] at aW
    subst aW
    exact tn.s (r.fI i x v hx hv)
 ·rw[dS]
  refine⟨fun n=>?_,fun n cs h=>?_,fun n hl hh=>?_,fun n e' a_ h hh=>?_,fun n n' hl dm hh lX he=>?_,fun b hb=>?_,fun b hb=>?_,mm.kept,fun n hl hh=>?_,fun b hb=>?_,fun n hh i hi=>?_⟩
  ·by_cases hn:n=m
   ·subst hn;simp only[az,if_true];trivial
   ·rw[iO n hn]
    have h1:=mm.ck n
    cases bb:st.au n with
    | dead=>trivial
    | bx cs =>
      rw[bb] at h1
      obtain⟨aq,el,h2,h3⟩:=h1
      exact⟨aq,el,h2,tn.all h3⟩
    | row aV e' a_ =>
      rw[bb] at h1
      rcases h1 with h2|⟨h2,aq,el,h3,h4,h5⟩
      ·exact .inl h2
      ·refine .inr ⟨h2,aq,el,h3,h4,fun i hi=>?_⟩
       obtain⟨es,k1,k2,k3⟩:=h5 i hi
       exact⟨es,k1,k2,k3.mono (fun b hb=>Vl.eG hb) (fun _ _=>rfl)⟩
  ·obtain⟨hn,_⟩:=eY n (by rw[h];rfl)
   rw[iO n hn] at h
   cases bb:st.au n with
   | bx cp=>exact mm.box n cp bb
   | dead=>rw[bb] at h;cases h
   | row aV e' a_=>rw[bb] at h;cases h
  ·obtain⟨hn,dm⟩:=eY n hl
   obtain⟨k1,k2,k3⟩:=mm.own n dm hh
   refine⟨k1,k2,fun hz=>?_⟩
   rcases Vl.EM hz with hz|⟨h1,h2⟩
   ·exact k3 hz
   ·exact hn (mm.fw n m dm (by rw[hm];rfl) hh h1 h2)
  ·obtain⟨hn,_⟩:=eY n (by rw[h];rfl)
   rw[iO n hn] at h
   cases bb:st.au n with
   | row aV e2 kK=>rw[bb] at h;exact mm.eK n e' a_ (by rw[bb];exact h) hh
   | dead=>rw[bb] at h;cases h
   | bx cs=>rw[bb] at h;cases h
  ·exact mm.fw n n' (eY n hl).2 (eY n' dm).2 hh lX he
  ·rcases hb with hb|⟨h1,h2,hb⟩
   ·exact mm.z0 b hb
   ·refine⟨hb,?_⟩
    rcases (mm.own m (by rw[hm];rfl) h1).1 with h3|h3
    ·omega
    ·rw[h2];exact M.sub _ h3
  ·rcases hb with hb|⟨h1,h2,h3⟩
   ·exact mm.z1 b hb
   ·exact⟨h3,by rw[h2];exact (mm.own m (by rw[hm];rfl) h1).2.1⟩
  ·obtain⟨hn,_⟩:=eY n (mX hl)
   rw[iO n hn] at hl
   exact mm.lL n (sG hl) hh
  ·obtain⟨q1,q2⟩:=mm.lr b hb
   have hn:0≠m:=fun e=>by subst e;rw[hm] at q1;cases q1
   rw[iO 0 hn,n7]
   exact⟨q1,q2⟩
  ·by_cases hn:n=m
   ·subst hn
    simp only[az,if_true] at hi
    cases hi
   ·rw[iO n hn,zf] at hi
    exact mm.fL n hh i hi
theorem Rel.Ic{base:Nat}{M:LM}{w0:World}{st:St}{ts:Array Value}(r:Rel base M w0 V st ts w)(m:Nat):∃ V',Rel base M w0 V' (st.freeze m) ts w/\V'.aE=V.aE/\V'.has=V.has/\∀ fr b,V.Z fr b->V'.Z fr b:=by
 unfold St.freeze
 cases hm:st.au m with
 | dead=>exact⟨V,r,rfl,rfl,fun _ _ h=>h⟩
 | bx cs=>exact⟨V,r,rfl,rfl,fun _ _ h=>h⟩
 | row fr e xs =>
   simp only
   have mm:=r.mem
   have eB:=mm.ck m
   rw[hm] at eB
   have jQ:fr=true->V.has m->base<=V.aE m:=fun hf hh=>by subst hf;exact mm.eK m e xs hm hh
   exact⟨V.freeze m base,r.Bz hm (qS (base:=base) hm eB jQ),rfl,rfl,fun _ _ h=>Vl.eG h⟩
theorem Rel.freeze{base:Nat}{M:LM}{w0:World}{st:St}{ts:Array Value}(r:Rel base M w0 V st ts w)(m:Nat):∃ V',Rel base M w0 V' (st.freeze m) ts w:=by
 obtain⟨V',h,_⟩:=r.Ic m
 exact⟨V',h⟩
theorem Rel.qT{base:Nat}{M:LM}{w0:World}{ts:Array Value}:∀(ns:List Nat) {V:Vl} {st:St},Rel base M w0 V st ts w->∃ V',Rel base M w0 V' (st.ba ns) ts w/\V'.aE=V.aE/\V'.has=V.has/\∀ fr b,V.Z fr b->V'.Z fr b
 | [],V,st,r=>⟨V,r,rfl,rfl,fun _ _ h=>h⟩
 | n::ns,V,st,r=>by
   obtain⟨V1,r1,h1,h2,h3⟩:=r.Ic n
   obtain⟨V2,r2,g1,g2,g3⟩:=Rel.qT ns r1
   exact⟨V2,r2,g1.trans h1,g2.trans h2,fun fr b h=>g3 fr b (h3 fr b h)⟩
theorem Rel.ba{base:Nat}{M:LM}{w0:World}{ts:Array Value}:∀(ns:List Nat) {V:Vl} {st:St},Rel base M w0 V st ts w->∃ V',Rel base M w0 V' (st.ba ns) ts w
 | [],V,st,r=>⟨V,r⟩
 | n::ns,V,st,r=>by obtain⟨V',r'⟩:=r.freeze n;exact Rel.ba ns r'
end
end Go.SX
/- Stores and appends. No condition. -/
namespace Go.SX
open Go.RowKit
set_option linter.unusedVariables false
set_option linter.unusedSimpArgs false
section
variable {P : Program} {T : bN} {base : Nat} {M : LM} {w0 : World} {V : Vl} {hp : Nat → ax} {w : World} {a : Act} {next : Act → World → Prop} {Q : Exit → Act → World → Prop}
theorem gM(w:World)(g k:Nat)(cs:Array Value)(h:k≠g):(w.setRow g cs).heap[k]? = w.heap[k]? := by
 simp only[World.setRow,Array.getElem?_modify]
 rw[if_neg (fun e=>h e.symm)]
theorem setRow_size(w:World)(g:Nat)(cs:Array Value):(w.setRow g cs).heap.size=w.heap.size:=by simp[World.setRow]
structure Wr (V:Vl) (hp:Nat->ax) (w:World) (m:Nat) (aH:Nat->ax) (w':World):Prop where
 O1:∀ n,n≠m->aH n=hp n
 aE:∀ b,b≠V.aE m->w'.heap[b]? = w.heap[b]?
 has:V.has m
 kind:(∃ cs cp,hp m = .bx cs/\aH m = .bx cp) ∨
  (∃ fr aV e,∃ xs a_:List e.den,hp m = .row fr e xs/\aH m = .row aV e a_/\xs.length=a_.length ∧
    ∃ aq bn el eg,w.heap[V.aE m]? = some (.cells aq el (0,0))/\w'.heap[V.aE m]? = some (.cells bn eg (0,0))/\aq.size=bn.size)
theorem Wr.z{aH:Nat->ax}{w':World}{m:Nat}(k:Wr V hp w m aH w')(mm:Mem base M w0 V hp w){fr:Bool}{b:Nat}(h:V.Z fr b):w'.heap[b]? = w.heap[b]? := by
 have hl:(hp m).live=true:=by rcases k.kind with ⟨cs,_,h,_⟩|⟨_,_,_,_,_,h,_⟩<;>rw[h]<;>rfl
 exact k.aE b fun e=>by subst e;exact (mm.own m hl k.has).2.2 (Vl.cN h)
theorem Wr.row{aH:Nat->ax}{w':World}{m:Nat}(k:Wr V hp w m aH w')(mm:Mem base M w0 V hp w){n h:Nat}{fr:Bool}{e:Ty}{xs:List e.den}{v:Value}(hn:hp n = .row fr e xs)(hr:cR V w n e h v) :
 ∃ aV,∃ a_:List e.den,aH n = .row aV e a_/\a_.length=xs.length/\cR V w' n e h v:=by
 by_cases ON:n=m
 ·subst ON
  rcases k.kind with ⟨cs,_,h1,_⟩|⟨To,ta,e',Xp,kK,h1,h2,h3,aq,bn,el,QH,h4,h5,h6⟩
  ·rw[hn] at h1;cases h1
  ·rw[hn] at h1
   injection h1 with e1 e2 e3
   subst e1;subst e2;cases e3
   refine⟨ta,kK,h2,h3.symm,?_⟩
   rcases hr with ⟨q1,q2,q3⟩|⟨q1,cap,v1,x7,q2,q3,q4,q5⟩
   ·exact .inl ⟨q1,q2,q3⟩
   ·rw[h4] at q3
    injection q3 with q3
    injection q3 with g1 g2 g3
    subst g1
    exact .inr ⟨q1,cap,bn,QH,q2,h5,by rw[<-h6];exact q4,q5⟩
 ·refine⟨fr,xs,(k.O1 n ON).trans hn,rfl,?_⟩
  rcases hr with ⟨q1,q2,q3⟩|⟨q1,cap,v1,x7,q2,q3,q4,q5⟩
  ·exact .inl ⟨q1,q2,q3⟩
  ·have hl:(hp m).live=true:=by rcases k.kind with ⟨cs,_,h,_⟩|⟨_,_,_,_,_,h,_⟩<;>rw[h]<;>rfl
   exact .inr ⟨q1,cap,v1,x7,q2,by rw[k.aE _ (fun e=>ON (mm.fw n m (by rw[hn];rfl) hl q1 k.has e))];exact q3,q4,q5⟩
theorem Wr.ok{aH:Nat->ax}{w':World}{m:Nat}(k:Wr V hp w m aH w')(mm:Mem base M w0 V hp w){c:C}{v:Value}(h:C.ok V hp w c v)(hb:∀ e xs,c ≠ .eE m e xs):C.ok V aH w' c v:=by
 have hl:(hp m).live=true:=by rcases k.kind with ⟨cs,_,h,_⟩|⟨_,_,_,_,_,h,_⟩<;>rw[h]<;>rfl
 have gp:∀ {fr:Bool} {t:Ty} {cs:List Value} {d:t.den},aF (V.Z fr) w t cs d->aF (V.Z fr) w' t cs d:=fun h=>h.mono (fun _ h=>h) (fun b hb=>k.z mm hb)
 have gR:∀ {n cs},hp n = .bx cs->∃ cp,aH n = .bx cp:=by
  intro n cs h
  by_cases hn:n=m
  ·subst hn
   rcases k.kind with ⟨_,cp,_,h2⟩|⟨_,_,_,_,_,h1,_⟩
   ·exact⟨cp,h2⟩
   ·rw[h] at h1;cases h1
  ·exact⟨cs,(k.O1 n hn).trans h⟩
 cases c with
 | val u=>exact h
 | gi=>exact h
 | ga=>exact h
 | any=>exact h
 | rd fr e xs=>exact gp (t:=.sl e) h
 | bZ fr f t d=>exact gp (t:=.bZ f t) h
 | rg fr wh e b xs=>exact gp (t:=.gs wh e) h
 | own n =>
   obtain⟨fr,e,xs,h1,h2⟩:=h
   obtain⟨aV,a_,h3,h4,h5⟩:=k.row mm h1 h2
   exact⟨aV,e,a_,h3,by rw[h4];exact h5⟩
 | pre n j =>
   obtain⟨fr,e,xs,h1,h6,h2⟩:=h
   obtain⟨aV,a_,h3,h4,h5⟩:=k.row mm h1 h2
   exact⟨aV,e,a_,h3,by rw[h4];exact h6,h5⟩
 | eE n e xs =>
   obtain⟨⟨fr,e',ys,h1⟩,h2⟩:=h
   have hn:n≠m:=fun e'=>by subst e';exact hb e xs rfl
   refine⟨⟨fr,e',ys,(k.O1 n hn).trans h1⟩,h2.mono (fun _ h=>h) (fun b et=>?_)⟩
   rcases et with hz|⟨q1,q2⟩
   ·exact k.z mm hz
   ·exact k.aE b fun e=>hn (mm.fw n m (by rw[h1];rfl) hl q1 k.has (by rw[<-q2,e]))
 | box n off=>obtain⟨h1,h2,cs,h3⟩:=h;exact⟨h1,h2,gR h3⟩
 | iY n len=>obtain⟨cap,h1,h2,cs,h3⟩:=h;exact⟨cap,h1,h2,gR h3⟩
 | at_ fr t d off =>
   obtain⟨b,o,h1,h2,es,h3,h4,h5⟩:=h
   exact⟨b,o,h1,h2,es,h3,gK (k.z mm h2) h4,gp h5⟩
 | dL n i off =>
   obtain⟨h0,fr,e,xs,h1,h2,h3⟩:=h
   by_cases hn:n=m
   ·subst hn
    rcases k.kind with ⟨cs,_,q1,_⟩|⟨To,ta,e',Xp,kK,q1,q2,q3,_⟩
    ·rw[h1] at q1;cases q1
    ·rw[h1] at q1
     injection q1 with e1 e2 e3
     subst e1;subst e2;cases e3
     exact⟨h0,ta,e,kK,q2,by rw[<-q3];exact h2,h3⟩
   ·exact⟨h0,fr,e,xs,(k.O1 n hn).trans h1,h2,h3⟩
 | fn f di=>exact⟨h.1,fun n hn=>⟨(h.2 n hn).1,let ⟨_,cs,h3⟩:=h.2 n hn;gR h3⟩⟩
def Oe(m:Nat)(c:C):Prop:=∀ e xs,c ≠ .eE m e xs
theorem uH{aH:Nat->ax}{w':World}{m:Nat}(k:Wr V hp w m aH w')(mm:Mem base M w0 V hp w){cs:List C}{vs:List Value}(h:bz V hp w cs vs)(hb:∀ c∈cs,Oe m c):bz V aH w' cs vs :=
 ⟨h.1,fun j c v hc hv=>k.ok mm (h.2 j c v hc hv) (hb c (List.mem_of_getElem? hc))⟩
theorem U8{aH:Nat->ax}{w':World}{m:Nat}(k:Wr V hp w m aH w')(mm:Mem base M w0 V hp w){s:S}{v:Value}(h:S.ok V hp w (S.map (dj m) s) v):S.ok V aH w' (S.map (dj m) s) v:=by
 have hk:∀ c,Oe m (dj m c):=by
  intro c e xs he
  cases c<;>simp only[dj] at he<;>first|(cases he;done)|skip
  split at he
  ·cases he
  ·rename_i hn;injection he with h1;exact hn h1
 have eH:∀ cs:List C,∀ c∈lmap (dj m) cs,Oe m c:=by
  intro cs c hc
  rw[bt,List.mem_map] at hc
  obtain⟨x,_,rfl⟩:=hc
  exact hk x
 cases s with
 | c x=>exact k.ok mm h (hk x)
 | agg cs=>obtain⟨vs,h1,h2⟩:=h;exact⟨vs,h1,uH k mm h2 (eH cs)⟩
 | m_ xs =>
   obtain⟨vs,h1,h2,h3⟩:=h
   refine⟨vs,h1,h2,fun j y v hy hv=>?_⟩
   have h4:=h3 j y v hy hv
   rw[bt,List.getElem?_map] at hy
   cases hx:xs[j]? with
   | none=>rw[hx] at hy;cases hy
   | some x =>
     rw[hx] at hy
     simp only[Option.map_some,Option.some.injEq] at hy
     subst hy
     unfold eZ at h4 ⊢
     simp only at h4 ⊢
     split
     ·rename_i hb;rw[if_pos hb] at h4;obtain⟨us,k1,k2⟩:=h4;exact⟨us,k1,uH k mm k2 (eH x.2)⟩
     ·rename_i hb;rw[if_neg hb] at h4;exact uH k mm h4 (eH x.2)
 | ew=>exact h
 | any=>trivial
 | arr e xs=>exact S.sX h
theorem De{st:St}{ts:Array Value}(r:Rel base M w0 V st ts w){m:Nat}{e':ax}{w':World}(k:Wr V st.au w m (az st.au m e') w')(eY:e'.live=true)
 (gS:Kept base M w0 w') (cv:w'.heap.size=w.heap.size) (eB:e'.ok V (az (bF (dj m) st.au) m e') w' m) (jQ:∀ e xs,e' = .row true e xs->base<=V.aE m) (gR:∀ cs,e' = .bx cs->V.has m) (Ju:e'.fH->M.nm (V.aE m) m) (Av:V.has m->∀ i∈e'.fL,m=0->M i) :
 Rel base M w0 V { (st.map (dj m)) with hp:=bD (st.map (dj m)).hp m e' } ts w':=by
 have r1:=r.kill (Hf m)
 have mm:=r1.mem
 have hl:(st.au m).live=true:=by rcases k.kind with ⟨cs,_,h,_⟩|⟨_,_,_,_,_,h,_⟩<;>rw[h]<;>rfl
 have aZ:m<st.hp.length:=gP hl
 have dS:(St.mk (st.map (dj m)).ts (bD (st.map (dj m)).hp m e')).au=az (bF (dj m) st.au) m e':=by
  rw[gj (by show m<(lmap _ _).length;rw[bt,List.length_map];exact aZ)]
  congr 1
  exact il st _
 rw[il] at mm
 have k':Wr V (bF (dj m) st.au) w m (az (bF (dj m) st.au) m e') w':=by
  refine⟨fun n hn=>by simp only[az,if_neg hn],k.aE,k.has,?_⟩
  rcases k.kind with ⟨cs,cp,h1,h2⟩|⟨fr,aV,e,xs,a_,h1,h2,h3⟩
  ·refine .inl ⟨lmap (dj m) cs,cp,by show (st.au m).map _=_;rw[h1];rfl,?_⟩
   simp only[az,if_true] at h2 ⊢;exact h2
  ·refine .inr ⟨fr,aV,e,xs,a_,by show (st.au m).map _=_;rw[h1];rfl,?_,h3⟩
   simp only[az,if_true] at h2 ⊢;exact h2
 have ei:∀ n,(az (bF (dj m) st.au) m e' n).live=true->(bF (dj m) st.au n).live=true:=by
  intro n h
  by_cases hn:n=m
  ·subst hn;show ((st.au n).map _).live=true;rw[lM];exact hl
  ·simp only[az,if_neg hn] at h;exact h
 refine⟨r1.len,fun i s v hs hv=>?_,?_⟩
 ·rw[dS]
  have h0:=r1.fI i s v hs hv
  rw[il] at h0
  have aW:(lmap (S.map (dj m)) st.ts)[i]? = some s:=hs
  rw[bt,List.getElem?_map] at aW
  cases hx:st.ts[i]? with
  | none=>rw[hx] at aW;cases aW
  | some x =>
    rw[hx] at aW
    simp only[Option.map_some,Option.some.injEq] at aW
    subst aW
    exact U8 k' mm h0
 ·rw[dS]
  refine⟨fun n=>?_,fun n cs h=>?_,fun n dm hh=>?_,fun n e xs h hh=>?_,fun n n' h1 h2 hh lX he=>mm.fw n n' (ei n h1) (ei n' h2) hh lX he,mm.z0,fun b hb=>?_,gS,fun n dm hh=>?_,fun b hb=>?_,fun n hh i hi=>?_⟩
  ·by_cases hn:n=m
   ·subst hn
    have:az (bF (dj n) st.au) n e' n=e':=by simp only[az,if_true]
    rw[this];exact eB
   ·have hv:az (bF (dj m) st.au) m e' n=(st.au n).map (dj m):=by simp only[az,if_neg hn];rfl
    have h1:=mm.ck n
    rw[hv]
    have je:((st.au n).map (dj m)).ok V (bF (dj m) st.au) w n:=h1
    cases bb:st.au n with
    | dead=>trivial
    | bx cs =>
      rw[bb] at je
      obtain⟨aq,el,h2,h3⟩:=je
      have sB:V.has n:=r.mem.box n cs bb
      refine⟨aq,el,?_,?_⟩
      ·rw[k.aE _ (fun e=>hn (r.mem.fw n m (by rw[bb];rfl) hl sB k.has e))];exact h2
      ·refine uH k' mm h3 (fun c hc=>?_)
       rw[bt,List.mem_map] at hc
       obtain⟨x,_,rfl⟩:=hc
       intro e xs he
       cases x<;>simp only[dj] at he<;>first|(cases he;done)|skip
       split at he
       ·cases he
       ·rename_i jX;injection he with h1;exact jX h1
    | row fr e xs =>
      rw[bb] at je
      rcases je with h2|⟨h2,aq,el,h3,h4,h5⟩
      ·exact .inl h2
      ·refine .inr ⟨h2,aq,el,?_,h4,fun i hi=>?_⟩
       ·rw[k.aE _ (fun e=>hn (r.mem.fw n m (by rw[bb];rfl) hl h2 k.has e))];exact h3
       ·obtain⟨es,q1,q2,q3⟩:=h5 i hi
        exact⟨es,q1,q2,q3.mono (fun _ h=>h) (fun b hb=>k'.z mm hb)⟩
  ·by_cases hn:n=m
   ·subst hn
    have:az (bF (dj n) st.au) n e' n=e':=by simp only[az,if_true]
    rw[this] at h
    exact gR cs h
   ·simp only[az,if_neg hn] at h
    exact mm.box n cs h
  ·rw[cv]
   exact mm.own n (ei n dm) hh
  ·by_cases hn:n=m
   ·subst hn
    have:az (bF (dj n) st.au) n e' n=e':=by simp only[az,if_true]
    rw[this] at h
    exact jQ e xs h
   ·simp only[az,if_neg hn] at h
    exact mm.eK n e xs h hh
  ·rw[cv];exact mm.z1 b hb
  ·by_cases hn:n=m
   ·subst hn
    simp only[az,if_true] at dm
    exact Ju dm
   ·simp only[az,if_neg hn] at dm
    exact mm.lL n dm hh
  ·obtain⟨q1,q2⟩:=mm.lr b hb
   refine⟨?_,q2⟩
   by_cases hn:0=m
   ·subst hn
    simp only[az,if_true]
    rcases k.kind with ⟨cs,cp,h1,h2⟩|⟨fr,aV,e,xs,a_,h1,h2,h3⟩
    ·simp only[az,if_true] at h2
     rw[h2];rfl
    ·have Ua:((st.au 0).map (dj 0)).lK=true:=q1
     rw[n7,h1] at Ua
     cases Ua
   ·simp only[az,if_neg hn]
    exact q1
  ·by_cases hn:n=m
   ·subst hn
    simp only[az,if_true] at hi
    exact Av hh i hi
   ·simp only[az,if_neg hn] at hi
    exact mm.fL n hh i hi
theorem sF(k:Kept base M w0 w){g:Nat}(hg:base<=g\/M g)(cs:Array Value)(hs:∀ aq el,w.heap[g]? = some (.cells aq el (0,0))->cs.size=aq.size):Kept base M w0 (w.setRow g cs) where
 os:=k.os
 tape:=k.tape
 output:=k.output
 size:=by rw[setRow_size];exact k.size
 block b hb hm:=by
  rw[gM w g b cs (fun e=>by subst e;rcases hg with h|h;exact absurd hb (by omega);exact hm h)]
  exact k.block b hb hm
 shape b aq el hb hm hv:=by
  obtain⟨bn,eg,h1,h2⟩:=k.shape b aq el hb hm hv
  by_cases v5:b=g
  ·subst v5
   exact⟨cs,eg,setRow_heap w b bn cs eg (0,0) h1,by rw[hs _ _ h1,h2]⟩
  ·exact⟨bn,eg,by rw[gM w g b cs v5];exact h1,h2⟩
end
end Go.SX
/- Stores, literals of what the call owns. No condition. -/
namespace Go.SX
open Go.RowKit
set_option linter.unusedVariables false
set_option linter.unusedSimpArgs false
section
variable {P : Program} {T : bN} {base : Nat} {M : LM} {w0 : World} {V : Vl} {w : World} {a : Act} {next : Act → World → Prop} {Q : Exit → Act → World → Prop}
theorem vv{st:St}{ts:Array Value}(r:Rel base M w0 V st ts w){m:Nat}{cs cp:List C}{w':World}(hm:st.au m = .bx cs)(iN:∀ b,b≠V.aE m->w'.heap[b]? = w.heap[b]?)
 (gS:Kept base M w0 w') (cv:w'.heap.size=w.heap.size) {aq:Array Value} {el:TypeId} (hc:w'.heap[V.aE m]? = some (.cells aq el (0,0))) (eB:bz V st.au w cp aq.toList) :
 Rel base M w0 V { st with hp:=bD st.hp m (.bx cp) } ts w':=by
 have mm:=r.mem
 have hl:(st.au m).live=true:=by rw[hm];rfl
 have dS:(St.mk st.ts (bD st.hp m (.bx cp))).au=az st.au m (.bx cp):=gj (gP hl) _ _
 have k:Wr V st.au w m (az st.au m (.bx cp)) w':=⟨fun n hn=>by simp only[az,if_neg hn],iN,mm.box m cs hm,.inl ⟨cs,cp,hm,by simp only[az,if_true]⟩⟩
 have nb:∀ {c:C} {v:Value},C.ok V st.au w c v->Oe m c:=by
  intro c v h e xs he
  subst he
  obtain⟨⟨fr,e',ys,h1⟩,_⟩:=h
  rw[hm] at h1;cases h1
 have AK:∀ {cs:List C} {vs:List Value},bz V st.au w cs vs->bz V (az st.au m (.bx cp)) w' cs vs:=by
  intro cs vs h
  exact⟨h.1,fun j c v hc hv=>k.ok mm (h.2 j c v hc hv) (nb (h.2 j c v hc hv))⟩
 have ei:∀ n,(az st.au m (.bx cp) n).live=true->(st.au n).live=true:=by
  intro n h
  by_cases hn:n=m
  ·subst hn;exact hl
  ·simp only[az,if_neg hn] at h;exact h
 refine⟨r.len,fun i s v hs hv=>?_,?_⟩
 ·rw[dS]
  have h0:=r.fI i s v hs hv
  cases s with
  | c x=>exact k.ok mm h0 (nb h0)
  | agg cs=>obtain⟨vs,h1,h2⟩:=h0;exact⟨vs,h1,AK h2⟩
  | m_ xs =>
    obtain⟨vs,h1,h2,h3⟩:=h0
    refine⟨vs,h1,h2,fun j y v hy hv=>?_⟩
    have h4:=h3 j y v hy hv
    unfold eZ at h4 ⊢
    split
    ·rename_i hb;rw[if_pos hb] at h4;obtain⟨us,k1,k2⟩:=h4;exact⟨us,k1,AK k2⟩
    ·rename_i hb;rw[if_neg hb] at h4;exact AK h4
  | ew=>exact h0
  | any=>trivial
  | arr e xs=>exact S.sX h0
 ·rw[dS]
  refine⟨fun n=>?_,fun n QA h=>?_,fun n dm hh=>?_,fun n e xs h hh=>?_,fun n n' h1 h2 hh lX he=>mm.fw n n' (ei n h1) (ei n' h2) hh lX he,mm.z0,fun b hb=>?_,gS,fun n dm hh=>?_,fun b hb=>?_,fun n hh i hi=>?_⟩
  ·by_cases hn:n=m
   ·subst hn
    have:az st.au n (.bx cp) n = .bx cp:=by simp only[az,if_true]
    rw[this];exact⟨aq,el,hc,AK eB⟩
   ·have hv:az st.au m (.bx cp) n=st.au n:=by simp only[az,if_neg hn]
    have h1:=mm.ck n
    rw[hv]
    cases bb:st.au n with
    | dead=>trivial
    | bx QA =>
      rw[bb] at h1
      obtain⟨de,jP,h2,h3⟩:=h1
      refine⟨de,jP,?_,AK h3⟩
      rw[iN _ (fun e=>hn (mm.fw n m (by rw[bb];rfl) hl (mm.box n QA bb) (mm.box m cs hm) e))];exact h2
    | row fr e xs =>
      rw[bb] at h1
      rcases h1 with h2|⟨h2,de,jP,h3,h4,h5⟩
      ·exact .inl h2
      ·refine .inr ⟨h2,de,jP,?_,h4,fun i hi=>?_⟩
       ·rw[iN _ (fun e=>hn (mm.fw n m (by rw[bb];rfl) hl h2 (mm.box m cs hm) e))];exact h3
       ·obtain⟨es,q1,q2,q3⟩:=h5 i hi
        exact⟨es,q1,q2,q3.mono (fun _ h=>h) (fun b hb=>k.z mm hb)⟩
  ·by_cases hn:n=m
   ·subst hn;exact mm.box n cs hm
   ·simp only[az,if_neg hn] at h
    exact mm.box n QA h
  ·rw[cv]
   exact mm.own n (ei n dm) hh
  ·by_cases hn:n=m
   ·subst hn
    have:az st.au n (.bx cp) n = .bx cp:=by simp only[az,if_true]
    rw[this] at h;cases h
   ·simp only[az,if_neg hn] at h
    exact mm.eK n e xs h hh
  ·rw[cv];exact mm.z1 b hb
  ·by_cases hn:n=m
   ·subst hn
    simp only[az,if_true] at dm
    exact dm.elim
   ·simp only[az,if_neg hn] at dm
    exact mm.lL n dm hh
  ·obtain⟨q1,q2⟩:=mm.lr b hb
   refine⟨?_,q2⟩
   by_cases hn:0=m
   ·simp only[az,if_pos hn];rfl
   ·simp only[az,if_neg hn];exact q1
  ·by_cases hn:n=m
   ·subst hn
    simp only[az,if_true] at hi
    cases hi
   ·simp only[az,if_neg hn] at hi
    exact mm.fL n hh i hi
theorem H2{hp:Nat->ax}{v:Value}(h:v.oneCell'=true):C.ok V hp w (cell v) v:=by
 unfold cell
 split
 ·exact rfl
 ·exact rfl
 ·split
  ·rename_i hk;exact⟨rfl,hk⟩
  ·exact h
 ·split
  ·rename_i hk;exact⟨rfl,hk⟩
  ·exact h
 ·exact⟨rfl,rfl,rfl,rfl⟩
 ·exact⟨rfl,trivial⟩
 ·exact h
theorem FL{hp:Nat->ax}(v:Value):S.ok V hp w (S.ofConst v) v:=by
 unfold S.ofConst
 split
 ·rename_i cs
  split
  ·rename_i hc
   rw[dG,List.all_eq_true] at hc
   refine⟨cs,rfl,?_⟩
   rw[bt]
   refine⟨by simp,fun j c v hj hv=>?_⟩
   rw[List.getElem?_map] at hj
   rw[hv] at hj
   simp only[Option.map_some,Option.some.injEq] at hj
   rw[<-hj]
   exact H2 (hc v (List.mem_of_getElem? hv))
  ·trivial
 ·trivial
 ·rename_i h1 h2
  refine H2 ?_
  cases v<;>first|rfl|exact absurd rfl (h1 _)|exact absurd rfl (h2 _)
theorem Rel.eval{st:St}(r:Rel base M w0 V st a.tmps w):∀ x,S.ok V st.au w (st.eval x) (a.eval x):=by
 intro x
 cases x with
 | tmp t =>
   show S.ok V st.au w (nth .any st.ts t) (a.tmps.getD t undef)
   rw[cB]
   cases hs:st.ts[t]? with
   | none=>trivial
   | some s =>
     have ht:t<a.tmps.size:=by have:=(List.getElem?_eq_some_iff.1 hs).1;rw[r.len] at this;exact this
     have hv:a.tmps[t]? = some a.tmps[t]:=Array.getElem?_eq_getElem ht
     have:=r.fI t s _ hs hv
     simpa[Array.getD,ht] using this
 | const v =>
   exact FL v
 | global g=>trivial
 | func f=>exact⟨rfl,fun n hn=>by simp at hn⟩
end
end Go.SX
/- Operations that write: stores, literals of what the call owns. No condition. -/
namespace Go.SX
open Go.RowKit
set_option linter.unusedVariables false
set_option linter.unusedSimpArgs false
theorem o4(st:St)(es:List ax):(st.alloc es).au=db st.au (aL st.hp) es:=by
 funext n
 show nth .dead (cM st.hp es) n=db st.au (aL st.hp) es n
 unfold db
 rw[cB,bT,cy]
 split
 ·rename_i h
  rw[List.getElem?_append_left h]
  show _=nth .dead st.hp n
  rw[cB]
 ·rename_i h
  rw[List.getElem?_append_right (by omega)]
  cases he:es[n-st.hp.length]? with
  | some e=>rfl
  | none =>
    show ax.dead=nth .dead st.hp n
    rw[cB,List.getElem?_eq_none (by omega)]
    rfl
theorem lE(st:St)(j:Nat):st.au (aL st.hp+j) = .dead:=by
 show nth .dead st.hp _=_
 rw[cB,cy,List.getElem?_eq_none (by omega)]
 rfl
section
variable {P : Program} {T : bN} {base : Nat} {M : LM} {w0 : World} {V : Vl} {w : World} {a : Act} {next : Act → World → Prop} {Q : Exit → Act → World → Prop}
theorem iU{st:St}{ts:Array Value}(r:Rel base M w0 V st ts w){res:S}{es:List ax}{hy:Option Prop}{v:Value}{w':World}{V':Vl}(g:Good base M w0 V st.au w (aL st.hp) res es hy v w' V') :
 Rel base M w0 V' (st.alloc es) ts w'/\S.ok V' (st.alloc es).au w' res v:=by
 rw[o4]
 exact⟨⟨r.len,fun i s v hs hv=>by rw[o4];exact S.ka g.vx (r.fI i s v hs hv),by rw[o4];exact g.mem⟩,g.res⟩
theorem PA(st:St)(d:Option Nat)(s:S):(st.put d s).au=st.au:=by
 cases d<;>rfl
theorem oe{st:St}(r:Rel base M w0 V st a.tmps w){s:S}{v:Value}(h:S.ok V st.au w s v)(dst:Option Nat):Rel base M w0 V (st.put dst s) (a.put dst v).tmps w:=by
 cases dst with
 | none=>exact r
 | some d =>
   refine⟨by show (bD st.ts d s).length=(a.tmps.setIfInBounds d v).size;rw[eS];simp[r.len],fun i s' v' hs hv=>?_,r.mem⟩
   have aW:(bD st.ts d s)[i]? = some s':=hs
   have cd:(a.tmps.setIfInBounds d v)[i]? = some v':=hv
   rw[eS,List.getElem?_set] at aW
   rw[Array.getElem?_setIfInBounds] at cd
   split at aW
   ·rename_i hd
    rw[if_pos hd] at cd
    split at aW
    ·rename_i aZ
     rw[if_pos (by rw[<-r.len];exact aZ)] at cd
     injection aW with aW;injection cd with cd
     subst aW;subst cd
     exact h
    ·cases aW
   ·rename_i hd
    rw[if_neg hd] at cd
    exact r.fI i s' v' aW cd
theorem gW.ck{st:St}{ts:Array Value}(r:Rel base M w0 V st ts w):gW V st.au st.au w:=fun n _=>⟨rfl,r.mem.ck n⟩
theorem uS(l x:List Value)(o k:Nat)(h:o+x.length<=l.length):(l.take o++x++l.drop (o+x.length))[k]? = if k<o then l[k]? else if k<o+x.length then x[k-o]? else l[k]? := by
 have ht:(l.take o).length=o:=by rw[List.length_take];omega
 rw[List.append_assoc]
 split
 ·rename_i hk
  rw[List.getElem?_append_left (by rw[ht];exact hk),List.getElem?_take,if_pos hk]
 ·rename_i hk
  rw[List.getElem?_append_right (by rw[ht];omega),ht]
  split
  ·rename_i gS
   rw[List.getElem?_append_left (by omega)]
  ·rename_i gS
   rw[List.getElem?_append_right (by omega),List.getElem?_drop]
   congr 1;omega
theorem wz{hp:Nat->ax}{cs xs:List C}{vs us:List Value}{off:Nat}(h:bz V hp w cs vs)(k:bz V hp w xs us):bz V hp w (pk cs off xs) (vs.take off++us++vs.drop (off+us.length)):=by
 unfold pk
 rw[bT,bT,j8,j7,cy,<-List.append_assoc,k.1]
 exact gq (gq (kv h off) k) (ku h _)
theorem upon_skip{o:Oper}{t:TypeId}{p x:Operand}(ho:o.op = .store t p x){w':World}(hr:(Instr.storeAt t (a.eval p) (a.eval x)).run P w = .ok () w')(h:next (a.put o.dst undef) w'):o.wp P a w next Q:=by
 unfold Oper.wp execOp
 simp only[ho,Sem.run_bind,hr,Result.andThen_ok,Sem.run_pure]
 exact h
def xf:C->List Nat
 | .rg _ wh e b xs=>ids (.gs wh e) (b,xs)
 | .rd _ e xs=>bV e xs
 | _=>[]
theorem tq:∀(t:Ty) (d:t.den),ids t.cc (bu t d)=[]
 | .gs _ e,d=>by
   show (d.2.map (bu e)).flatMap (ids e.cc)=[]
   rw[List.flatMap_eq_nil_iff]
   intro x hx
   obtain⟨y,_,rfl⟩:=List.mem_map.1 hx
   exact tq e y
 | .sl e,d=>by
   show (List.map (bu e) d).flatMap (ids e.cc)=[]
   rw[List.flatMap_eq_nil_iff]
   intro x hx
   obtain⟨y,_,rfl⟩:=List.mem_map.1 hx
   exact tq e y
 | .st t,d=>tq t d
 | .pr a b,d=>by show ids a.cc (bu a d.1)++ids b.cc (bu b d.2)=[];rw[tq a,tq b];rfl
 | .int _,_=>rfl
 | .bool,_=>rfl
 | .str,_=>rfl
 | .ptr _,_=>rfl
 | .bZ _ _,_=>rfl
theorem PH(e:Ty)(xs:List e.den):bV e.cc (gG e xs)=[]:=tq (.sl e) xs
theorem l6:∀(t:Ty),t.bU=false->∀ d:t.den,ids t d=[]
 | .gs _ _,h,_=>by cases h
 | .sl e,h,d=>by
   show List.flatMap (ids e) d=[]
   rw[List.flatMap_eq_nil_iff]
   intro x _
   exact l6 e h x
 | .st t,h,d=>l6 t h d
 | .pr a b,h,d=>by
   have h':(a.bU||b.bU)=false:=h
   rw[Bool.or_eq_false_iff] at h'
   show ids a d.1++ids b d.2=[]
   rw[l6 a h'.1,l6 b h'.2];rfl
 | .int _,_,_=>rfl
 | .bool,_,_=>rfl
 | .str,_,_=>rfl
 | .ptr _,_,_=>rfl
 | .bZ _ _,_,_=>rfl
theorem um:∀ {t:Ty},t.flat=true->t.bU=false
 | .gs _ _,h=>by cases h
 | .sl _,h=>by cases h
 | .st t,h=>um (t:=t) h
 | .pr a b,h=>by
   have h':(a.flat&&b.flat)=true:=h
   rw[Bool.and_eq_true] at h'
   show (a.bU||b.bU)=false
   rw[um h'.1,um h'.2];rfl
 | .int _,_=>rfl
 | .bool,_=>rfl
 | .str,_=>rfl
 | .ptr _,_=>rfl
 | .bZ _ _,_=>rfl
theorem Bs{c:C}(h:c.AM=true):xf c=[]:=by
 cases c<;>first|rfl|(cases h;done)|skip
 rename_i fr e xs
 have h':(!e.bU)=true:=h
 have h2:e.bU=false:=by simpa using h'
 exact l6 (.sl e) h2 xs
theorem HX{e' e:Ty}{xs:List e'.den}{ys:List e.den}(k:kS e' e xs=some ys):∀ i∈bV e ys,i∈bV e' xs:=by
 unfold kS at k
 split at k
 ·rename_i hk;subst hk;injection k with k;subst k;exact fun i h=>h
 ·split at k
  ·rename_i hk;subst hk;injection k with k;subst k
   intro i hi
   have c7:i∈bV e'.cc (gG e' xs):=hi
   rw[PH] at c7
   cases c7
  ·cases k
theorem JH{wh sg:Bool}{e:Ty}{b:Nat}{xs:List e.den}{i:Nat}(h:i∈ids (.gs wh e) (b,xs)):i∈ids (.gs sg e) (b,xs):=by
 cases xs with
 | nil=>cases h
 | cons x xr=>exact h
theorem LB{wh:Bool}{e:Ty}{b:Nat}{xs:List e.den}{i:Nat}(h:i∈bV e xs):i∈ids (.gs wh e) (b,xs):=by
 cases xs with
 | nil=>cases h
 | cons x xr=>exact List.mem_cons_of_mem _ h
theorem r6{lk:Nat->ax}:∀(t:Ty) {cs:List C} {d:t.den} {rest:List C},gA lk t cs=some (d,rest)->(∀ c∈cs,c.dI=true) →
 (∀ i∈ids t d,∃ c∈cs,i∈xf c)/\∀ c∈rest,c∈cs
 | .int k,cs,d,rest,h,_=>by obtain⟨c,rfl,_⟩:=bX h;exact⟨fun i hi=>(nomatch hi),fun c hc=>List.mem_cons_of_mem _ hc⟩
 | .bool,cs,d,rest,h,_=>by obtain⟨c,rfl,_⟩:=bX h;exact⟨fun i hi=>(nomatch hi),fun c hc=>List.mem_cons_of_mem _ hc⟩
 | .str,cs,d,rest,h,_=>by obtain⟨c,rfl,_⟩:=bX h;exact⟨fun i hi=>(nomatch hi),fun c hc=>List.mem_cons_of_mem _ hc⟩
 | .ptr t,cs,d,rest,h,_=>by obtain⟨c,rfl,_⟩:=bX h;exact⟨fun i hi=>(nomatch hi),fun c hc=>List.mem_cons_of_mem _ hc⟩
 | .bZ f t,cs,d,rest,h,_=>by obtain⟨c,rfl,_⟩:=bX h;exact⟨fun i hi=>(nomatch hi),fun c hc=>List.mem_cons_of_mem _ hc⟩
 | .sl e,cs,d,rest,h,hn=>by
   obtain⟨c,rfl,hc⟩:=bX h
   refine⟨fun i hi=>⟨c,List.mem_cons_self ..,?_⟩,fun c hc=>List.mem_cons_of_mem _ hc⟩
   have h0:=hn c (List.mem_cons_self ..)
   have hi:i∈bV e d:=hi
   unfold oc at hc
   split at hc
   ·exact HX hc i hi
   ·cases h0
   ·cases h0
   ·cases h0
   ·rename_i SI _ _ _;exact LB (wh:=SI) (HX hc i hi)
   ·injection hc with hc;subst hc;cases hi
   ·cases hc
 | .gs wh e,cs,d,rest,h,hn=>by
   obtain⟨c,rfl,hc⟩:=bX h
   refine⟨fun i hi=>⟨c,List.mem_cons_self ..,?_⟩,fun c hc=>List.mem_cons_of_mem _ hc⟩
   unfold Mp at hc
   split at hc
   ·split at hc
    ·rename_i hk
     subst hk
     split at hc
     ·cases hc
     ·rename_i SI _ _ _ _;injection hc with hc;subst hc;exact JH (sg:=SI) hi
    ·cases hc
   ·injection hc with hc;subst hc;cases hi
   ·cases hc
 | .st t,cs,d,rest,h,hn=>r6 t h hn
 | .pr a b,cs,d,rest,h,hn=>by
   unfold gA at h
   cases ha:gA lk a cs with
   | none=>simp[ha] at h
   | some x =>
     obtain⟨x,r⟩:=x
     simp only[ha] at h
     cases hb:gA lk b r with
     | none=>simp[hb] at h
     | some y =>
       obtain⟨y,r'⟩:=y
       simp only[hb,Option.some.injEq,Prod.mk.injEq] at h
       obtain⟨rfl,rfl⟩:=h
       obtain⟨h1,h2⟩:=r6 a ha hn
       obtain⟨h3,h4⟩:=r6 b hb (fun c hc=>hn c (h2 c hc))
       refine⟨fun i hi=>?_,fun c hc=>h2 c (h4 c hc)⟩
       rcases List.mem_append.1 hi with hi|hi
       ·exact h1 i hi
       ·obtain⟨c,hc,Tx⟩:=h3 i hi
        exact⟨c,h2 c hc,Tx⟩
theorem Hu{lk:Nat->ax}{t:Ty}{cs:List C}{d:t.den}(h:readAll lk t cs=some d)(hn:∀ c∈cs,c.dI=true):∀ i∈ids t d,∃ c∈cs,i∈xf c:=by
 unfold readAll at h
 split at h
 ·rename_i d' hr
  injection h with h;subst h
  exact (r6 t hr hn).1
 ·cases h
theorem pY(fr:Bool):∀(t:Ty) (d:t.den),∀ c∈expand fr t d,∀ i∈xf c,i∈ids t d
 | .int _,_,c,hc,i,hi=>by simp[expand] at hc;subst hc;cases hi
 | .bool,_,c,hc,i,hi=>by simp[expand] at hc;subst hc;cases hi
 | .str,_,c,hc,i,hi=>by simp[expand] at hc;subst hc;cases hi
 | .ptr _,_,c,hc,i,hi=>by simp[expand] at hc;subst hc;cases hi
 | .bZ _ _,_,c,hc,i,hi=>by simp[expand] at hc;subst hc;cases hi
 | .sl e,d,c,hc,i,hi=>by simp[expand] at hc;subst hc;exact hi
 | .gs wh e,d,c,hc,i,hi=>by simp[expand] at hc;subst hc;exact hi
 | .st t,d,c,hc,i,hi=>pY fr t d c hc i hi
 | .pr a b,d,c,hc,i,hi=>by
   have hc:c∈cM (expand fr a d.1) (expand fr b d.2):=hc
   rw[bT] at hc
   rcases List.mem_append.1 hc with hc|hc
   ·exact List.mem_append_left _ (pY fr a d.1 c hc i hi)
   ·exact List.mem_append_right _ (pY fr b d.2 c hc i hi)
theorem Mx{lk:Nat->ax}{e:Ty}{ys:List e.den}{i off:Nat}{xs:List C}{y:e.den}(hi:i<ys.length)(hy:readAll lk e (pk (expand false e (ys.getD i e.fe)) off xs)=some y)
 (hn:∀ c∈xs,c.dI=true) (ht:∀ c∈xs,c.AM=true):∀ k∈bV e (ys.set i y),k∈bV e ys:=by
 have Jv:∀ c∈pk (expand false e (ys.getD i e.fe)) off xs,c∈expand false e (ys.getD i e.fe)\/c∈xs:=by
  intro c hc
  unfold pk at hc
  rw[bT,bT,j8,j7,List.mem_append,List.mem_append] at hc
  rcases hc with hc|hc|hc
  ·exact .inl (List.mem_of_mem_take hc)
  ·exact .inr hc
  ·exact .inl (List.mem_of_mem_drop hc)
 have WY:∀ k∈ids e y,k∈bV e ys:=by
  intro k hk
  obtain⟨c,hc,Rl⟩:=Hu hy (fun c hc=>by
   rcases Jv c hc with h|h
   ·exact (x_ false e _ c h).1
   ·exact hn c h) k hk
  rcases Jv c hc with h|h
  ·have:=pY false e _ c h k Rl
   rw[tb _ hi] at this
   exact List.mem_flatMap.2 ⟨_,List.getElem_mem hi,this⟩
  ·rw[Bs (ht c h)] at Rl
   cases Rl
 intro k hk
 obtain⟨x,hx,TN⟩:=List.mem_flatMap.1 hk
 rcases List.mem_or_eq_of_mem_set hx with hx|rfl
 ·exact List.mem_flatMap.2 ⟨x,hx,TN⟩
 ·exact WY k TN
theorem KZ(hT:bP P T){st:St}(r:Rel base M w0 V st a.tmps w){o:Oper}{t:TypeId}{p x:Operand}(ho:o.op = .store t p x){er:ER}(h:Af T st t p x=some er) :
 er.ob=none/\((∀ w' V',Rel base M w0 V' er.st a.tmps w'->S.ok V' er.st.au w' er.res undef->next (a.put o.dst undef) w')->o.wp P a w next Q):=by
 unfold Af at h
 cases hn:uR T t with
 | none=>rw[hn] at h;simp at h
 | some n =>
   have yl:∃ ti,T t=some ti/\ti.size=n:=by
    unfold uR at hn;cases Tv:T t with
    | none=>rw[Tv] at hn;cases hn
    | some ti=>rw[Tv] at hn;simp only[omap,Option.some.injEq] at hn;exact⟨ti,rfl,hn⟩
   obtain⟨ti,ht,CW⟩:=yl
   have hb:=hT t ti ht
   rw[hn] at h
   split at h
   ·rename_i n' m off xs Lq fb CX
    simp only[Option.some.injEq] at Lq
    subst Lq
    split at h
    ·rename_i cs hm
     split at h
     ·rename_i hc
      injection h with h;subst h
      refine⟨rfl,fun lY=>?_⟩
      have yk:=r.eval p
      rw[fb] at yk
      obtain⟨e1,hh,_⟩:=yk
      have eB:=r.mem.ck m
      rw[hm] at eB
      obtain⟨aq,el,g1,g2⟩:=eB
      have qY:=tW CX (r.eval x)
      simp only[cy] at hc
      have cv:(a.eval x).cells.size=n:=by have:=qY.1;rw[hc.1] at this;simpa using this.symm
      have vr:aq.size=cs.length:=by have:=g2.1;simpa using this.symm
      have kO:∀ v∈(a.eval x).cells.toList,v.oneCell'=true:=by
       intro v hv
       obtain⟨j,hj,rfl⟩:=List.getElem_of_mem hv
       exact C.cO (qY.2 j (xs[j]'(by rw[qY.1];exact hj)) _ (List.getElem?_eq_getElem _) (List.getElem?_eq_getElem _))
      have dM:=sL hb w (V.aE m) off aq el (a.eval x) (by rw[cv,CW]) g1 (by omega) kO
      rw[<-e1] at dM
      have kP:=r.mem.own m (by rw[hm];rfl) hh
      refine upon_skip ho dM (lY _ V ?_ rfl)
      exact vv r hm (fun b hb=>gM w _ b _ hb) (sF r.mem.kept kP.1 _ (fun v2 e2 h2=>by rw[g1] at h2;injection h2 with h2;injection h2 with h2 _ _;subst h2;simp only[List.size_toArray,List.length_append,List.length_take,List.length_drop,Array.length_toList,cv];omega)) (setRow_size _ _ _) (setRow_heap w _ aq _ el (0,0) g1) (by simpa using wz g2 qY)
     ·cases h
    ·cases h
   ·rename_i n' m0 i0 XM Pe Lq Lr X_
    simp only[Option.some.injEq] at Lq
    subst Lq
    simp only at h
    obtain⟨V1,r1⟩:=r.ba (ji Pe)
    split at h
    ·rename_i m i off xs fb CX
     split at h
     ·rename_i fr e ys hm
      split at h
      ·rename_i hc
       split at h
       ·rename_i y hy
        injection h with h;subst h
        refine⟨rfl,fun lY=>?_⟩
        generalize UT:st.ba (ji Pe)=dY at *
        have yk:=r1.eval p
        rw[fb] at yk
        obtain⟨hh,aV,e',G8,q1,hi,e1⟩:=yk
        rw[hm] at q1
        injection q1 with q2 q3 q4
        subst q2;subst q3;cases q4
        have eB:=r1.mem.ck m
        rw[hm] at eB
        have qY:=tW CX (r1.eval x)
        simp only[cy,dG,List.all_eq_true] at hc
        obtain⟨c1,c2,c3,c4⟩:=hc
        have cv:(a.eval x).cells.toList.length=n:=by rw[<-qY.1,c1]
        have sD:(a.eval x).cells.size=n:=by simpa using cv
        have kO:∀ v∈(a.eval x).cells.toList,v.oneCell'=true:=by
         intro v hv
         obtain⟨j,hj,rfl⟩:=List.getElem_of_mem hv
         exact C.cO (qY.2 j (xs[j]'(by rw[qY.1];exact hj)) _ (List.getElem?_eq_getElem _) (List.getElem?_eq_getElem _))
        rcases eB with ⟨k1,_⟩|⟨_,aq,el,k2,k3,k4⟩
        ·exact absurd hh k1
        ·obtain⟨es,g1,g2,g3⟩:=k4 i hi
         have rQ:i*e.size+e.size<=aq.size:=by
          have SU:=g2 (e.size-1) (es[e.size-1]'(by have:=e.size_pos;omega)) (List.getElem?_eq_getElem _)
          have:=(Array.getElem?_eq_some_iff.1 SU).1
          have:=e.size_pos
          omega
         have dM:=sL hb w (V1.aE m) (i*e.size+off) aq el (a.eval x) (by rw[sD,CW]) k2 (by omega) kO
         rw[<-e1] at dM
         have kP:=r1.mem.own m (by rw[hm];rfl) hh
         have jY:=setRow_heap w (V1.aE m) aq (aq.toList.take (i*e.size+off)++(a.eval x).cells.toList++aq.toList.drop (i*e.size+off+(a.eval x).cells.toList.length)).toArray el (0,0) k2
         have vq:(aq.toList.take (i*e.size+off)++(a.eval x).cells.toList++aq.toList.drop (i*e.size+off+(a.eval x).cells.toList.length)).length=aq.size:=by
          simp only[List.length_append,List.length_take,List.length_drop,Array.length_toList,sD];omega
         have qX:(fr&&(e.flat||df C.ek xs))=true->fr=true:=fun h=>by simp at h;exact h.1
         have kw:Wr V1 dY.au w m (az dY.au m (.row (fr&&(e.flat||df C.ek xs)) e (ys.set i y))) (w.setRow (V1.aE m) (aq.toList.take (i*e.size+off)++(a.eval x).cells.toList++aq.toList.drop (i*e.size+off+(a.eval x).cells.toList.length)).toArray) :=
          ⟨fun n hn=>by simp only[az,if_neg hn],fun b hb=>gM w _ b _ hb,hh,.inr ⟨fr,fr&&(e.flat||df C.ek xs),e,ys,ys.set i y,hm,by simp only[az,if_true],by simp,aq,_,el,el,k2,jY,by simp only[List.size_toArray,vq]⟩⟩
         refine upon_skip ho dM (lY _ V1 ?_ rfl)
         refine De r1 kw rfl (sF r1.mem.kept kP.1 _ (fun v2 e2 h2=>by rw[k2] at h2;injection h2 with h2;injection h2 with h2 _ _;subst h2;simp only[List.size_toArray,vq])) (setRow_size _ _ _) ?_ (fun e2 kK heq=>?_) (fun cs heq=>by cases heq) (fun aZ=>?_) (fun _ q hq=>?_)
         ·refine .inr ⟨hh,_,el,jY,by simpa using k3,fun j hj=>?_⟩
          have kZ:j<ys.length:=by simpa using hj
          by_cases gn:j=i
          ·subst gn
           have Tp:aF (V1.Z fr) w e es (ys.getD j e.fe):=by rw[tb _ kZ];exact g3
           have o8:=wz (off:=off) (gg (V:=V1) (hp:=dY.au) fr e Tp) qY
           have hex:∀ c∈expand fr e (ys.getD j e.fe),c.dI=true/\(fr=true->c.ek=true):=x_ fr e _
           have gp:aF (V1.Z (fr&&df C.ek xs)) w e (es.take off++(a.eval x).cells.toList++es.drop (off+(a.eval x).cells.toList.length)) y:=by
            refine eP hy o8 (fun c eu=>?_)
            unfold pk at eu
            rw[bT,bT,j8,j7,cy,List.mem_append,List.mem_append] at eu
            rcases eu with eu|eu|eu
            ·obtain⟨z1,z2⟩:=hex c (List.mem_of_mem_take eu)
             exact⟨z1,fun hf=>z2 (by simp at hf;exact hf.1)⟩
            ·exact⟨c3 c eu,fun hf=>by simp[dG] at hf;exact hf.2 c eu⟩
            ·obtain⟨z1,z2⟩:=hex c (List.mem_of_mem_drop eu)
             exact⟨z1,fun hf=>z2 (by simp at hf;exact hf.1)⟩
           have EY:off+(a.eval x).cells.toList.length<=es.length:=by rw[cv,g1];exact c2
           refine⟨_,aF.length gp,fun q u hq=>?_,?_⟩
           ·rw[List.getElem?_toArray,uS _ _ _ _ (by simp only[Array.length_toList,sD];omega)]
            rw[uS _ _ _ _ EY] at hq
            have TU:q<e.size:=by
             rcases Nat.lt_or_ge q e.size with h|h
             ·exact h
             ·rw[if_neg (by omega),if_neg (by rw[cv];omega),List.getElem?_eq_none (by rw[g1];exact h)] at hq;cases hq
            by_cases q1:q<off
            ·rw[if_pos q1] at hq
             rw[if_pos (by omega)]
             have:=g2 q u hq
             simpa using this
            ·rw[if_neg q1] at hq
             rw[if_neg (by omega)]
             by_cases q2:q<off+(a.eval x).cells.toList.length
             ·rw[if_pos q2] at hq
              rw[if_pos (by omega),show j*e.size+q-(j*e.size+off)=q-off by omega]
              exact hq
             ·rw[if_neg q2] at hq
              rw[if_neg (by omega)]
              have:=g2 q u hq
              simpa using this
           ·rw[List.getElem_set_self]
            cases gb:e.flat with
            | true=>exact gp.flat gb
            | false =>
              rw[Bool.false_or]
              exact gp.mono (fun _ h=>h) (fun b hb=>kw.z r1.mem hb)
          ·obtain⟨iI,q1,q2,q3⟩:=k4 j kZ
           refine⟨iI,q1,fun q u hq=>?_,?_⟩
           ·have TU:q<e.size:=by rw[<-q1];exact (List.getElem?_eq_some_iff.1 hq).1
            rw[List.getElem?_toArray,uS _ _ _ _ (by simp only[Array.length_toList,sD];omega),cv]
            have bb:j*e.size+q<i*e.size+off\/i*e.size+off+n<=j*e.size+q:=by
             rcases Nat.lt_or_gt_of_ne gn with h|h
             ·left
              have:(j+1)*e.size<=i*e.size:=Nat.mul_le_mul_right _ h
              rw[Nat.add_mul,Nat.one_mul] at this;omega
             ·right
              have:(i+1)*e.size<=j*e.size:=Nat.mul_le_mul_right _ h
              rw[Nat.add_mul,Nat.one_mul] at this;omega
            have:=q2 q u hq
            rcases bb with h|h
            ·rw[if_pos h];simpa using this
            ·rw[if_neg (by omega),if_neg (by omega)];simpa using this
           ·rw[List.getElem_set_ne (fun h=>gn h.symm)]
            have hz:∀ b,V1.Z fr b->V1.Z (fr&&(e.flat||df C.ek xs)) b\/True:=fun _ _=>.inr trivial
            cases gb:e.flat with
            | true=>exact q3.flat gb
            | false =>
              rw[Bool.false_or]
              refine q3.mono (fun b hb=>iM (fun hf=>by simp at hf;exact hf.1) hb) (fun b hb=>kw.z r1.mem hb)
         ·injection heq with h1 h2 h3
          exact r1.mem.eK m e ys (by rw[hm,qX h1]) hh
         ·refine r1.mem.lL m ?_ hh
          rw[hm]
          cases fr with
          | false=>exact (fB aZ)
          | true =>
            have h2:(e.flat||df C.ek xs)=true:=by
             have h9:=fB aZ
             cases hf:e.flat with
             | true=>rfl
             | false =>
               rw[hf,Bool.false_or] at h9
               have z9:(!e.bU||df C.ek xs)=true:=c4
               rw[h9] at z9
               exact z9
            rw[h2] at aZ
            exact aZ
         ·cases TD:fr with
          | true =>
            subst TD
            exfalso
            have hg:e.bU=true/\(e.flat||df C.ek xs)=false:=by
             cases et:(e.flat||df C.ek xs) with
             | true=>rw[et] at hq;cases hq
             | false =>
               rw[et] at hq
               have eT:q∈(if e.bU then bV e (ys.set i y) else []):=hq
               split at eT
               ·rename_i h;exact⟨h,rfl⟩
               ·cases eT
            have z9:(!e.bU||df C.ek xs)=true:=c4
            rw[hg.1] at z9
            have h9:=hg.2
            rw[Bool.or_eq_false_iff] at h9
            rw[h9.2] at z9
            cases z9
          | false =>
            subst TD
            have eT:q∈(if e.bU then bV e (ys.set i y) else []):=hq
            split at eT
            ·rename_i hg
             intro e0
             have z9:(!e.bU||(!(Nat.beq m 0)||df C.AM xs))=true:=c4
             rw[hg,show Nat.beq m 0=true by rw[e0];rfl,Bool.not_true,Bool.false_or,Bool.false_or,dG,List.all_eq_true] at z9
             have h9:=Mx hi hy c3 z9 q eT
             refine r1.mem.fL m hh q ?_ e0
             rw[hm]
             show q∈(if e.bU then bV e ys else [])
             rw[if_pos hg]
             exact h9
            ·cases eT
       ·cases h
      ·cases h
     ·cases h
    ·cases h
   ·cases h
theorem Jh(hT:bP P T){st:St}(r:Rel base M w0 V st a.tmps w){o:Oper}{t:TypeId}{p x:Operand}(ho:o.op = .store t p x){er:ER}(h:Bw T st t p x=some er)(dr:∀ p,er.ob=some p->p)
 (lY:∀ w' V',Rel base M w0 V' er.st a.tmps w'->S.ok V' er.st.au w' er.res undef->next (a.put o.dst undef) w'):o.wp P a w next Q:=by
 unfold Bw at h
 split at h
 case h_2=>cases h
 rename_i len te es n c6 sz fv z ty m8 m e xs ht fb CX
 split at h
 case h_2=>cases h
 rename_i fr e' ys hm
 split at h
 case isFalse=>cases h
 rename_i kY
 subst kY
 injection h with h;subst h
 obtain⟨hlen,cv⟩:=dr _ rfl
 have hb:=hT t _ ht
 have yk:=r.eval p
 rw[fb] at yk
 obtain⟨hh,aV,e2,G8,q1,hi,e1⟩:=yk
 rw[hm] at q1
 injection q1 with q2 q3 q4
 subst q2;subst q3;cases q4
 have Fl:=r.eval x
 rw[CX] at Fl
 obtain⟨gb,vs,hv,vr,fG⟩:=Fl
 have eB:=r.mem.ck m
 rw[hm] at eB
 rcases eB with ⟨k1,_⟩|⟨_,aq,el,k2,k3,k4⟩
 ·exact absurd hh k1
 have fx:=e'.size_pos
 have rQ:ys.length*e'.size<=aq.size:=by
  obtain⟨iI,g1,g2,_⟩:=k4 (ys.length-1) (by omega)
  have:=g2 (e'.size-1) (iI[e'.size-1]'(by omega)) (List.getElem?_eq_getElem _)
  have h6:=(Array.getElem?_eq_some_iff.1 this).1
  have h7:ys.length*e'.size=(ys.length-1)*e'.size+e'.size:=by
   conv=>lhs;rw[show ys.length=ys.length-1+1 by omega,Nat.add_mul,Nat.one_mul]
  omega
 have eH:(a.eval x).cells=vs:=by rw[hv];rfl
 have kO:∀ v∈(a.eval x).cells.toList,v.oneCell'=true:=by
  intro v cd
  rw[eH] at cd
  obtain⟨j,hj,rfl⟩:=List.getElem_of_mem cd
  have kZ:j<xs.length*e'.size:=by rw[<-vr];simpa using hj
  have hd:j/e'.size<xs.length:=(Nat.div_lt_iff_lt_mul fx).2 kZ
  obtain⟨iI,g1,g2,g3⟩:=fG _ hd
  have sC:j%e'.size<iI.length:=by rw[g1];exact Nat.mod_lt _ fx
  have:=g2 (j%e'.size) _ (List.getElem?_eq_getElem sC)
  rw[Nat.div_add_mod' j e'.size] at this
  have h8:vs.toList[j]? = some iI[j%e'.size]:=by simpa using this
  rw[List.getElem?_eq_getElem hj] at h8
  injection h8 with h8
  rw[h8]
  exact g3.cO _ (List.getElem_mem sC)
 have sD:(a.eval x).cells.size=sz:=by rw[eH,vr,cv]
 have dM:=sL hb w (V.aE m) 0 aq el (a.eval x) (by rw[sD]) k2 (by rw[sD,<-cv,hlen,Nat.zero_add];exact rQ) kO
 have Ez:a.eval p = .pointer (some ⟨V.aE m,0,none⟩):=by rw[e1,Nat.zero_mul]
 rw[<-Ez] at dM
 have kP:=r.mem.own m (by rw[hm];rfl) hh
 have vq:(aq.toList.take 0++(a.eval x).cells.toList++aq.toList.drop (0+(a.eval x).cells.toList.length)).length=aq.size:=by
  simp only[List.length_append,List.length_take,List.length_drop,Array.length_toList,sD,List.take_zero,List.length_nil,Nat.zero_add]
  have:sz<=aq.size:=by rw[<-cv,hlen];exact rQ
  omega
 have jY:=setRow_heap w (V.aE m) aq (aq.toList.take 0++(a.eval x).cells.toList++aq.toList.drop (0+(a.eval x).cells.toList.length)).toArray el (0,0) k2
 have kw:Wr V st.au w m (az st.au m (.row fr e' xs)) (w.setRow (V.aE m) (aq.toList.take 0++(a.eval x).cells.toList++aq.toList.drop (0+(a.eval x).cells.toList.length)).toArray) :=
  ⟨fun n hn=>by simp only[az,if_neg hn],fun b hb=>gM w _ b _ hb,hh,.inr ⟨fr,fr,e',ys,xs,hm,by simp only[az,if_true],hlen.symm,aq,_,el,el,k2,jY,by simp only[List.size_toArray,vq]⟩⟩
 refine upon_skip ho dM (lY _ V ?_ rfl)
 refine De r kw rfl (sF r.mem.kept kP.1 _ (fun v2 e2 h2=>by rw[k2] at h2;injection h2 with h2;injection h2 with h2 _ _;subst h2;simp only[List.size_toArray,vq])) (setRow_size _ _ _) ?_ (fun e2 kK heq=>?_) (fun cs heq=>by cases heq) (fun aZ=>?_) (fun _ q hq=>?_)
 ·refine .inr ⟨hh,_,el,jY,by rw[hlen];exact k3,fun j hj=>?_⟩
  obtain⟨iI,g1,g2,g3⟩:=fG j hj
  refine⟨iI,g1,fun q u hq=>?_,g3.flat gb⟩
  have:=g2 q u hq
  have aZ:=(Array.getElem?_eq_some_iff.1 this).1
  rw[List.take_zero,List.nil_append,List.getElem?_toArray,List.getElem?_append_left (by rw[eH];simpa using aZ),eH]
  simpa using this
 ·injection heq with h1 h2 h3
  exact r.mem.eK m e' ys (by rw[hm,h1]) hh
 ·refine r.mem.lL m ?_ hh
  rw[hm]
  cases fr with
  | true=>exact aZ.elim
  | false=>exact aZ
 ·exfalso
  have hg:e'.bU=true:=by
   cases fr with
   | true=>cases hq
   | false =>
     have eT:q∈(if e'.bU then bV e' xs else []):=hq
     split at eT
     ·rename_i h;exact h
     ·cases eT
  rw[um gb] at hg
  cases hg
end
end Go.SX
/- Append. No condition. -/
namespace Go.SX
open Go.RowKit
set_option linter.unusedVariables false
set_option linter.unusedSimpArgs false
section
variable {P : Program} {T : bN} {base : Nat} {M : LM} {w0 : World} {V : Vl} {hp : Nat → ax} {w : World} {a : Act} {next : Act → World → Prop} {Q : Exit → Act → World → Prop}
theorem vi{g:Nat}{aq:Array Value}{el:TypeId}{fr:Nat×Nat}(h:w.heap[g]? = some (.cells aq el fr))(j:Nat):w.cell? ⟨g,j,none⟩=aq[j]? := by
 simp[World.cell?,h]
inductive yN (w w':World) (v v':Value) (sz k:Nat) (all:List Value):Prop where
 | same (h1:v'=v) (h2:w'=w)
 | row (g cap:Nat) (aq:Array Value) (el:TypeId) (h1:v' = .slice (some ⟨g,0,none⟩) k cap) (h2:w'.heap[g]? = some (.cells aq el (0,0))) (h3:aq.size=cap*sz) (h4:k<=cap)
    (h5:aq.toList.take (k*sz)=all) (h6:(∃ l,v = .slice (some ⟨g,0,none⟩) l cap/\g<w.heap.size/\w'.heap.size=w.heap.size)\/(g=w.heap.size/\w'.heap.size=w.heap.size+1))
    (h7:∀ b,b≠g->b<w.heap.size->w'.heap[b]? = w.heap[b]?) (h8:w'.os=w.os/\w'.tape=w.tape/\w'.output=w.output)
theorem r8{t ty te:TypeId}{i:TypeInfo}(ht:P.underlying t=some (.slice te))(hi:P.info? te=some i)(bs aa:Option Addr)(h cap c:Nat)(hc:h<=cap) :
 (Builtin.append_ #[t,t] ty #[.slice bs h cap,.slice aa 0 c]).run P w = .ok (.slice bs h cap) w:=by
 cases bs<;>cases aa<;>simp[Builtin.append_,run_underlying ht,sizeOf,typeInfo,hi,Builtin.lenOf,Builtin.firstCells,loadCells,loadCellsFrom,hc,storeCells]
theorem oh{t ty te:TypeId}{i:TypeInfo}{z:Value}(ht:P.underlying t=some (.slice te))(hi:P.info? te=some i)(hz:i.zero=some z)(jh:z.cells.size=i.size)(fx:0<i.size)
 {v:Value} {h cap:Nat} {g:Nat} {aq:Array Value} {el:TypeId}
 (hv:(v = .slice none 0 0/\h=0/\aq = #[])\/(v = .slice (some ⟨g,0,none⟩) h cap/\w.heap[g]? = some (.cells aq el (0,0))/\aq.size=cap*i.size/\h<=cap))
 {aa:Option Addr} {m c:Nat} {news:List Value} (hl:news.length=m*i.size) (xq:0<m->∃ b o,aa=some ⟨b,o,none⟩/\∀(j:Nat) u,news[j]? = some u->w.cell? ⟨b,o+j,none⟩=some u)
 (h1:∀ u∈news,u.oneCell'=true) (Tt:h+m<=9223372036854775807) (hb:(h+m)*i.bytes<=140737488355328) :
 ∃ v' w',(Builtin.append_ #[t,t] ty #[v,.slice aa m c]).run P w = .ok v' w'/\yN w w' v v' i.size (h+m) (aq.toList.take (h*i.size)++news)/\(0<m->∃ g' ig,v' = .slice (some ⟨g',0,none⟩) (h+m) ig)/\(m=0->v'=v/\w'=w):=by
 by_cases hm:m=0
 ·subst hm
  have hn:news=[]:=List.eq_nil_of_length_eq_zero (by simpa using hl)
  subst hn
  rcases hv with ⟨rfl,rfl,rfl⟩|⟨rfl,_,_,h4⟩
  ·exact⟨_,w,r8 ht hi none aa 0 0 c (Nat.le_refl _),.same rfl rfl,fun h=>absurd h (by omega),fun _=>⟨rfl,rfl⟩⟩
  ·exact⟨_,w,r8 ht hi _ aa h cap c h4,.same rfl rfl,fun h=>absurd h (by omega),fun _=>⟨rfl,rfl⟩⟩
 ·obtain⟨b,o,rfl,hn⟩:=xq (by omega)
  have jX:∀(j:Nat) u,news[j]? = some u->w.cell? ((⟨b,o,none⟩:Addr).add j)=some u:=fun j u hu=>by rw[jS];exact hn j u hu
  rcases hv with ⟨rfl,rfl,rfl⟩|⟨rfl,k2,k3,k4⟩
  ·have hr:=run_append_nil (P:=P) w t ty te i z ht hi hz ⟨b,o,none⟩ m c news hl jX (by omega) (by omega) (by simp only[Nat.zero_add] at hb;omega)
   have lW:=grownCap_ge w m 0 te
   refine⟨_,_,hr,.row w.heap.size (grownCap w m 0 te) _ te (by simp) (yZ w.drew _) ?_ (by omega) ?_ (.inr ⟨rfl,by simp[World.alloc,heap_drew]⟩) (fun q hq aZ=>?_) ⟨rfl,rfl,rfl⟩,fun _=>⟨w.heap.size,grownCap w m 0 te,by simp⟩,fun h=>absurd h hm⟩
   ·simp only[Array.size_append,List.size_toArray,size_zeroCells,jh,hl,<-Nat.add_mul]
    congr 1;omega
   ·simp only[Array.toList_append,Nat.zero_add,Nat.zero_mul,List.take_zero,List.nil_append]
    rw[<-hl];exact List.take_left
   ·show (w.heap.push _)[q]? = _;rw[Array.getElem?_push,if_neg (by omega)]
  ·have EZ:g<w.heap.size:=(Array.getElem?_eq_some_iff.1 k2).1
   by_cases oQ:h+m<=cap
   ·have Ni:h*i.size+news.length<=aq.size:=by rw[hl,k3,<-Nat.add_mul];exact Nat.mul_le_mul_right _ oQ
    have hf:=run_firstCells_some (P:=P) w i.size m ⟨b,o,none⟩ m c news hl jX
    have gf:=run_storeCells_at P g (h*i.size) el news 0 aq w k2 (by simpa using Ni) h1
    simp only[Nat.add_zero] at gf
    have hr:(Builtin.append_ #[t,t] ty #[.slice (some ⟨g,0,none⟩) h cap,.slice (some ⟨b,o,none⟩) m c]).run P w =
     .ok (.slice (some ⟨g,0,none⟩) (h+m) cap) (w.setRow g (aq.toList.take (h*i.size)++news++aq.toList.drop (h*i.size+news.length)).toArray):=by
     simp[Builtin.append_,run_underlying ht,sizeOf,typeInfo,hi,Builtin.lenOf,oQ,hf,Addr.add_lit,gf]
    have hlen:(aq.toList.take (h*i.size)++news).length=(h+m)*i.size:=by
     rw[List.length_append,List.length_take,Array.length_toList,hl,Nat.add_mul];omega
    refine⟨_,_,hr,.row g cap _ el rfl (setRow_heap w g aq _ el (0,0) k2) ?_ oQ ?_ (.inl ⟨h,rfl,EZ,setRow_size _ _ _⟩) (fun q hq _=>gM w g q _ hq) ⟨rfl,rfl,rfl⟩,fun _=>⟨g,cap,rfl⟩,fun h=>absurd h hm⟩
    ·simp only[List.size_toArray,List.length_append,List.length_take,List.length_drop,Array.length_toList];omega
    ·rw[<-hlen];exact List.take_left
   ·have holds:∀(j:Nat) u,(aq.toList.take (h*i.size))[j]? = some u->w.cell? ((⟨g,0,none⟩:Addr).add j)=some u:=by
     intro j u hu
     rw[jS,Nat.zero_add,vi k2]
     rw[List.getElem?_take] at hu
     split at hu
     ·simpa using hu
     ·cases hu
    have yf:(aq.toList.take (h*i.size)).length=h*i.size:=by
     rw[List.length_take,Array.length_toList,k3]
     exact Nat.min_eq_left (Nat.mul_le_mul_right _ k4)
    have hr:=run_append_grow (P:=P) w t ty te i z ht hi hz ⟨g,0,none⟩ h cap _ yf holds ⟨b,o,none⟩ m c news hl jX (by omega) (by omega) (growslice_fits (by omega) hb)
    have lW:=grownCap_ge w (h+m) cap te
    have hlen:(aq.toList.take (h*i.size)++news).length=(h+m)*i.size:=by rw[List.length_append,yf,hl,Nat.add_mul]
    refine⟨_,_,hr,.row w.heap.size (grownCap w (h+m) cap te) _ te rfl (yZ w.drew _) ?_ lW ?_ (.inr ⟨rfl,by simp[World.alloc,heap_drew]⟩) (fun q hq aZ=>?_) ⟨rfl,rfl,rfl⟩,fun _=>⟨_,_,rfl⟩,fun h=>absurd h hm⟩
    ·simp only[Array.size_append,List.size_toArray,size_zeroCells,jh,yf,hl,<-Nat.add_mul]
     congr 1;omega
    ·simp only[Array.toList_append,List.append_assoc]
     rw[<-List.append_assoc,<-hlen]
     exact List.take_left
    ·show (w.heap.push _)[q]? = _;rw[Array.getElem?_push,if_neg (by omega)]
def mi(Z:Nat->Prop)(w:World)(e:Ty)(aa:Option Addr)(ys:List e.den):Prop :=
 ∀ i (h:i<ys.length),∃ b o,aa=some ⟨b,o,none⟩/\∃ es,es.length=e.size/\lT w b (o+i*e.size) es/\aF Z w e es ys[i]
theorem sm{Z:Nat->Prop}{e:Ty}{v:Value}{ys:List e.den}(h:aF Z w (.sl e) [v] ys):∃ aa cap,v = .slice aa ys.length cap/\ys.length<=cap/\ys.length<=cX/\mi Z w e aa ys:=by
 obtain⟨a,cap,hv,h2,h3,h4⟩:=h
 simp only[List.cons.injEq,and_true] at hv
 refine⟨a,cap,hv,h2,h3,fun i hi=>?_⟩
 obtain⟨ad,rfl,h5,h6,es,h7,h8,h9⟩:=h4 i hi
 obtain⟨b,o,sp⟩:=ad
 simp only at h5
 subst h5
 exact⟨b,o,rfl,es,h7,h8,h9⟩
theorem vQ{n h:Nat}{fr:Bool}{e:Ty}{xs:List e.den}{v:Value}(he:(ax.row fr e xs).ok V hp w n)(hr:cR V w n e h v)(hh:h<=xs.length) :
 ∃ aa cap,v = .slice aa (xs.take h).length cap/\(xs.take h).length<=cap/\(xs.take h).length<=cX/\mi (V.Z fr) w e aa (xs.take h):=by
 have hlen:(xs.take h).length=h:=by rw[List.length_take];omega
 rcases hr with ⟨h1,rfl,rfl⟩|⟨h1,cap,aq,el,rfl,h3,h4,h5⟩
 ·exact⟨none,0,by simp,by simp,by simp,fun i hi=>by simp at hi⟩
 ·rcases he with ⟨k1,_⟩|⟨_,bn,eg,k2,k3,k4⟩
  ·exact absurd h1 k1
  ·refine⟨_,cap,by rw[hlen],by omega,by omega,fun i hi=>?_⟩
   rw[hlen] at hi
   obtain⟨es,q1,q2,q3⟩:=k4 i (by omega)
   refine⟨V.aE n,0,rfl,es,q1,fun j hj=>?_,by rw[List.getElem_take];exact q3⟩
   rw[Nat.zero_add,vi k2]
   exact q2 j _ (List.getElem?_eq_getElem hj)
theorem CK{Z Z':Nat->Prop}{e:Ty}(hf:e.flat=true){aa:Option Addr}{ys:List e.den}(h:mi Z w e aa ys):mi Z' w e aa ys:=fun i hi =>
 let ⟨b,o,h1,es,h2,h3,h4⟩:=h i hi
 ⟨b,o,h1,es,h2,h3,h4.flat hf⟩
theorem mi.kS{Z:Nat->Prop}{e' e:Ty}{aa:Option Addr}{xs:List e'.den}{ys:List e.den}(h:mi Z w e' aa xs)(k:SX.kS e' e xs=some ys):mi Z w e aa ys:=by
 intro i hi
 obtain⟨b,o,h1,es,h2,h3,h4⟩:=h i (by rw[<-nP k];exact hi)
 rw[(tT k).1] at h2 h3
 exact⟨b,o,h1,es,h2,h3,KN k hi h4⟩
theorem Gt(he:∀ n,(hp n).ok V hp w n){e:Ty}{c:C}{ys:List e.den}{f:Bool}{v:Value}(h:oc hp e c=some ys)(hf:m5 hp e c=some f)(ho:C.ok V hp w c v) :
 ∃ aa cap,v = .slice aa ys.length cap/\ys.length<=cX/\mi (V.Z f) w e aa ys:=by
 have fix:∀ {fr:Bool} {aa:Option Addr} {ys:List e.den},mi (V.Z fr) w e aa ys->mi (V.Z (e.flat||fr)) w e aa ys:=by
  intro fr aa ys h
  cases gb:e.flat with
  | true=>exact CK gb h
  | false=>rw[Bool.false_or];exact h
 unfold oc at h
 split at h
 ·rename_i fr e' xs
  simp only[m5,Option.some.injEq] at hf;subst hf
  obtain⟨aa,cap,h1,_,h3,h4⟩:=sm (oY ho h)
  exact⟨aa,cap,h1,h3,fix h4⟩
 ·rename_i n e' xs
  split at h
  ·rename_i hk;subst hk;injection h with h;subst h
   simp only[m5] at hf
   split at hf
   ·rename_i gb
    injection hf with hf;subst hf
    obtain⟨aa,cap,h1,_,h3,h4⟩:=sm ho.2
    exact⟨aa,cap,h1,h3,CK gb h4⟩
   ·cases hf
  ·cases h
 ·rename_i n
  split at h
  ·rename_i fr e' a_ hn
   simp only[m5,hn,Option.some.injEq] at hf;subst hf
   obtain⟨aV,e2,kK,h3,h4⟩:=ho
   rw[hn] at h3
   injection h3 with e1 e2 e3
   subst e1;subst e2;cases e3
   have h5:=he n
   rw[hn] at h5
   obtain⟨aa,cap,g1,_,g3,g4⟩:=vQ h5 h4 (Nat.le_refl _)
   rw[List.take_length] at g1 g3 g4
   exact⟨aa,cap,by rw[nP h];exact g1,by rw[nP h];exact g3,fix (g4.kS h)⟩
  ·cases h
 ·rename_i n mm
  split at h
  ·rename_i fr e' a_ hn
   simp only[m5,hn,Option.some.injEq] at hf;subst hf
   obtain⟨aV,e2,kK,h3,h6,h4⟩:=ho
   rw[hn] at h3
   injection h3 with e1 e2 e3
   subst e1;subst e2;cases e3
   have h5:=he n
   rw[hn] at h5
   obtain⟨aa,cap,g1,_,g3,g4⟩:=vQ h5 h4 h6
   exact⟨aa,cap,by rw[nP h];exact g1,by rw[nP h];exact g3,fix (g4.kS h)⟩
  ·cases h
 ·rename_i fr wh e' b xs
  simp only[m5,Option.some.injEq] at hf;subst hf
  obtain⟨aa,cap,h1,_,h3,h4⟩:=sm (oY (xo ho) h)
  exact⟨aa,cap,h1,h3,fix h4⟩
 ·injection h with h;subst h
  rw[ho.1]
  exact⟨none,0,rfl,Nat.zero_le _,fun i hi=>by simp at hi⟩
 ·cases h
theorem Am{Z:Nat->Prop}{e:Ty}{aa:Option Addr}{ys:List e.den}(h:mi Z w e aa ys):∃ news:List Value,news.length=ys.length*e.size ∧
 (0<ys.length->∃ b o,aa=some ⟨b,o,none⟩/\∀(j:Nat) u,news[j]? = some u->w.cell? ⟨b,o+j,none⟩=some u)/\(∀ u∈news,u.oneCell'=true) ∧
 ∀ i (h:i<ys.length),∃ es,es.length=e.size/\(∀(j:Nat) u,es[j]? = some u->news[i*e.size+j]? = some u)/\aF Z w e es ys[i]:=by
 cases ys with
 | nil=>exact⟨[],by simp,fun h=>by simp at h,fun u hu=>by simp at hu,fun i hi=>by simp at hi⟩
 | cons y0 yr =>
   generalize tm:y0::yr=ys at *
   have fx:0<ys.length:=by rw[<-tm];simp
   obtain⟨b,o,rfl,_⟩:=h 0 fx
   have cv:=e.size_pos
   have hk:∀ k,k<ys.length*e.size->∃ u,w.cell? ⟨b,o+k,none⟩=some u/\u.oneCell'=true:=by
    intro k hk
    have hi:k/e.size<ys.length:=by rw[Nat.div_lt_iff_lt_mul cv];exact hk
    obtain⟨b',o',hb,es,h1,h2,h3⟩:=h _ hi
    injection hb with hb
    injection hb with dW jW
    subst dW;subst jW
    have hj:k%e.size<es.length:=by rw[h1];exact Nat.mod_lt _ cv
    have:=h2 (k%e.size) hj
    have V3:k/e.size*e.size+k%e.size=k:=by rw[Nat.mul_comm];exact Nat.div_add_mod k e.size
    rw[Nat.add_assoc,V3] at this
    exact⟨_,this,aF.cO h3 _ (List.getElem_mem _)⟩
   refine⟨(List.range (ys.length*e.size)).map (fun k=>(w.cell? ⟨b,o+k,none⟩).getD undef),by simp,fun _=>⟨b,o,rfl,fun j u hu=>?_⟩,fun u hu=>?_,fun i hi=>?_⟩
   ·rw[List.getElem?_map] at hu
    cases hj:(List.range (ys.length*e.size))[j]? with
    | none=>rw[hj] at hu;cases hu
    | some k =>
      rw[hj] at hu
      have E3:=(List.getElem?_eq_some_iff.1 hj).1
      have Wi:k=j:=by have:=(List.getElem?_eq_some_iff.1 hj).2;simpa using this.symm
      subst Wi
      simp only[List.length_range] at E3
      simp only[Option.map_some,Option.some.injEq] at hu
      obtain⟨u',h1,_⟩:=hk k E3
      rw[h1] at hu ⊢
      simpa using hu
   ·rw[List.mem_map] at hu
    obtain⟨k,gS,rfl⟩:=hu
    obtain⟨u',h1,h2⟩:=hk k (List.mem_range.1 gS)
    rw[h1];exact h2
   ·obtain⟨b',o',hb,es,h1,h2,h3⟩:=h i hi
    injection hb with hb
    injection hb with dW jW
    subst dW;subst jW
    refine⟨es,h1,fun j u hu=>?_,h3⟩
    have hj:=(List.getElem?_eq_some_iff.1 hu).1
    have aZ:i*e.size+j<ys.length*e.size:=by
     have:(i+1)*e.size<=ys.length*e.size:=Nat.mul_le_mul_right _ hi
     rw[Nat.add_mul,Nat.one_mul] at this;omega
    rw[List.getElem?_map,List.getElem?_range aZ]
    have h5:=h2 j hj
    rw[Nat.add_assoc] at h5
    simp only[Option.map_some,h5,Option.getD_some]
    rw[List.getElem?_eq_getElem hj] at hu
    exact hu
end
end Go.SX
/- Append, in the words of the state. No condition. -/
namespace Go.SX
open Go.RowKit
set_option linter.unusedVariables false
set_option linter.unusedSimpArgs false
section
variable {P : Program} {T : bN} {base : Nat} {M : LM} {w0 : World} {V : Vl} {w : World} {a : Act} {next : Act → World → Prop} {Q : Exit → Act → World → Prop}
def Vl.move(V:Vl)(m g:Nat):Vl where
 aE n:=if n=m then g else V.aE n
 has n:=if n=m then True else V.has n
 Z0:=V.Z0
 Z1:=V.Z1
theorem wW{Z Z':Nat->Prop}{w':World}{e:Ty}{aq bn:Array Value}{xs ys:List e.den}{news:List Value}(h1:jO Z w e aq xs)(h2:news.length=ys.length*e.size)
 (h3:∀ i (h:i<ys.length),∃ es,es.length=e.size/\(∀(j:Nat) u,es[j]? = some u->news[i*e.size+j]? = some u)/\aF Z' w e es ys[i])
 (h4:bn.toList.take ((xs.length+ys.length)*e.size)=aq.toList.take (xs.length*e.size)++news) (h5:xs.length*e.size<=aq.size) {Z2:Nat->Prop}
 (g1:∀ {cs:List Value} {d:e.den},aF Z w e cs d->aF Z2 w' e cs d) (g2:∀ {cs:List Value} {d:e.den},aF Z' w e cs d->aF Z2 w' e cs d):jO Z2 w' e bn (xs++ys):=by
 have BD:∀ k u,k<(xs.length+ys.length)*e.size->(aq.toList.take (xs.length*e.size)++news)[k]? = some u->bn[k]? = some u:=by
  intro k u hk hu
  rw[<-h4,List.getElem?_take,if_pos hk] at hu
  simpa using hu
 have hl:(aq.toList.take (xs.length*e.size)).length=xs.length*e.size:=by
  have hv:aq.toList.length=aq.size:=Array.length_toList
  rw[List.length_take,hv];exact Nat.min_eq_left h5
 intro i hi
 rw[List.length_append] at hi
 rcases Nat.lt_or_ge i xs.length with h|h
 ·obtain⟨es,q1,q2,q3⟩:=h1 i h
  refine⟨es,q1,fun j u hu=>?_,by rw[List.getElem_append_left h];exact g1 q3⟩
  have hj:j<e.size:=by rw[<-q1];exact (List.getElem?_eq_some_iff.1 hu).1
  have aZ:i*e.size+j<xs.length*e.size:=by
   have:(i+1)*e.size<=xs.length*e.size:=Nat.mul_le_mul_right _ h
   rw[Nat.add_mul,Nat.one_mul] at this;omega
  refine BD _ u (by rw[Nat.add_mul];omega) ?_
  rw[List.getElem?_append_left (by rw[hl];exact aZ),List.getElem?_take,if_pos aZ]
  have:=q2 j u hu
  simpa using this
 ·obtain⟨es,q1,q2,q3⟩:=h3 (i-xs.length) (by omega)
  refine⟨es,q1,fun j u hu=>?_,by rw[List.getElem_append_right h];exact g2 q3⟩
  have hj:j<e.size:=by rw[<-q1];exact (List.getElem?_eq_some_iff.1 hu).1
  have hmul:i*e.size=xs.length*e.size+(i-xs.length)*e.size:=by rw[<-Nat.add_mul];congr 1;omega
  have aZ:i*e.size+j<(xs.length+ys.length)*e.size:=by
   have:(i+1)*e.size<=(xs.length+ys.length)*e.size:=Nat.mul_le_mul_right _ (by omega)
   rw[Nat.add_mul,Nat.one_mul] at this;omega
  refine BD _ u aZ ?_
  rw[List.getElem?_append_right (by rw[hl];omega),hl,show i*e.size+j-xs.length*e.size=(i-xs.length)*e.size+j by omega]
  exact q2 j u hu
theorem qq{st:St}{ts:Array Value}(r:Rel base M w0 V st ts w){m:Nat}{fr aV:Bool}{e:Ty}{xs a_:List e.den}(hm:st.au m = .row fr e xs){w':World}{V':Vl}
 (gS:Kept base M w0 w') (cv:w.heap.size<=w'.heap.size) (iN:∀ b,b<w.heap.size->(V.has m->b≠V.aE m)->w'.heap[b]? = w.heap[b]?)
 (hV:∀ n,n≠m->V'.aE n=V.aE n/\(V'.has n↔V.has n)) (la:V'.Z0=V.Z0) (qZ:V'.Z1=V.Z1)
 (eB:∀ aH,aH m = .row aV e a_->(ax.row aV e a_).ok V' aH w' m) (kP:V'.has m->(base<=V'.aE m\/M (V'.aE m))/\V'.aE m<w'.heap.size/\(w.heap.size<=V'.aE m\/(V.has m/\V'.aE m=V.aE m)))
 (jQ:aV=true->V'.has m->base<=V'.aE m) (Ju:(ax.row aV e a_).fH->V'.has m->M.nm (V'.aE m) m) (Av:V'.has m->∀ i∈(ax.row aV e a_).fL,m=0->M i) :
 Rel base M w0 V' { (st.map (bB m)) with hp:=bD (st.map (bB m)).hp m (.row aV e a_) } ts w':=by
 have r1:=r.kill (ym m)
 have mm:=r1.mem
 have hl:(st.au m).live=true:=by rw[hm];rfl
 have aZ:m<st.hp.length:=gP hl
 have dS:(St.mk (st.map (bB m)).ts (bD (st.map (bB m)).hp m (.row aV e a_))).au=az (bF (bB m) st.au) m (.row aV e a_):=by
  rw[gj (by show m<(lmap _ _).length;rw[bt,List.length_map];exact aZ)]
  congr 1
  exact il st _
 rw[il] at mm
 have vo:bF (bB m) st.au m = .row fr e xs:=by show (st.au m).map _=_;rw[hm];rfl
 have hZ:∀ {f:Bool} {b:Nat},V.Z f b->V'.Z f b:=by
  intro f b h
  unfold Vl.Z at *
  rw[la,qZ];exact h
 have Q5:∀ {f:Bool} {b:Nat},V'.Z f b->V.Z f b:=by
  intro f b h
  unfold Vl.Z at *
  rw[la,qZ] at h;exact h
 have x:VX V (kI (bF (bB m) st.au) m) w V' (az (bF (bB m) st.au) m (.row aV e a_)) w':=by
  refine⟨fun n hn=>?_,fun b h=>by rw[la];exact h,fun b h=>by rw[qZ];exact h,fun b h=>?_,fun n hn hh=>?_⟩
  ·have bb:n≠m:=fun e=>by subst e;simp[kI,ax.live] at hn
   exact⟨(hV n bb).1,(hV n bb).2,by simp only[az,kI,if_neg bb]⟩
  ·exact iN b (mm.pP h) (fun hh e=>by subst e;exact (r.mem.own m hl hh).2.2 (Vl.cN h))
  ·have bb:n≠m:=fun e=>by subst e;simp[kI,ax.live] at hn
   rw[gV bb] at hn
   refine iN _ (mm.own n hn hh).2.1 (fun Ll e=>bb (mm.fw n m hn (by rw[vo];rfl) hh Ll e))
 have nn:∀ {c:C} {v:Value},C.ok V (bF (bB m) st.au) w c v->c ≠ .own m->(∀ h,c ≠ .pre m h)->(∀ e xs,c ≠ .eE m e xs)->(∀ i o,c ≠ .dL m i o)->c.names m=false:=by
  intro c v h h1 h2 h3 h4
  cases c with
  | own n=>simp only[C.names,beq_eq_false_iff_ne];exact fun e=>h1 (by rw[e])
  | pre n k=>simp only[C.names,beq_eq_false_iff_ne];exact fun e=>h2 k (by rw[e])
  | eE n e' ys=>simp only[C.names,beq_eq_false_iff_ne];exact fun e=>h3 e' ys (by rw[e])
  | dL n i o=>simp only[C.names,beq_eq_false_iff_ne];exact fun e=>h4 i o (by rw[e])
  | box n o =>
    simp only[C.names,beq_eq_false_iff_ne]
    intro e;subst e
    obtain⟨_,_,cs,h5⟩:=h
    rw[vo] at h5;cases h5
  | iY n o =>
    simp only[C.names,beq_eq_false_iff_ne]
    intro e;subst e
    obtain⟨_,_,_,cs,h5⟩:=h
    rw[vo] at h5;cases h5
  | fn f di =>
    simp only[C.names,List.any_eq_false,beq_iff_eq]
    intro n hn e;subst e
    obtain⟨_,cs,h5⟩:=h.2 n hn
    rw[vo] at h5;cases h5
  | _=>rfl
 have hk:∀ c,bB m c ≠ .own m/\(∀ h,bB m c ≠ .pre m h)/\(∀ e xs,bB m c ≠ .eE m e xs)/\(∀ i o,bB m c ≠ .dL m i o):=by
  intro c
  cases c<;>simp only[bB]<;>(try split)<;>simp_all
 have tn:ml V st.au w (bB m) V' (az (bF (bB m) st.au) m (.row aV e a_)) w':=by
  intro c v h
  have h1:=C.tx (ym m) h
  obtain⟨k1,k2,k3,k4⟩:=hk c
  exact C.ka x (C.JV (nn h1 k1 k2 k3 k4) h1)
 have ei:∀ n,n≠m->(az (bF (bB m) st.au) m (.row aV e a_) n).live=true->(st.au n).live=true:=by
  intro n hn h
  simp only[az,if_neg hn] at h
  rw[<-lM (f:=bB m)];exact h
 refine⟨r1.len,fun i s v hs hv=>?_,?_⟩
 ·rw[dS]
  have aW:(lmap (S.map (bB m)) st.ts)[i]? = some s:=hs
  rw[bt,List.getElem?_map] at aW
  cases hx:st.ts[i]? with
  | none=>rw[hx] at aW;cases aW
  | some y =>
    rw[hx] at aW
    simp only[Option.map_some,Option.some.injEq] at aW
    subst aW
    exact tn.s (r.fI i y v hx hv)
 ·rw[dS]
  refine⟨fun n=>?_,fun n cs h=>?_,fun n dm hh=>?_,fun n e2 kK h hh=>?_,fun n n' h1 h2 hh lX he=>?_,fun b hb=>by rw[la] at hb;exact mm.z0 b hb,fun b hb=>?_,gS,fun n dm hh=>?_,fun b hb=>?_,fun n hh i hi=>?_⟩
  ·by_cases hn:n=m
   ·subst hn
    have hv:az (bF (bB n) st.au) n (.row aV e a_) n = .row aV e a_:=by simp only[az,if_true]
    rw[hv]
    exact eB _ hv
   ·have hv:az (bF (bB m) st.au) m (.row aV e a_) n=(st.au n).map (bB m):=by simp only[az,if_neg hn];rfl
    have h0:=r.mem.ck n
    have tk:=hV n hn
    rw[hv]
    cases bb:st.au n with
    | dead=>trivial
    | bx cs =>
      rw[bb] at h0
      obtain⟨aq,el,h2,h3⟩:=h0
      have sB:=r.mem.box n cs bb
      refine⟨aq,el,?_,tn.all h3⟩
      rw[tk.1,iN _ (r.mem.own n (by rw[bb];rfl) sB).2.1 (fun Ll e=>hn (r.mem.fw n m (by rw[bb];rfl) hl sB Ll e))]
      exact h2
    | row ta e2 kK =>
      rw[bb] at h0
      rcases h0 with ⟨h2,vm⟩|⟨h2,aq,el,h3,h4,h5⟩
      ·exact .inl ⟨fun h=>h2 (tk.2.1 h),vm⟩
      ·refine .inr ⟨tk.2.2 h2,aq,el,?_,h4,fun i hi=>?_⟩
       ·rw[tk.1,iN _ (r.mem.own n (by rw[bb];rfl) h2).2.1 (fun Ll e=>hn (r.mem.fw n m (by rw[bb];rfl) hl h2 Ll e))]
        exact h3
       ·obtain⟨es,q1,q2,q3⟩:=h5 i hi
        exact⟨es,q1,q2,q3.mono (fun b hb=>hZ hb) (fun b hb=>x.KM b (Vl.cN hb))⟩
  ·have hn:n≠m:=fun e=>by subst e;simp[az] at h
   simp only[az,if_neg hn] at h
   exact (hV n hn).2.2 (mm.box n cs h)
  ·by_cases hn:n=m
   ·subst hn
    obtain⟨k1,k2,k3⟩:=kP hh
    refine⟨k1,k2,fun hz=>?_⟩
    rcases k3 with k3|⟨k3,k4⟩
    ·have:=mm.pP (Q5 hz);omega
    ·exact (r.mem.own n hl k3).2.2 (by rw[<-k4];exact Q5 hz)
   ·have jf:=ei n hn dm
    have CR:=(hV n hn).2.1 hh
    obtain⟨k1,k2,k3⟩:=r.mem.own n jf CR
    rw[(hV n hn).1]
    exact⟨k1,by omega,fun hz=>k3 (Q5 hz)⟩
  ·by_cases hn:n=m
   ·subst hn
    have hv:az (bF (bB n) st.au) n (.row aV e a_) n = .row aV e a_:=by simp only[az,if_true]
    rw[hv] at h
    injection h with h1 h2 h3
    exact jQ h1 hh
   ·simp only[az,if_neg hn] at h
    rw[(hV n hn).1]
    exact mm.eK n e2 kK h ((hV n hn).2.1 hh)
  ·by_cases hn:n=m
   ·by_cases jX:n'=m
    ·rw[hn,jX]
    ·subst hn
     exfalso
     have jf:=ei n' jX h2
     have CR:=(hV n' jX).2.1 lX
     rw[(hV n' jX).1] at he
     rcases (kP hh).2.2 with k3|⟨k3,k4⟩
     ·have:=(r.mem.own n' jf CR).2.1;omega
     ·exact jX (r.mem.fw n' n jf hl CR k3 (by rw[<-he,k4]))
   ·by_cases jX:n'=m
    ·subst jX
     exfalso
     have jf:=ei n hn h1
     have CR:=(hV n hn).2.1 hh
     rw[(hV n hn).1] at he
     rcases (kP lX).2.2 with k3|⟨k3,k4⟩
     ·have:=(r.mem.own n jf CR).2.1;omega
     ·exact hn (r.mem.fw n n' jf hl CR k3 (by rw[he,k4]))
    ·rw[(hV n hn).1,(hV n' jX).1] at he
     exact r.mem.fw n n' (ei n hn h1) (ei n' jX h2) ((hV n hn).2.1 hh) ((hV n' jX).2.1 lX) he
  ·rw[qZ] at hb;have:=mm.z1 b hb;omega
  ·by_cases hn:n=m
   ·subst hn
    simp only[az,if_true] at dm
    exact Ju dm hh
   ·simp only[az,if_neg hn] at dm
    rw[(hV n hn).1]
    exact mm.lL n dm ((hV n hn).2.1 hh)
  ·obtain⟨q1,q2⟩:=r.mem.lr b hb
   have hn:0≠m:=fun e=>by subst e;rw[hm] at q1;cases q1
   refine⟨?_,by rw[(hV 0 hn).1];exact q2⟩
   simp only[az,if_neg hn]
   show ((st.au 0).map (bB m)).lK=true
   rw[n7];exact q1
  ·by_cases hn:n=m
   ·subst hn
    simp only[az,if_true] at hi
    exact Av hh i hi
   ·simp only[az,if_neg hn] at hi
    exact mm.fL n ((hV n hn).2.1 hh) i hi
end
end Go.SX
/- The operations that write, all. No condition. -/
namespace Go.SX
open Go.RowKit
set_option linter.unusedVariables false
set_option linter.unusedSimpArgs false
section
variable {P : Program} {T : bN} {base : Nat} {M : LM} {w0 : World} {V : Vl} {hp : Nat → ax} {w : World} {a : Act} {next : Act → World → Prop} {Q : Exit → Act → World → Prop}
theorem Dl{o:Oper}{t:TypeId}{s x:Operand}(ho:o.op = .call { callee:=.builtin .append,args := #[s,x],argTypes := #[t,t] }){v':Value}{w':World}
 (hr:(Builtin.append_ #[t,t] o.type #[a.eval s,a.eval x]).run P w = .ok v' w') (h:next (a.put o.dst v') w'):o.wp P a w next Q:=by
 unfold Oper.wp execOp
 simp only[ho,resolve,invoke,builtin,Sem.run_bind,Sem.run_pure,Result.andThen_ok,List.map_toArray,List.map_cons,List.map_nil,hr]
 exact h
theorem kept_refl(w:World):Kept w.heap.size pa w w:=⟨rfl,rfl,rfl,Nat.le_refl _,fun _ _ _=>rfl,fun _ _ _ _ h _=>h.elim⟩
theorem hH(V:Vl)(m g:Nat):(V.move m g).aE m=g:=by simp[Vl.move]
theorem uF(V:Vl)(m g:Nat):(V.move m g).has m:=by simp[Vl.move]
theorem Iw{V:Vl}{m g n:Nat}(h:n≠m):(V.move m g).aE n=V.aE n/\((V.move m g).has n↔V.has n):=by simp[Vl.move,h]
theorem uP{lk:Nat->ax}{e:Ty}{c:C}{f:Bool}(h:m5 lk e c=some f)(hf:e.flat=true):f=true:=by
 unfold m5 at h
 split at h
 ·injection h with h;subst h;simp[hf]
 ·split at h
  ·injection h with h;subst h;simp[hf]
  ·cases h
 ·split at h
  ·injection h with h;subst h;simp[hf]
  ·cases h
 ·rw[if_pos hf] at h;injection h with h;exact h.symm
 ·injection h with h;subst h;simp[hf]
 ·injection h with h;exact h.symm
 ·cases h
theorem wo{e:ax}{i:Nat}(h:i∈e.fL):e.fH:=Classical.byContradiction fun hn=>by rw[Fy hn] at h;cases h
theorem Kf(lk:Nat->ax)(e:Ty)(c:C):(D8 lk e c).size=e.size:=by
 have one:∀ e':Ty,(if e'.cc=e then e' else e).size=e.size:=fun e'=>by
  split
  ·rename_i h;rw[<-bJ e',h]
  ·rfl
 unfold D8
 split
 ·split
  ·exact one _
  ·rfl
 ·split
  ·exact one _
  ·rfl
 ·exact one _
 ·rfl
theorem I1(lk:Nat->ax)(e:Ty)(s x:C):(DU lk e s x).size=e.size:=by
 unfold DU
 split<;>exact Kf _ _ _
theorem zZ (hT : bP P T) {st : St} (r : Rel base M w0 V st a.tmps w) {o : Oper} {t te : TypeId} {es eb sz fv : Nat} {e e0 : Ty} (AB : e.size = e0.size) {z0 : List Value} {ty : Option Ty} {m8 : Option (List Bool)} {s x : Operand}
    (ho : o.op = .call { callee := .builtin .append, args := #[s, x], argTypes := #[t, t] }) (ht : T t = some { k := .sl te es eb e0, size := sz, bytes := fv, zero := z0, ty := ty, eq := m8 }) (rO : eb ≠ 0)
    {m n : Nat} {fr f : Bool} {xs ys : List e.den} (hm : st.au m = .row fr e xs) (hn : n ≤ xs.length) (hs : cR V w m e n (a.eval s)) {c : C} (hc : C.ok V st.au w c (a.eval x)) (tm : oc st.au e c = some ys) (hf : m5 st.au e c = some f)
    (dr : (n + ys.length) * eb ≤ 140737488355328) (v_ : (e.flat || e.bU) = true → (fr && f) = true)
    (lY : ∀ v w' V', Rel base M w0 V' { (st.map (bB m)) with hp := bD (st.map (bB m)).hp m (.row (fr && f) e (xs.take n ++ ys)) } a.tmps w' →
      S.ok V' (St.mk (st.map (bB m)).ts (bD (st.map (bB m)).hp m (.row (fr && f) e (xs.take n ++ ys)))).au w' (.c (.own m)) v → next (a.put o.dst v) w') : o.wp P a w next Q := by
  obtain ⟨g1, g2, i, z, g3, g4, g5, g6, g7⟩ := oq (eQ (hT t _ ht)).2.2
  obtain ⟨aa, cap, hx, hlen, EX⟩ := Gt r.mem.ck tm hf hc
  obtain ⟨news, n1, n2, n3, n4⟩ := Am EX
  have jh : z.cells.size = i.size := by rw [g4, g7]; simpa using dA e0
  rw [← AB] at g4
  have cY := r.mem.ck m
  rw [hm] at cY
  have hl : (st.au m).live = true := by rw [hm]; rfl
  have aZ : m < st.hp.length := gP hl
  have dS : (St.mk (st.map (bB m)).ts (bD (st.map (bB m)).hp m (.row (fr && f) e (xs.take n ++ ys)))).au m = .row (fr && f) e (xs.take n ++ ys) := by
    rw [gj (by show m < (lmap _ _).length; rw [bt, List.length_map]; exact aZ)]
    simp only [az, if_true]
  have kr : (xs.take n).length = n := by rw [List.length_take]; omega
  have jY : n + ys.length ≤ 140737488355328 := by
    have h1 : 1 ≤ eb := Nat.pos_of_ne_zero rO
    have h2 : (n + ys.length) * 1 ≤ (n + ys.length) * eb := Nat.mul_le_mul_left _ h1
    omega
  -- the row that was
  obtain ⟨aq, g, Ej, el, hv, T3⟩ : ∃ (aq : Array Value) (g Ej : Nat) (el : TypeId), ((a.eval s = .slice none 0 0 ∧ n = 0 ∧ aq = #[]) ∨ (a.eval s = .slice (some ⟨g, 0, none⟩) n Ej ∧ w.heap[g]? = some (.cells aq el (0, 0)) ∧ aq.size = Ej * i.size ∧ n ≤ Ej)) ∧
      ((¬ V.has m ∧ xs = []) ∨ (V.has m ∧ g = V.aE m ∧ w.heap[V.aE m]? = some (.cells aq el (0, 0)) ∧ jO (V.Z fr) w e aq xs ∧ xs.length * e.size ≤ aq.size ∨ False)) := by
    rcases cY with ⟨k1, k2⟩ | ⟨k1, aq, el, k2, k3, k4⟩
    · rcases hs with ⟨h1, h2, h3⟩ | ⟨h1, _⟩
      · exact ⟨#[], 0, 0, 0, .inl ⟨h2, h3, rfl⟩, .inl ⟨k1, k2⟩⟩
      · exact absurd h1 k1
    · rcases hs with ⟨h1, _⟩ | ⟨h1, ig, bn, eg, h2, h3, h4, h5⟩
      · exact absurd k1 h1
      · rw [k2] at h3
        injection h3 with h3
        injection h3 with q1 q2 q3
        subst q1
        refine ⟨aq, V.aE m, ig, el, .inr ⟨h2, k2, by rw [g4]; exact h4, h5⟩, .inr (.inl ⟨k1, rfl, k2, k4, ?_⟩)⟩
        rcases Nat.eq_zero_or_pos xs.length with h0 | h0
        · rw [h0]; simp
        · obtain ⟨iI, p1, p2, _⟩ := k4 (xs.length - 1) (by omega)
          have hp := e.size_pos
          have := p2 (e.size - 1) (iI[e.size - 1]'(by omega)) (List.getElem?_eq_getElem _)
          have h6 := (Array.getElem?_eq_some_iff.1 this).1
          have h7 : xs.length * e.size = (xs.length - 1) * e.size + e.size := by
            conv => lhs; rw [show xs.length = xs.length - 1 + 1 by omega, Nat.add_mul, Nat.one_mul]
          omega
  obtain ⟨v', w', dM, Nf, fx, hzero⟩ := oh (ty := o.type) (z := z) g1 g3 g6 jh (by rw [g4]; exact e.size_pos) (h := n) (cap := Ej) (g := g) (aq := aq) (el := el) hv (aa := aa) (m := ys.length) (c := cap) (news := news) (by rw [g4]; exact n1) n2 n3 (by unfold cX at hlen; omega) (by rw [g5]; exact dr)
  rw [← hx] at dM
  refine Dl ho dM ?_
  by_cases BG : ys.length = 0
  · obtain ⟨rfl, rfl⟩ := hzero BG
    have No : ys = [] := List.length_eq_zero_iff.1 BG
    have OB : xs.take n ++ ys = xs.take n := by rw [No, List.append_nil]
    refine lY _ _ V ?_ ⟨fr && f, e, _, dS, by rw [OB, kr]; exact hs⟩
    refine qq r hm r.mem.kept (Nat.le_refl _) (fun _ _ _ => rfl) (fun _ _ => ⟨rfl, Iff.rfl⟩) rfl rfl (fun aH _ => ?_) (fun hh => ?_) (fun h1 hh => ?_) (fun aZ hh => ?_) (fun hh q hq => ?_)
    · rw [OB]
      rcases cY with ⟨k1, k2⟩ | ⟨k1, de, jP, k2, k3, k4⟩
      · exact .inl ⟨k1, by rw [k2]; simp⟩
      · refine .inr ⟨k1, de, jP, k2, by rw [kr]; omega, fun j hj => ?_⟩
        rw [kr] at hj
        obtain ⟨iI, p1, p2, p3⟩ := k4 j (by omega)
        refine ⟨iI, p1, p2, ?_⟩
        rw [List.getElem_take]
        exact p3.mono (fun b hb => iM (fun h => by simp at h; exact h.1) hb) (fun _ _ => rfl)
    · obtain ⟨q1, q2, _⟩ := r.mem.own m hl hh
      exact ⟨q1, q2, .inr ⟨hh, rfl⟩⟩
    · exact r.mem.eK m e xs (by simp at h1; rw [hm, h1.1]) hh
    · exfalso
      have gb := fB aZ
      rw [v_ gb] at aZ
      exact aZ
    · exfalso
      have aZ := wo hq
      have gb := fB aZ
      rw [v_ gb] at aZ
      exact aZ
  · obtain ⟨g', ig, cd⟩ := fx (by omega)
    subst cd
    cases Nf with
    | same h1 h2 =>
      exfalso
      rcases hv with ⟨h3, _, _⟩ | ⟨h3, _⟩
      · rw [h3] at h1; cases h1
      · rw [h3] at h1; injection h1 with _ h4 _; omega
    | row Ox MQ de jP h1 h2 h3 h4 h5 h6 h7 h8 =>
      injection h1 with vX Vm tc
      injection vX with vX
      injection vX with vX
      subst vX; subst tc
      -- in place or moved
      have iu : (V.has m ∧ g' = V.aE m ∧ w'.heap.size = w.heap.size) ∨ (g' = w.heap.size ∧ w'.heap.size = w.heap.size + 1) := by
        rcases h6 with ⟨l0, e1, e2, e3⟩ | h6
        · left
          rcases hv with ⟨h9, _, _⟩ | ⟨h9, _⟩
          · rw [h9] at e1; cases e1
          · rw [h9] at e1
            injection e1 with e1 _ _
            injection e1 with e1
            injection e1 with e1
            rcases T3 with ⟨q1, q2⟩ | (⟨q1, q2, _⟩ | hF)
            · rcases hs with ⟨_, q3, _⟩ | ⟨q3, _⟩
              · rw [h9] at q3; cases q3
              · exact absurd q3 q1
            · exact ⟨q1, by rw [← e1, q2], e3⟩
            · exact hF.elim
        · exact .inr h6
      have EZ : g' < w'.heap.size := (Array.getElem?_eq_some_iff.1 h2).1
      have cv : w.heap.size ≤ w'.heap.size := by rcases iu with ⟨_, _, h⟩ | ⟨_, h⟩ <;> omega
      have iN : ∀ b, b < w.heap.size → (V.has m → b ≠ V.aE m) → w'.heap[b]? = w.heap[b]? := by
        intro b hb bb
        refine h7 b (fun e => ?_) hb
        rcases iu with ⟨q1, q2, _⟩ | ⟨q1, _⟩
        · exact bb q1 (by rw [e, q2])
        · omega
      have Az : base ≤ g' ∨ M g' := by
        rcases iu with ⟨q1, q2, _⟩ | ⟨q1, _⟩
        · rw [q2]; exact (r.mem.own m hl q1).1
        · left; have := r.mem.kept.size; omega
      have Jt : Kept base M w0 w' := by
        refine ⟨h8.1.trans r.mem.kept.os, h8.2.1.trans r.mem.kept.tape, h8.2.2.trans r.mem.kept.output, Nat.le_trans r.mem.kept.size cv, fun b hb hM => ?_, fun b se CF hb hM Il => ?_⟩
        · rw [h7 b (fun e => by subst e; rcases Az with h | h; omega; exact hM h) (by have := r.mem.kept.size; omega)]
          exact r.mem.kept.block b hb hM
        · by_cases v5 : b = g'
          · subst v5
            obtain ⟨xE, x7, j1, j2⟩ := r.mem.kept.shape b se CF hb hM Il
            rcases h6 with ⟨l0, e1, _, _⟩ | ⟨h6, _⟩
            · rcases hv with ⟨h9, _, _⟩ | ⟨h9, k9, W8, _⟩
              · rw [h9] at e1; cases e1
              · rw [h9] at e1
                injection e1 with e1 _ e2
                injection e1 with e1
                injection e1 with e1
                subst e1; subst e2
                rw [k9] at j1
                injection j1 with j1
                injection j1 with j1 _ _
                subst j1
                exact ⟨de, jP, h2, by rw [h3, ← W8]; exact j2⟩
            · exfalso; have := r.mem.kept.size; omega
          · obtain ⟨xE, x7, j1, j2⟩ := r.mem.kept.shape b se CF hb hM Il
            exact ⟨xE, x7, by rw [h7 b v5 (by have := r.mem.kept.size; omega)]; exact j1, j2⟩
      have CQ : ∀ {f : Bool} {b : Nat}, V.Z f b → w'.heap[b]? = w.heap[b]? := by
        intro f b hb
        exact iN b (r.mem.pP hb) (fun hh e => by subst e; exact (r.mem.own m hl hh).2.2 (Vl.cN hb))
      have Ff : jO ((V.move m g').Z (fr && f)) w' e de (xs.take n ++ ys) := by
        have Og : jO (V.Z fr) w e aq (xs.take n) ∧ (xs.take n).length * e.size ≤ aq.size := by
          rcases T3 with ⟨q1, q2⟩ | (⟨q1, q2, q3, q4, q5⟩ | hF)
          · refine ⟨fun j hj => ?_, ?_⟩
            · rw [q2] at hj; simp at hj
            · rw [q2]; simp
          · refine ⟨fun j hj => ?_, ?_⟩
            · rw [kr] at hj
              obtain ⟨iI, p1, p2, p3⟩ := q4 j (by omega)
              exact ⟨iI, p1, p2, by rw [List.getElem_take]; exact p3⟩
            · rw [kr]
              have : n * e.size ≤ xs.length * e.size := Nat.mul_le_mul_right _ hn
              omega
          · exact hF.elim
        refine wW Og.1 n1 n4 (by rw [kr, ← g4]; exact h5) Og.2 (fun gp => ?_) (fun gp => ?_)
        · exact gp.mono (fun b hb => iM (fun h => by simp at h; exact h.1) hb) (fun b hb => CQ hb)
        · exact gp.mono (fun b hb => iM (fun h => by simp at h; exact h.2) hb) (fun b hb => CQ hb)
      have EV : (xs.take n ++ ys).length = n + ys.length := by rw [List.length_append, kr]
      refine lY _ _ (V.move m g') ?_ ⟨fr && f, e, _, dS, .inr ⟨uF V m g', ig, de, jP, by rw [hH, EV], by rw [hH]; exact h2, by rw [← g4]; exact h3, by rw [EV]; exact h4⟩⟩
      refine qq r hm Jt cv iN (fun n hn => Iw hn) rfl rfl (fun aH _ => ?_) (fun _ => ?_) (fun h9 _ => ?_) (fun aZ _ => ?_) (fun _ q hq => ?_)
      · exact .inr ⟨uF V m g', de, jP, by rw [hH]; exact h2, by rw [EV]; unfold cX; omega, Ff⟩
      · rw [hH]
        refine ⟨Az, EZ, ?_⟩
        rcases iu with ⟨q1, q2, _⟩ | ⟨q1, _⟩
        · exact .inr ⟨q1, q2⟩
        · exact .inl (by omega)
      · rw [hH]
        rcases iu with ⟨q1, q2, _⟩ | ⟨q1, _⟩
        · rw [q2]; exact r.mem.eK m e xs (by simp at h9; rw [hm, h9.1]) q1
        · have := r.mem.kept.size; omega
      · exfalso
        have gb := fB aZ
        rw [v_ gb] at aZ
        exact aZ
      · exfalso
        have aZ := wo hq
        have gb := fB aZ
        rw [v_ gb] at aZ
        exact aZ
theorem EP(m:Mem base M w0 V hp w){w':World}(k:Kept w.heap.size pa w w'){nx:Nat}(hd:hp nx = .dead)(b:Option Nat)(hb:∀ g,b=some g->w.heap.size<=g/\g<w'.heap.size)(e:ax)(gR:∀ cs,e = .bx cs->b.isSome=true)(res:S)(v:Value)(nr:¬e.fH)
 (he:∀ V' aH,VX V hp w V' aH w'->(V'.has nx↔b.isSome=true)->(∀ g,b=some g->V'.aE nx=g)->aH nx=e->e.ok V' aH w' nx/\S.ok V' aH w' res v) :
 ∃ V',Good base M w0 V hp w nx res [e] none v w' V':=by
 have cS:∀ j,j<[e].length->hp (nx+j) = .dead:=fun j hj=>by
  have:j=0:=by simp at hj;omega
  subst this;exact hd
 have x:=VX.l_ m k (nx:=nx) (es:=[e]) (bs:=[b]) (Z:=fun _=>False) rfl cS
 have h1:(V.ext nx [b] (fun _=>False)).has nx↔b.isSome=true:=Vl.fY (V:=V) (nx:=nx) (bs:=[b]) (Z:=fun _=>False) (j:=0) (b:=b) rfl
 have h2:∀ g,b=some g->(V.ext nx [b] (fun _=>False)).aE nx=g:=fun g hg=>Vl.g9 (nx:=nx) (j:=0) (by simp[hg])
 have h3:db hp nx [e] nx=e:=jZ (nx:=nx) (j:=0) rfl
 obtain⟨g1,g2⟩:=he _ _ x h1 h2 h3
 refine⟨_,⟨m.grow k rfl cS (by cases b<;>simp) (fun g hg=>?_) (fun b hb=>hb.elim) (fun j cs hj=>?_) (fun j e' hj=>?_) (fun e' fk=>by rw[List.mem_singleton.1 fk];exact nr),x,g2,fun p h=>by cases h⟩⟩
 ·simp only[List.mem_singleton] at hg
  obtain⟨k1,k2⟩:=hb g hg.symm
  exact⟨k1,k2,fun h=>h⟩
 ·have:j=0:=by have:=(List.getElem?_eq_some_iff.1 hj).1;simp at this;omega
  subst this
  simp only[List.getElem?_cons_zero,Option.some.injEq] at hj
  obtain⟨g,hg⟩:=Option.isSome_iff_exists.1 (gR cs hj)
  exact⟨g,by simp[hg]⟩
 ·have:j=0:=by have:=(List.getElem?_eq_some_iff.1 hj).1;simp at this;omega
  subst this
  simp only[List.getElem?_cons_zero,Option.some.injEq] at hj;subst hj
  exact g1
theorem append_nil(hT:bP P T){st:St}(r:Rel base M w0 V st a.tmps w){o:Oper}{t te:TypeId}{es eb sz fv:Nat}{e e0:Ty}(AB:e.size=e0.size){z0:List Value}{ty:Option Ty}{m8:Option (List Bool)}{s x:Operand}
 (ho:o.op = .call { callee:=.builtin .append,args := #[s,x],argTypes := #[t,t] }) (ht:T t=some { k:=.sl te es eb e0,size:=sz,bytes:=fv,zero:=z0,ty:=ty,eq:=m8 }) (rO:eb≠0)
 {f:Bool} {ys:List e.den} (hs:a.eval s = .slice none 0 0) {c:C} (hc:C.ok V st.au w c (a.eval x)) (tm:oc st.au e c=some ys) (hf:m5 st.au e c=some f)
 (dr:ys.length*eb<=140737488355328) (Wa:e.bU=true->f=true)
 (lY:∀ v w' V',Rel base M w0 V' (st.alloc [.row f e ys]) a.tmps w'->S.ok V' (st.alloc [.row f e ys]).au w' (.c (.own (aL st.hp))) v->next (a.put o.dst v) w'):o.wp P a w next Q:=by
 obtain⟨g1,g2,i,z,g3,g4,g5,g6,g7⟩:=oq (eQ (hT t _ ht)).2.2
 obtain⟨aa,cap,hx,hlen,EX⟩:=Gt r.mem.ck tm hf hc
 obtain⟨news,n1,n2,n3,n4⟩:=Am EX
 have jh:z.cells.size=i.size:=by rw[g4,g7];simpa using dA e0
 rw[<-AB] at g4
 have v_:(e.flat||e.bU)=true->f=true:=fun h=>by
  cases o9:e.flat with
  | true=>exact uP hf o9
  | false=>rw[o9,Bool.false_or] at h;exact Wa h
 obtain⟨v',w',dM,Nf,fx,hzero⟩:=oh (ty:=o.type) (z:=z) g1 g3 g6 jh (by rw[g4];exact e.size_pos) (h:=0) (cap:=0) (g:=0) (aq := #[]) (el:=0) (.inl ⟨hs,rfl,rfl⟩) (aa:=aa) (m:=ys.length) (c:=cap) (news:=news) (by rw[g4];exact n1) n2 n3 (by unfold cX at hlen;omega) (by rw[g5,Nat.zero_add];exact dr)
 rw[<-hx] at dM
 refine Dl ho dM ?_
 have hd:st.au (aL st.hp) = .dead:=lE st 0
 by_cases BG:ys.length=0
 ·obtain⟨rfl,rfl⟩:=hzero BG
  have No:ys=[]:=List.length_eq_zero_iff.1 BG
  obtain⟨V',hg⟩:=EP r.mem (kept_refl w') hd none (fun g hg=>by cases hg) (.row f e ys) (fun cs h=>by cases h) (.c (.own (aL st.hp))) (a.eval s) (fun aZ=>by rw[v_ (fB aZ)] at aZ;exact aZ)
   (fun V' aH _ k1 _ k3=>by
     have TS:¬V'.has (aL st.hp):=fun h=>by have:=k1.1 h;cases this
     exact⟨.inl ⟨TS,No⟩,f,e,ys,k3,.inl ⟨TS,hs,BG⟩⟩)
  obtain⟨q1,q2⟩:=iU r hg
  exact lY _ _ V' q1 q2
 ·obtain⟨g',ig,cd⟩:=fx (by omega)
  subst cd
  cases Nf with
  | same h1 h2=>rw[hs] at h1;cases h1
  | row Ox MQ de jP h1 h2 h3 h4 h5 h6 h7 h8 =>
    injection h1 with vX Vm tc
    injection vX with vX
    injection vX with vX
    subst vX;subst tc
    have iu:g'=w.heap.size/\w'.heap.size=w.heap.size+1:=by
     rcases h6 with ⟨l0,e1,_,_⟩|h6
     ·rw[hs] at e1;cases e1
     ·exact h6
    have hk:Kept w.heap.size pa w w':=⟨h8.1,h8.2.1,h8.2.2,by omega,fun b hb _=>h7 b (by omega) hb,fun _ _ _ _ h _=>h.elim⟩
    have jY:ys.length<=140737488355328:=by
     have h1:1<=eb:=Nat.pos_of_ne_zero rO
     have h2:ys.length*1<=ys.length*eb:=Nat.mul_le_mul_left _ h1
     omega
    obtain⟨V',hg⟩:=EP r.mem hk hd (some g') (fun g hg=>by injection hg with hg;subst hg;omega) (.row f e ys) (fun cs h=>by cases h) (.c (.own (aL st.hp))) (.slice (some ⟨g',0,none⟩) (0+ys.length) ig) (fun aZ=>by rw[v_ (fB aZ)] at aZ;exact aZ)
     (fun V' aH x k1 k2 k3=>by
       have hh:V'.has (aL st.hp):=k1.2 rfl
       have hb:=k2 g' rfl
       refine⟨.inr ⟨hh,de,jP,by rw[hb];exact h2,by unfold cX;omega,?_⟩,f,e,ys,k3,.inr ⟨hh,ig,de,jP,by rw[hb,Nat.zero_add],by rw[hb];exact h2,by rw[<-g4];exact h3,by rw[Nat.zero_add] at h4;exact h4⟩⟩
       have:=wW (Z:=V.Z f) (Z':=V.Z f) (Z2:=V'.Z f) (w:=w) (w':=w') (e:=e) (aq := #[]) (bn:=de) (xs:=[]) (ys:=ys) (news:=news) (fun j hj=>by simp at hj) n1 n4 (by simpa[g4] using h5) (by simp) (fun gp=>x.rd gp) (fun gp=>x.rd gp)
       rw[List.nil_append] at this
       exact this)
    obtain⟨q1,q2⟩:=iU r hg
    exact lY _ _ V' q1 q2
theorem KY(hT:bP P T){st:St}(r:Rel base M w0 V st a.tmps w){o:Oper}{er:ER}(h:Ou T st o.op=some er)(dr:∀ p,er.ob=some p->p)
 (lY:∀ v w' V',Rel base M w0 V' er.st a.tmps w'->S.ok V' er.st.au w' er.res v->next (a.put o.dst v) w'):o.wp P a w next Q:=by
 unfold Ou at h
 split at h
 ·rename_i t p x ho
  cases he:Af T st t p x with
  | some r0 =>
    rw[he] at h
    injection h with h;subst h
    exact (KZ hT r ho he).2 (fun w' V' h1 h2=>lY _ w' V' h1 h2)
  | none =>
    rw[he] at h
    exact Jh hT r ho h dr (fun w' V' h1 h2=>lY _ w' V' h1 h2)
 ·rename_i t n parts ho
  unfold x6 at h
  simp only at h
  generalize X8:wC st parts.toList=ns at h
  obtain⟨V1,r1⟩:=r.ba ns
  generalize UT:st.ba ns=dY at *
  rw[bt] at h
  cases hq:jq T dY.au (aL dY.hp) t n (parts.toList.map fun p=>(p.1,dY.eval p.2)) with
  | none=>rw[hq] at h;cases h
  | some qr =>
    rw[hq] at h
    injection h with h;subst h
    have rR:=oV (V:=V1) (hp:=dY.au) (w:=w) (f:=dY.eval) (g:=a.eval) r1.eval parts.toList
    obtain⟨v,w',V',h1,h2⟩:=rX (qs:=parts.map fun (i,x)=>(i,a.eval x)) hT r1.mem (lE dY 0) hq (by simpa using rR)
    obtain⟨q1,q2⟩:=iU r1 h2
    refine cU (v:=v) (w':=w') ?_ (lY v w' V' q1 q2)
    simp only[ho,execOp,Sem.run_bind,h1,Result.andThen_ok,Sem.run_pure]
 ·rename_i c0 ho
  split at h
  case isFalse=>cases h
  case isTrue hb =>
  unfold EA at h
  split at h
  case h_2=>cases h
  case h_1 s x t t' hargs hats =>
  split at h
  ·rename_i TZ
   subst TZ
   replace ho:o.op = .call { callee:=.builtin .append,args := #[s,x],argTypes := #[t,t] }:=by
    rw[ho]
    rcases c0 with ⟨cl,⟨as⟩,⟨Of⟩⟩
    simp only at hb hargs hats
    subst hargs;subst hats
    unfold Fw at hb
    split at hb
    ·rfl
    ·cases hb
   unfold H6 at h
   split at h
   ·rename_i te es eb e0 sz fv z0 ty m8 sc xc ht hs hx
    have cv:=I1 st.au e0 sc xc
    generalize DU st.au e0 sc xc=e at h cv
    unfold CE at h
    split at h
    ·cases h
    ·rename_i rO
     have OU:=r.eval s
     rw[hs] at OU
     have Fl:=r.eval x
     rw[hx] at Fl
     split at h
     ·rename_i ys f tm hf
      split at h
      ·rename_i m
       split at h
       ·rename_i fr e' xs hm
        split at h
        ·rename_i he
         subst he
         split at h
         ·cases h
         rename_i y6
         have v_:(e'.flat||e'.bU)=true->(fr&&f)=true:=fun h=>by
          cases o9:e'.flat with
          | true =>
            rw[uP hf o9,Bool.and_true]
            rw[o9] at y6
            cases fr<;>simp_all
          | false =>
            rw[o9,Bool.false_or] at h
            rw[o9,h] at y6
            simpa using y6
         split at h
         ·cases h
         ·injection h with h;subst h
          obtain⟨ta,e2,kK,q1,q2⟩:=OU
          rw[hm] at q1
          injection q1 with q3 q4 q5
          subst q3;subst q4;cases q5
          refine zZ hT r cv ho ht rO hm (Nat.le_refl _) q2 Fl tm hf (dr _ rfl) v_ (fun v w' V' h1 h2=>lY v w' V' ?_ ?_)
          ·rw[List.take_length] at h1;exact h1
          ·rw[List.take_length] at h2;exact h2
        ·cases h
       ·cases h
      ·rename_i m n
       split at h
       ·rename_i fr e' xs hm
        split at h
        ·rename_i he
         subst he
         split at h
         ·cases h
         rename_i y6
         have v_:(e'.flat||e'.bU)=true->(fr&&f)=true:=fun h=>by
          cases o9:e'.flat with
          | true =>
            rw[uP hf o9,Bool.and_true]
            rw[o9] at y6
            cases fr<;>simp_all
          | false =>
            rw[o9,Bool.false_or] at h
            rw[o9,h] at y6
            simpa using y6
         split at h
         ·cases h
         ·injection h with h;subst h
          obtain⟨ta,e2,kK,q1,q6,q2⟩:=OU
          rw[hm] at q1
          injection q1 with q3 q4 q5
          subst q3;subst q4;cases q5
          exact zZ hT r cv ho ht rO hm q6 q2 Fl tm hf (dr _ rfl) v_ (fun v w' V' h1 h2=>lY v w' V' h1 h2)
        ·cases h
       ·cases h
      ·split at h
       ·cases h
       rename_i Re
       injection h with h;subst h
       exact append_nil hT r cv ho ht rO OU.1 Fl tm hf (dr _ rfl) (fun h=>by rw[h] at Re;simpa using Re) (fun v w' V' h1 h2=>lY v w' V' h1 h2)
      ·cases h
     ·cases h
   ·cases h
  ·cases h
 ·cases h
end
end Go.SX
/- Operations in the order of the text. No condition. -/
namespace Go.SX
open Go.RowKit
set_option linter.unusedVariables false
set_option linter.unusedSimpArgs false
def fO(P:Program)(f:FuncId)(r:bW):Prop :=
 ∀(base:Nat) (M:LM) (w0:World) (V:Vl) (st:St) (ts:Array Value) (w:World) (ss:List S) (vs:List Value) (K:S->St->Prop),
  Rel base M w0 V st ts w->ss.length=vs.length->(∀(i:Nat) s v,ss[i]? = some s->vs[i]? = some v->S.ok V st.au w s v)->r ss st K →
  Calls P f vs.toArray w fun e w'=>∃ v,e = .returned v/\∃ V' s aN,K s aN/\Rel base M w0 V' aN ts w'/\S.ok V' aN.au w' s v
def cj(P:Program)(R:FuncId->Option bW):Prop:=∀ f r,R f=some r->f≠w4->fO P f r/\ft P f
def Sat(base:Nat)(M:LM)(w0:World)(st:St)(a:Act)(w:World):Prop:=a.defers=[]/\∃ V,Rel base M w0 V st a.tmps w
section
variable {P : Program} {T : bN} {Γ : FuncId → Option PC} {R : FuncId → Option bW} {base : Nat} {M : LM} {w0 : World} {V : Vl} {w : World} {a : Act} {next : Act → World → Prop} {Q : Exit → Act → World → Prop}
theorem put_defers(a:Act)(d:Option Nat)(v:Value):(a.put d v).defers=a.defers:=by cases d<;>rfl
theorem rD{p:Option Prop}{q:Prop}(h:Bp p q):(∀ x,p=some x->x)/\q:=by
 cases p with
 | none=>exact⟨fun _ h=>(nomatch h),h⟩
 | some p=>exact⟨fun x hx=>by injection hx with hx;subst hx;exact (show p/\q from h).1,(show p/\q from h).2⟩
theorem CZ{p:Option Prop}{q:Prop}(h:JL p q)(hp:∀ x,p=some x->x):q:=by
 cases p with
 | none=>exact h
 | some p=>exact h (hp p rfl)
theorem Cx{st:St}{o:Op}{f:FuncId}{args:List S}(h:sY st o=some (f,args)):∃ c x,o = .call c/\c.callee = .value x/\st.eval x = .c (.fn f [])/\args=c.args.toList.map st.eval:=by
 unfold sY at h
 split at h
 ·rename_i c
  split at h
  ·rename_i x hx
   split at h
   ·rename_i g hg
    injection h with h
    injection h with h1 h2
    subst h1;subst h2
    exact⟨c,x,rfl,hx,hg,bt _ _⟩
   ·cases h
  ·cases h
 ·cases h
theorem gh{p q:Option Prop}(h1:cT p)(h2:cT q):cT (eM p q):=by
 cases p with
 | none=>exact h2
 | some p =>
   cases q with
   | none=>exact h1
   | some q=>exact⟨h1,h2⟩
theorem tp{Z:Nat->Prop}{e:Ty}{xs:List e.den}{w:World}(h:∀ i (hi:i<xs.length),∃ es,aF Z w e es xs[i]):∀ i∈bV e xs,Z i:=by
 intro i hi
 unfold bV at hi
 rw[List.mem_flatMap] at hi
 obtain⟨x,hx,OD⟩:=hi
 obtain⟨j,hj,rfl⟩:=List.getElem_of_mem hx
 obtain⟨es,h1⟩:=h j hj
 exact aF.iw e h1 i OD
theorem C.FJ{hp:Nat->ax}{c:C}{v:Value}{b:Nat}(h:C.ok V hp w c v)(hb:¬V.Z false b):cT (c.FI b):=by
 unfold C.FI
 split
 ·rename_i fr wh e b' xs
  intro hi
  have h':aF (V.Z fr) w (.gs wh e) [v] (b',xs):=h
  exact hb (Vl.cN (aF.iw _ h' _ hi))
 ·rename_i fr e xs
  split
  ·intro hi
   have h':aF (V.Z fr) w (.sl e) [v] xs:=h
   obtain⟨a,cap,_,_,_,h4⟩:=h'
   exact hb (Vl.cN (tp (Z:=V.Z fr) (w:=w) (fun i hi=>by obtain⟨ad,_,_,_,es,_,_,h6⟩:=h4 i hi;exact⟨es,h6⟩) _ hi))
  ·trivial
 ·rename_i fr t d off
  split
  ·intro hi
   obtain⟨b2,o,_,_,es,_,_,h5⟩:=h
   exact hb (Vl.cN (aF.iw t h5 _ hi))
  ·trivial
 ·trivial
theorem Em{hp:Nat->ax}{b:Nat}(hb:¬V.Z false b):∀ {cs:List C} {vs:List Value},bz V hp w cs vs->cT (I7 b cs)
 | [],_,_=>trivial
 | c::r,vs,h=>by
   obtain⟨v,bO,rfl,h1,h2⟩:=cF h
   exact gh (C.FJ h1 hb) (Em hb h2)
theorem ax.FJ{hp:Nat->ax}{e:ax}{n b:Nat}(h:e.ok V hp w n)(hb:¬V.Z false b):cT (e.FI b):=by
 cases e with
 | dead=>trivial
 | bx cs=>obtain⟨aq,el,_,h2⟩:=h;exact Em hb h2
 | row fr e xs =>
   unfold ax.FI
   simp only
   split
   ·intro hi
    rcases h with ⟨_,h2⟩|⟨_,aq,el,_,_,h4⟩
    ·rw[h2] at hi;cases hi
    ·exact hb (Vl.cN (tp (Z:=V.Z fr) (w:=w) (fun i hi=>by obtain⟨es,_,_,h6⟩:=h4 i hi;exact⟨es,h6⟩) _ hi))
   ·trivial
theorem Fc{st:St}{ts:Array Value}(r:Rel base M w0 V st ts w){b:Nat}(hb:¬V.Z false b):cT (DY b st.hp):=by
 have key:∀(l:List ax),(∀ e∈l,∃ n,e.ok V st.au w n)->cT (DY b l):=by
  intro l
  induction l with
  | nil=>intro _;trivial
  | cons e l ih =>
    intro h
    obtain⟨n,hn⟩:=h e (List.mem_cons_self ..)
    exact gh (ax.FJ hn hb) (ih (fun e' fk=>h e' (List.mem_cons_of_mem _ fk)))
 refine key st.hp (fun e he=>?_)
 obtain⟨n,hn,rfl⟩:=List.getElem_of_mem he
 refine⟨n,?_⟩
 have:=r.mem.ck n
 have e1:st.au n=st.hp[n]:=by
  show nth .dead st.hp n=_
  rw[cB,List.getElem?_eq_getElem hn];rfl
 rw[e1] at this
 exact this
theorem zh{b:Nat}:∀ {acc:List Nat},(∀ a∈acc,b≠a)->cT (D3 b acc)
 | [],_=>trivial
 | a::r,h=>gh (p:=some _) (h a (List.mem_cons_self ..)) (zh (fun c hc=>h c (List.mem_cons_of_mem _ hc)))
theorem Kh{base m b:Nat}{hp:Nat->ax}{fr:Bool}{e:Ty}{xs:List e.den}(hm:hp m = .row fr e xs)(eB:(ax.row fr e xs).ok V hp w m)(jQ:fr=true->V.has m->base<=V.aE m)(hb:V.has m->b=V.aE m) :
 ml V hp w (m7 m b fr e xs) (V.freeze m base) (az (bF (m7 m b fr e xs) hp) m .dead) w:=by
 have tn:=qS (base:=base) hm eB jQ
 have cY:∀ {n aV e'} {a_:List e'.den},az (bF (cV m fr e xs) hp) m .dead n = .row aV e' a_->az (bF (m7 m b fr e xs) hp) m .dead n = .row aV e' a_:=by
  intro n aV e' a_ h
  by_cases hn:n=m
  ·simp only[az,if_pos hn] at h;cases h
  ·simp only[az,if_neg hn] at h ⊢
   unfold bF at h ⊢
   cases hq:hp n with
   | row a1 a2 a3=>rw[hq] at h;exact h
   | bx cs=>rw[hq] at h;cases h
   | dead=>rw[hq] at h;cases h
 have gR:∀ {n cs},az (bF (cV m fr e xs) hp) m .dead n = .bx cs->∃ cp,az (bF (m7 m b fr e xs) hp) m .dead n = .bx cp:=by
  intro n cs h
  by_cases hn:n=m
  ·simp only[az,if_pos hn] at h;cases h
  ·simp only[az,if_neg hn] at h ⊢
   unfold bF at h ⊢
   cases hq:hp n with
   | row a1 a2 a3=>rw[hq] at h;cases h
   | bx cs=>exact⟨_,rfl⟩
   | dead=>rw[hq] at h;cases h
 have move:∀ {c v},C.ok (V.freeze m base) (az (bF (cV m fr e xs) hp) m .dead) w c v->C.ok (V.freeze m base) (az (bF (m7 m b fr e xs) hp) m .dead) w c v:=by
  intro c v h
  cases c with
  | own n=>obtain⟨f1,e1,x1,h1,h2⟩:=h;exact⟨f1,e1,x1,cY h1,h2⟩
  | pre n k=>obtain⟨f1,e1,x1,h1,h3,h2⟩:=h;exact⟨f1,e1,x1,cY h1,h3,h2⟩
  | eE n e' ys=>obtain⟨⟨f1,e1,x1,h1⟩,h2⟩:=h;exact⟨⟨f1,e1,x1,cY h1⟩,h2⟩
  | box n off=>obtain⟨h1,h2,cs,h3⟩:=h;exact⟨h1,h2,gR h3⟩
  | iY n len=>obtain⟨cap,h1,h2,cs,h3⟩:=h;exact⟨cap,h1,h2,gR h3⟩
  | dL n i off=>obtain⟨h0,f1,e1,x1,h1,h2⟩:=h;exact⟨h0,f1,e1,x1,cY h1,h2⟩
  | fn f di=>exact⟨h.1,fun n hn=>⟨(h.2 n hn).1,let ⟨_,cs,h3⟩:=h.2 n hn;gR h3⟩⟩
  | _=>exact h
 intro c v h
 by_cases hc:c = .own m
 ·subst hc
  obtain⟨aV,e',a_,h1,h2⟩:=h
  rw[hm] at h1
  injection h1 with e1 e2 e3
  subst e1;subst e2;cases e3
  show C.ok _ _ w (m7 m b fr e xs (.own m)) v
  simp only[m7,if_true]
  have gp:=tn (.own m) v ⟨fr,e,xs,hm,h2⟩
  simp only[cV,if_true] at gp
  refine⟨gp,fun Lr=>?_,fun _ Lr=>?_⟩
  ·rcases h2 with ⟨_,_,h3⟩|⟨hh,cap,aq,el,h3,h4,h5,h6⟩
   ·have UN:0<xs.length:=Lr
    omega
   ·exact⟨0,_,cap,by rw[h3,hb hh]⟩
  ·rcases h2 with ⟨_,_,h3⟩|⟨hh,cap,aq,el,h3,h4,h5,h6⟩
   ·have UN:0<xs.length:=Lr
    omega
   ·exact⟨_,cap,aq,el,by rw[h3,hb hh],by rw[hb hh];exact h4,h5⟩
 ·have e1:m7 m b fr e xs c=cV m fr e xs c:=by
   cases c with
   | own n =>
     have hn:n≠m:=fun e=>hc (by rw[e])
     simp only[m7,cV,if_neg hn]
   | _=>rfl
  rw[e1]
  exact move (tn c v h)
theorem Rel.sealB{st:St}{ts:Array Value}(r:Rel base M w0 V st ts w)(m:Nat){b:Nat}(hb:∀ fr e xs,st.au m = .row fr e xs->V.has m->b=V.aE m) :
 ∃ V',Rel base M w0 V' (st.sealB m b) ts w/\(∀ c,V.Z false c->V'.Z false c)/\(∀ fr e xs,st.au m = .row fr e xs->V.has m->V'.Z false (V.aE m)):=by
 unfold St.sealB
 cases hm:st.au m with
 | dead=>exact⟨V,r,fun c h=>h,fun fr e xs h=>by cases h⟩
 | bx cs=>exact⟨V,r,fun c h=>h,fun fr e xs h=>by cases h⟩
 | row fr e xs =>
   simp only
   have mm:=r.mem
   have eB:=mm.ck m
   rw[hm] at eB
   have jQ:fr=true->V.has m->base<=V.aE m:=fun hf hh=>by subst hf;exact mm.eK m e xs hm hh
   exact⟨V.freeze m base,r.Bz hm (Kh (base:=base) hm eB jQ (hb fr e xs hm)),fun c h=>Vl.eG h,fun _ _ _ _ hh=>Vl.uq hh⟩
theorem LZ(l:List Nat)(n:Nat):∃ b,n<=b/\∀ a∈l,b≠a:=by
 refine⟨n+l.foldr (·+·) 0+1,by omega,?_⟩
 have key:∀(l:List Nat) a,a∈l->a<=l.foldr (·+·) 0:=by
  intro l
  induction l with
  | nil=>intro a h;cases h
  | cons c l ih =>
    intro a h
    rcases List.mem_cons.1 h with h|h
    ·subst h;simp only[List.foldr_cons];omega
    ·have:=ih a h;simp only[List.foldr_cons];omega
 intro a ha
 have:=key l a ha
 omega
theorem zn{K:St->Prop}{ts:Array Value}:∀(ms:List Nat) {acc:List Nat} {V:Vl} {st:St},Rel base M w0 V st ts w->(∀ a∈acc,V.Z false a\/w.heap.size<=a)->B2 acc ms st K->∃ V' aN,Rel base M w0 V' aN ts w/\K aN
 | [],acc,V,st,r,_,h=>⟨V,st,r,h⟩
 | m::ms,acc,V,st,r,ha,h=>by
   have mm:=r.mem
   by_cases hh:V.has m/\∃ fr e xs,st.au m = .row fr e xs
   ·obtain⟨hh,fr,e,xs,hm⟩:=hh
    obtain⟨o1,o2,o3⟩:=mm.own m (by rw[hm];rfl) hh
    obtain⟨V',r',hz,hn⟩:=r.sealB m (b:=V.aE m) (fun _ _ _ _ _=>rfl)
    have UM:=Fc r o3
    have bb:cT (D3 (V.aE m) acc):=zh (fun a Ar e=>by
     rcases ha a Ar with h1|h1
     ·exact o3 (e▸h1)
     ·omega)
    refine zn ms r' (fun a Ar=>?_) (h (V.aE m) (gh UM bb))
    rcases List.mem_cons.1 Ar with e2|Ar
    ·rw[e2];exact .inl (hn fr e xs hm hh)
    ·rcases ha a Ar with h1|h1
     ·exact .inl (hz a h1)
     ·exact .inr h1
   ·obtain⟨b,dW,jW⟩:=LZ acc w.heap.size
    obtain⟨V',r',hz,_⟩:=r.sealB m (b:=b) (fun fr e xs hm h1=>absurd ⟨h1,fr,e,xs,hm⟩ hh)
    have TQ:¬V.Z false b:=fun hz=>by have:=mm.pP hz;omega
    refine zn ms r' (fun a Ar=>?_) (h b (gh (Fc r TQ) (zh jW)))
    rcases List.mem_cons.1 Ar with e2|Ar
    ·rw[e2];exact .inr dW
    ·rcases ha a Ar with h1|h1
     ·exact .inl (hz a h1)
     ·exact .inr h1
theorem Fs{f:Nat->Prop}:∀(l k:Nat) {n:Int},JI l k n f->∀ j,k<=j->j<k+l->n=(j:Int)->f j
 | 0,k,n,h,j,h1,h2,_=>by omega
 | 1,k,n,h,j,h1,h2,h3=>by
   have:j=k:=by omega
   subst this
   exact h h3
 | l+2,k,n,h,j,h1,h2,h3=>by
   by_cases hj:j=k
   ·subst hj;exact h.1 h3
   ·exact Fs (l+1) (k+1) h.2 j (by omega) (by omega) h3
theorem N_(hT:bP P T){st:St}(hs:Sat base M w0 st a w){o:Oper}{K:St->Prop}(h:KE T st o.op o.dst K)
 (hK:∀ aN v w',K aN->Sat base M w0 aN (a.put o.dst v) w'->next (a.put o.dst v) w'):o.wp P a w next Q:=by
 obtain⟨hd,V,r⟩:=hs
 unfold KE at h
 split at h
 ·rename_i t x i k8
  split at h
  ·rename_i e sz fv z ty m8 m l k n heq hx hi
   obtain⟨⟨n0,n1⟩,h⟩:=h
   have hX:=r.eval x
   rw[hx] at hX
   obtain⟨cap,⟨e1,_⟩,hh,cs,hc⟩:=hX
   have hI:=r.eval i
   rw[hi] at hI
   obtain⟨e2,_⟩:=hI
   obtain⟨hu,ti,zv,h3,h4,_⟩:=wD (eQ (hT t _ heq)).2.2
   have hB:S.ok V st.au w (.c (.box m n.toNat)) (.pointer (some ⟨V.aE m,n.toNat,none⟩)):=⟨rfl,hh,cs,hc⟩
   refine cU (v:=.pointer (some ⟨V.aE m,n.toNat,none⟩)) (w':=w) ?_ (hK _ _ w (Fs l 0 h n.toNat (by omega) (by omega) (by omega)) ⟨by rw[put_defers];exact hd,V,oe r hB _⟩)
   unfold execOp
   simp only[k8,e1,e2]
   simp[Instr.indexAt,run_underlying hu,asIntOf,n0,n1,run_sizeOf h3,h4,jS]
  ·exact h.elim
 ·exact h.elim
theorem Ci(hT:bP P T)(hΓ:dh P Γ)(hR:cj P R){st:St}(hs:Sat base M w0 st a w){o:Oper}{K:St->Prop}(h:uZ T Γ R st.eval st.au o st K)
 (hK:∀ aN v w',K aN->Sat base M w0 aN (a.put o.dst v) w'->next (a.put o.dst v) w'):o.wp P a w next Q:=by
 obtain⟨hd,V,r⟩:=hs
 unfold uZ at h
 split at h
 ·rename_i q hq
  obtain⟨h1,h2⟩:=rD h
  refine Mn hT hΓ r.mem (gW.ck r) r.eval hq (fun j _=>lE st j) h1 (fun v w' V' g=>?_)
  obtain⟨q1,q2⟩:=iU r g
  exact hK _ v w' (CZ h2 g.hy) ⟨by rw[put_defers];exact hd,V',oe q1 q2 _⟩
 ·split at h
  ·obtain⟨V1,dY,r1,h⟩:=zn _ r (fun a h=>by cases h) h
   split at h
   ·rename_i q hq
    obtain⟨h1,h2⟩:=rD h
    exact KY hT r1 hq h1 (fun v w' V' q1 q2=>hK _ v w' h2 ⟨by rw[put_defers];exact hd,V',oe q1 q2 _⟩)
   ·exact h.elim
  split at h
  ·rename_i q hq
   obtain⟨h1,h2⟩:=rD h
   exact KY hT r hq h1 (fun v w' V' q1 q2=>hK _ v w' h2 ⟨by rw[put_defers];exact hd,V',oe q1 q2 _⟩)
  ·split at h
   ·rename_i f args hc
    split at h
    ·rename_i ru Lt
     split at h
     ·exact h.elim
     rename_i Lh
     obtain⟨c,x,e1,e2,e3,e4⟩:=Cx hc
     obtain⟨k1,k2⟩:=hR f ru Lt (fun e=>Lh (by rw[e];rfl))
     have hx:=r.eval x
     rw[e3] at hx
     subst e4
     have:=k1 base M w0 V st a.tmps w _ (c.args.toList.map a.eval) _ r (by simp) (fun i s v hi hv=>by
      rw[List.getElem?_map] at hi hv
      cases j0:c.args.toList[i]? with
      | none=>rw[j0] at hi;cases hi
      | some y =>
        rw[j0] at hi hv
        simp only[Option.map_some,Option.some.injEq] at hi hv
        rw[<-hi,<-hv];exact r.eval y) h
     refine Cm (R:=_) e1 e2 hx k2 (by rw[show c.args.map a.eval=(c.args.toList.map a.eval).toArray from Array.ext' (by simp)];exact this) (fun e w' hr=>?_)
     obtain⟨v,rfl,V',s,aN,h1,h2,h3⟩:=hr
     exact⟨v,rfl,hK _ v w' h1 ⟨by rw[put_defers];exact hd,V',oe h2 h3 _⟩⟩
    ·exact h.elim
   ·exact N_ hT ⟨hd,V,r⟩ h hK
theorem P6(hR:cj P R){st:St}(hs:Sat base M w0 st a w){o:Oper}{K:St->Prop}{f:FuncId}{args:List S}(hc:sY st o.op=some (f,args)){ru:bW}(Lt:R f=some ru)(Lh:¬Nat.beq f w4=true)(h:ru args st fun s aN=>K (aN.put o.dst s))
 (hK:∀ aN v w',K aN->Sat base M w0 aN (a.put o.dst v) w'->next (a.put o.dst v) w'):o.wp P a w next Q:=by
 obtain⟨hd,V,r⟩:=hs
 obtain⟨c,x,e1,e2,e3,e4⟩:=Cx hc
 obtain⟨k1,k2⟩:=hR f ru Lt (fun e=>Lh (by rw[e];rfl))
 have hx:=r.eval x
 rw[e3] at hx
 subst e4
 have:=k1 base M w0 V st a.tmps w _ (c.args.toList.map a.eval) _ r (by simp) (fun i s v hi hv=>by
  rw[List.getElem?_map] at hi hv
  cases j0:c.args.toList[i]? with
  | none=>rw[j0] at hi;cases hi
  | some y =>
    rw[j0] at hi hv
    simp only[Option.map_some,Option.some.injEq] at hi hv
    rw[<-hi,<-hv];exact r.eval y) h
 refine Cm (R:=_) e1 e2 hx k2 (by rw[show c.args.map a.eval=(c.args.toList.map a.eval).toArray from Array.ext' (by simp)];exact this) (fun e w' hr=>?_)
 obtain⟨v,rfl,V',s,aN,h1,h2,h3⟩:=hr
 exact⟨v,rfl,hK _ v w' h1 ⟨by rw[put_defers];exact hd,V',oe h2 h3 _⟩⟩
theorem Oa(hT:bP P T)(hΓ:dh P Γ)(hR:cj P R){st:St}(hs:Sat base M w0 st a w){o:Oper}{K:St->Prop}(h:xF T Γ R st.eval st.au o st K)
 (hK:∀ aN v w',K aN->Sat base M w0 aN (a.put o.dst v) w'->next (a.put o.dst v) w'):o.wp P a w next Q:=by
 unfold xF at h
 split at h
 ·split at h
  ·rename_i f args hc
   split at h
   ·rename_i ru Lt
    split at h
    ·exact h.elim
    ·rename_i Lh
     exact P6 hR hs hc Lt Lh h hK
   ·exact h.elim
  ·exact h.elim
 ·exact Ci hT hΓ hR hs h hK
theorem qh{st:St}{ts:Array Value}(r:Rel base M w0 V st ts w){d:Nat}{v:Value}{s:S}(hv:ts[d]? = some v)(h:S.ok V st.au w s v):Rel base M w0 V (st.put (some d) s) ts w:=by
 refine⟨by show (bD st.ts d s).length=ts.size;rw[eS];simp[r.len],fun i s' v' hs cd=>?_,r.mem⟩
 have aW:(bD st.ts d s)[i]? = some s':=hs
 rw[eS,List.getElem?_set] at aW
 split at aW
 ·rename_i e
  subst e
  split at aW
  ·injection aW with aW;subst aW
   rw[hv] at cd
   injection cd with cd;subst cd
   exact h
  ·cases aW
 ·exact r.fI i s' v' aW cd
theorem qu{st:St}{ts:Array Value}(r:Rel base M w0 V st ts w){d:Nat}{s:S}(h:nth .any st.ts d=s)(hs:s ≠ .any):∃ v,ts[d]? = some v/\S.ok V st.au w s v:=by
 rw[cB] at h
 cases he:st.ts[d]? with
 | none=>rw[he] at h;exact absurd h.symm hs
 | some s' =>
   rw[he] at h
   simp only[Option.getD_some] at h
   subst h
   have aZ:=(List.getElem?_eq_some_iff.1 he).1
   have uz:d<ts.size:=by rw[<-r.len];exact aZ
   have hv:ts[d]? = some (ts[d]'uz):=Array.getElem?_eq_getElem uz
   exact⟨_,hv,r.fI d _ _ he hv⟩
theorem CD{st:St}(r:Rel base M w0 V st a.tmps w){all:Array Oper}{o:Oper} :
 match jk all o st with
 | .go=>Region.wanted o (yielded all a.tmps)=true
 | .skip=>Region.wanted o (yielded all a.tmps)=false
 | .ask d b want=>Region.wanted o (yielded all a.tmps)=(b == want)/\a.tmps[d]? = some (.bool b)
 | .bad=>True:=by
 unfold jk Region.wanted
 cases hg:o.guard with
 | none=>simp
 | some g =>
   obtain⟨j,want⟩:=g
   simp only
   rw[dH,uG]
   cases hj:(all.toList[j]?).bind (·.dst) with
   | none=>simp
   | some d =>
     have kZ:(all[j]?).bind (·.dst)=some d:=by rw[<-hj];simp
     have hy:∀ v,a.tmps[d]? = some v->yielded all a.tmps j=match v with | .bool b=>some b|_=>none:=by
      intro v hv
      unfold yielded
      rw[kZ]
      simp only[Option.bind_some,hv]
      cases v<;>rfl
     simp only
     split
     ·rename_i h
      split at h
      ·rename_i he
       obtain⟨v,h1,h2⟩:=qu r he (by simp)
       replace h2:v = .bool true:=h2
       rw[hy v h1,h2]
       cases want<;>simp_all
      ·rename_i he
       obtain⟨v,h1,h2⟩:=qu r he (by simp)
       replace h2:v = .bool false:=h2
       rw[hy v h1,h2]
       cases want<;>simp_all
      all_goals cases h
     ·rename_i h
      split at h
      ·rename_i he
       obtain⟨v,h1,h2⟩:=qu r he (by simp)
       replace h2:v = .bool true:=h2
       rw[hy v h1,h2]
       cases want<;>simp_all
      ·rename_i he
       obtain⟨v,h1,h2⟩:=qu r he (by simp)
       replace h2:v = .bool false:=h2
       rw[hy v h1,h2]
       cases want<;>simp_all
      ·cases h
      ·rename_i he
       obtain⟨v,h1,h2⟩:=qu r he (by simp)
       replace h2:v=undef:=h2
       rw[hy v h1,h2]
       simp[undef]
      ·cases h
     ·rename_i d' b' Tk h
      split at h
      ·split at h<;>cases h
      ·split at h<;>cases h
      ·rename_i b he
       obtain⟨v,h1,h2⟩:=qu r he (by simp)
       replace h2:v = .bool b:=h2.1
       injection h with e1 e2 e3
       subst e1;subst e2;subst e3
       rw[hy v h1,h2]
       exact⟨by cases b<;>cases want<;>rfl,by rw[h1,h2]⟩
      ·cases h
      ·cases h
     ·trivial
theorem Gn{st:St}(hs:Sat base M w0 st a w)(dst:Option Nat):Sat base M w0 (st.put dst .ew) (a.put dst undef) w:=by
 obtain⟨hd,V,r⟩:=hs
 exact⟨by rw[put_defers];exact hd,V,oe r (s:=.ew) (v:=undef) rfl _⟩
theorem u3(hT:bP P T)(hΓ:dh P Γ)(hR:cj P R){all:Array Oper}{K:St->Prop}(hK:∀ aN a' w',K aN->Sat base M w0 aN a' w'->Q .normal a' w') :
 ∀(l:List Oper) (i:Nat) (_:all.toList.drop i=l) (st:St) (a:Act) (w:World),Sat base M w0 st a w->ly T Γ R all l st K->wpOps P all Q (List.range' i l.length) a w
 | [],i,_,st,a,w,hs,h=>by
   rw[List.length_nil,List.range'_zero]
   exact hK st a w h hs
 | o::l,i,hl,st,a,w,hs,h=>by
   rw[List.length_cons,List.range'_succ,wpOps_cons]
   have hi:all[i]? = some o:=by
    have:(all.toList.drop i)[0]? = some o:=by rw[hl];rfl
    rw[List.getElem?_drop] at this
    simpa using this
   have dm:all.toList.drop (i+1)=l:=by
    rw[<-List.drop_drop,hl];rfl
   unfold wpOp
   simp only[hi]
   have go:∀ st,Sat base M w0 st a w->xF T Γ R st.eval st.au o st (fun aN=>ly T Γ R all l aN K)->o.wp P a w (wpOps P all Q (List.range' (i+1) l.length)) Q :=
    fun st hs h=>Oa hT hΓ hR hs h (fun aN v w' h1 h2=>u3 hT hΓ hR hK l (i+1) dm aN _ w' h2 h1)
   have skip:∀ st,Sat base M w0 st a w->ly T Γ R all l (st.put o.dst .ew) K->wpOps P all Q (List.range' (i+1) l.length) (a.put o.dst undef) w :=
    fun st hs h=>u3 hT hΓ hR hK l (i+1) dm _ _ w (Gn hs _) h
   obtain⟨hd,V,r⟩:=hs
   have lJ:=CD r (all:=all) (o:=o)
   unfold ly at h
   split at h
   ·rename_i e
    rw[e] at lJ
    rw[if_pos lJ]
    exact .inl (go st ⟨hd,V,r⟩ h)
   ·rename_i e
    rw[e] at lJ
    rw[if_neg (by simp[lJ])]
    exact skip st ⟨hd,V,r⟩ h
   ·rename_i d b want e
    rw[e] at lJ
    obtain⟨hw,hv⟩:=lJ
    have Im:b=want->Region.wanted o (yielded all a.tmps)=true:=fun e=>by rw[hw,e];simp
    cases b with
    | true =>
      have h1:=h.1 rfl
      have r1:=qh (s:=.c .gi) r hv rfl
      cases want with
      | true=>rw[if_pos (Im rfl)];exact .inl (go _ ⟨hd,V,r1⟩ h1)
      | false=>rw[if_neg (by simp[hw])];exact skip _ ⟨hd,V,r1⟩ h1
    | false =>
      have h1:=h.2 rfl
      have r1:=qh (s:=.c .ga) r hv rfl
      cases want with
      | true=>rw[if_neg (by simp[hw])];exact skip _ ⟨hd,V,r1⟩ h1
      | false=>rw[if_pos (Im rfl)];exact .inl (go _ ⟨hd,V,r1⟩ h1)
   ·exact h.elim
theorem ML(hT:bP P T)(hΓ:dh P Γ)(hR:cj P R){all:Array Oper}{i:Nat}{st:St}{K:St->Prop}(hs:Sat base M w0 st a w)(h:xd T Γ R all i st K)
 (hK:∀ aN a' w',K aN->Sat base M w0 aN a' w'->next a' w'):wpOp P all Q i next a w:=by
 unfold xd at h
 split at h
 ·rename_i o hi
  rw[dH] at hi
  have hi:all[i]? = some o:=by simpa using hi
  unfold wpOp
  simp only[hi]
  have go:∀ st,Sat base M w0 st a w->uZ T Γ R st.eval st.au o st K->o.wp P a w next Q :=
   fun st hs h=>Ci hT hΓ hR hs h (fun aN v w' h1 h2=>hK aN _ w' h1 h2)
  have skip:∀ st,Sat base M w0 st a w->K (st.put o.dst .ew)->next (a.put o.dst undef) w:=fun st hs h=>hK _ _ w h (Gn hs _)
  obtain⟨hd,V,r⟩:=hs
  have lJ:=CD r (all:=all) (o:=o)
  split at h
  ·rename_i e
   rw[e] at lJ
   rw[if_pos lJ]
   exact .inl (go st ⟨hd,V,r⟩ h)
  ·rename_i e
   rw[e] at lJ
   rw[if_neg (by simp[lJ])]
   exact skip st ⟨hd,V,r⟩ h
  ·rename_i d b want e
   rw[e] at lJ
   obtain⟨hw,hv⟩:=lJ
   have Im:b=want->Region.wanted o (yielded all a.tmps)=true:=fun e=>by rw[hw,e];simp
   cases b with
   | true =>
     have h1:=h.1 rfl
     have r1:=qh (s:=.c .gi) r hv rfl
     cases want with
     | true=>rw[if_pos (Im rfl)];exact .inl (go _ ⟨hd,V,r1⟩ h1)
     | false=>rw[if_neg (by simp[hw])];exact skip _ ⟨hd,V,r1⟩ h1
   | false =>
     have h1:=h.2 rfl
     have r1:=qh (s:=.c .ga) r hv rfl
     cases want with
     | true=>rw[if_neg (by simp[hw])];exact skip _ ⟨hd,V,r1⟩ h1
     | false=>rw[if_pos (Im rfl)];exact .inl (go _ ⟨hd,V,r1⟩ h1)
  ·exact h.elim
 ·exact h.elim
end
end Go.SX
/- A region that draws its order: what the text's order tells of each operation. No condition. -/
namespace Go.SX
open Go.RowKit
set_option linter.unusedVariables false
set_option linter.unusedSimpArgs false
section
variable {P : Program} {T : bN} {Γ : FuncId → Option PC} {R : FuncId → Option bW}
theorem JR(acc:Array Nat)(j:Nat)(l:List Edge):∀ s:Nat,(l.foldl (fun s e=>if Region.binds .any e then s ||| 2^e.on ||| acc.getD e.on 0 else s) s).testBit j=true →
 s.testBit j=true\/∃ e∈l,Region.binds .any e=true/\(j=e.on\/(acc.getD e.on 0).testBit j=true):=by
 induction l with
 | nil=>intro s h;exact .inl h
 | cons e l ih =>
   intro s h
   rw[List.foldl_cons] at h
   rcases ih _ h with h|⟨e',h1,h2,h3⟩
   ·split at h
    ·rename_i hb
     rw[Nat.testBit_or,Nat.testBit_or,Bool.or_eq_true,Bool.or_eq_true] at h
     rcases h with (h|h)|h
     ·exact .inl h
     ·right
      refine⟨e,List.mem_cons_self ..,hb,.inl ?_⟩
      rw[Nat.testBit_two_pow] at h
      simpa using (of_decide_eq_true h).symm
     ·exact .inr ⟨e,List.mem_cons_self ..,hb,.inr h⟩
    ·exact .inl h
   ·exact .inr ⟨e',List.mem_cons_of_mem _ h1,h2,h3⟩
def Oc(ops:Array Oper)(acc:Array Nat):Prop:=∀ m j,(acc.getD m 0).testBit j=true->∃ o,ops[m]? = some o/\∃ e∈o.after,Region.binds .any e=true/\(j=e.on\/(e.on<m/\(acc.getD e.on 0).testBit j=true))
theorem wu(ops:Array Oper):Oc ops (Region.before ops):=by
 unfold Region.before
 have:=Array.foldl_induction (as:=ops) (motive:=fun i acc=>acc.size=i/\Oc ops acc) (init := #[]) (f:=fun acc o =>
  acc.push (o.after.foldl (fun s e=>if Region.binds .any e then s ||| 2^e.on ||| acc.getD e.on 0 else s) 0)) ⟨rfl,fun m j h=>by simp at h⟩ (fun i acc ⟨h1,h2⟩=>by
  refine⟨by simp[h1],fun m j h=>?_⟩
  rcases Nat.lt_trichotomy m acc.size with hm|hm|hm
  ·rw[show (acc.push (ops[i].after.foldl (fun s e=>if Region.binds .any e then s ||| 2^e.on ||| acc.getD e.on 0 else s) 0)).getD m 0=acc.getD m 0 by
    simp[Array.getD,hm,Nat.lt_succ_of_lt hm,Array.getElem_push_lt]] at h
   obtain⟨o,k1,e,k2,k3,k4⟩:=h2 m j h
   refine⟨o,k1,e,k2,k3,k4.imp id fun⟨k5,k6⟩=>⟨k5,?_⟩⟩
   have:e.on<acc.size:=by omega
   simpa[Array.getD,this,Nat.lt_succ_of_lt this,Array.getElem_push_lt] using k6
  ·subst hm
   rw[show (acc.push (ops[i].after.foldl (fun s e=>if Region.binds .any e then s ||| 2^e.on ||| acc.getD e.on 0 else s) 0)).getD acc.size 0=ops[i].after.foldl (fun s e=>if Region.binds .any e then s ||| 2^e.on ||| acc.getD e.on 0 else s) 0 by
    simp[Array.getD]] at h
   rw[<-Array.foldl_toList] at h
   rcases JR acc j _ 0 h with h|⟨e,k1,k2,k3⟩
   ·simp at h
   ·refine⟨ops[i],by rw[h1];exact Array.getElem?_eq_getElem _,e,by simpa using k1,k2,k3.imp id fun k4=>?_⟩
    have aZ:e.on<acc.size:=by
     rcases Nat.lt_or_ge e.on acc.size with h|h
     ·exact h
     ·simp[Array.getD,Nat.not_lt.2 h] at k4
    exact⟨aZ,by simpa[Array.getD,aZ,Nat.lt_succ_of_lt aZ,Array.getElem_push_lt] using k4⟩
  ·simp[Array.getD,show ¬m<acc.size+1 by omega] at h)
 exact this.2
def zF(all:Array Oper)(aw:Array Bool):Prop:=∀ j oj,all[j]? = some oj->aw.getD j false=true->∀ e∈oj.after,Region.binds .any e=true->aw.getD e.on false=true
theorem ld{all:Array Oper}{aw:Array Bool}(hc:zF all aw):∀ i,(aw.getD i false=true\/i∈Region.ready .any all aw)->∀ j,(dX all i).testBit j=true->aw.getD j false=true:=by
 intro i
 induction i using Nat.strongRecOn with
 | _ i ih =>
   intro hi j hj
   obtain⟨o,h1,e,h2,h3,h4⟩:=wu all i j hj
   have he:aw.getD e.on false=true:=by
    rcases hi with hi|hi
    ·exact hc i o h1 hi e h2 h3
    ·obtain⟨_,o',h5,h6⟩:=mem_ready.1 hi
     rw[h1] at h5;injection h5 with h5;subst h5
     exact h6 e h2 h3
   rcases h4 with rfl|⟨h4,h5⟩
   ·exact he
   ·exact ih e.on h4 (.inl he) j h5
structure iL where
 cE:List Nat
 st:St
 r:Option QR
def gJ(all:Array Oper)(st:St)(o:Oper)(dY:St)(g:Bool):Prop :=
 match jk all o st with
 | .go=>dY=st/\g=true
 | .skip=>dY=st/\g=false
 | .ask d b want=>dY=st.put (some d) (.c (if b then .gi else .ga))/\g=(b == want)
 | .bad=>False
def tO(T:bN)(Γ:FuncId->Option PC)(all:Array Oper)(k l9:Nat):Nat->List Oper->List Nat->St->List iL->List Nat->St->Prop
 | _,[],cE,st,E,ni,aN=>E=[]/\ni=cE/\aN=st
 | i,o::l,cE,st,E,ni,aN=>∃ e E',E=e::E'/\e.cE=cE/\gJ all st o e.st e.r.isSome ∧
    match e.r with
    | none=>tO T Γ all k l9 (i+1) l cE (e.st.put o.dst .ew) E' ni aN
    | some q=>gF T Γ (C2 all i l9 cE e.st) (aL e.st.hp) (ED all k i e.st) o.op=some q/\tO T Γ all k l9 (i+1) l (cM cE (lmap (fun _=>i) q.new)) ((e.st.alloc q.new).put o.dst q.res) E' ni aN
def zH(E:List iL):Prop:=∀ e∈E,∀ q,e.r=some q->∀ p,q.ob=some p->p
def HU(E:List iL):Prop:=∀ e∈E,∀ q,e.r=some q->∀ p,q.hy=some p->p
theorem ng{all:Array Oper}{k l9:Nat}:∀(l:List Oper) (i:Nat) (cE:List Nat) (st:St) (K:St->Prop),po T Γ all k l9 i l cE st K →
 ∃ E ni aN,tO T Γ all k l9 i l cE st E ni aN/\zH E/\(HU E->K aN)
 | [],i,cE,st,K,h=>⟨[],cE,st,⟨rfl,rfl,rfl⟩,(fun e he=>by cases he),fun _=>h⟩
 | o::l,i,cE,st,K,h=>by
   have go:∀ dY,gJ all st o dY true->(match gF T Γ (C2 all i l9 cE dY) (aL dY.hp) (ED all k i dY) o.op with
    | some r=>Bp r.ob (po T Γ all k l9 (i+1) l (cM cE (lmap (fun _=>i) r.new)) ((dY.alloc r.new).put o.dst r.res) fun aN=>JL r.hy (K aN))
    | none=>False)->∃ E ni aN,tO T Γ all k l9 i (o::l) cE st E ni aN/\zH E/\(HU E->K aN):=by
    intro dY hr h
    split at h
    ·rename_i q hq
     obtain⟨h1,h2⟩:=rD h
     obtain⟨E,ni,aN,k1,k2,k3⟩:=ng l (i+1) _ _ _ h2
     refine⟨⟨cE,dY,some q⟩::E,ni,aN,⟨_,E,rfl,rfl,hr,hq,k1⟩,?_,fun hy=>?_⟩
     ·intro e he q' eT p hp
      rcases List.mem_cons.1 he with rfl|he
      ·injection eT with eT;subst eT;exact h1 p hp
      ·exact k2 e he q' eT p hp
     ·exact CZ (k3 fun e he=>hy e (List.mem_cons_of_mem _ he)) (fun p hp=>hy _ (List.mem_cons_self ..) q rfl p hp)
    ·exact h.elim
   have skip:∀ dY,gJ all st o dY false->po T Γ all k l9 (i+1) l cE (dY.put o.dst .ew) K->∃ E ni aN,tO T Γ all k l9 i (o::l) cE st E ni aN/\zH E/\(HU E->K aN):=by
    intro dY hr h
    obtain⟨E,ni,aN,k1,k2,k3⟩:=ng l (i+1) _ _ _ h
    refine⟨⟨cE,dY,none⟩::E,ni,aN,⟨_,E,rfl,rfl,hr,k1⟩,?_,fun hy=>k3 fun e he=>hy e (List.mem_cons_of_mem _ he)⟩
    intro e he q' eT p hp
    rcases List.mem_cons.1 he with rfl|he
    ·cases eT
    ·exact k2 e he q' eT p hp
   unfold po at h
   simp only at h
   split at h
   ·rename_i e
    exact go st (by unfold gJ;rw[e];exact⟨rfl,rfl⟩) h
   ·rename_i e
    exact skip st (by unfold gJ;rw[e];exact⟨rfl,rfl⟩) h
   ·rename_i d b want e
    have hr:gJ all st o (st.put (some d) (.c (if b then .gi else .ga))) (b == want):=by unfold gJ;rw[e];exact⟨rfl,rfl⟩
    cases b with
    | true =>
      have h1:=h.1 rfl
      cases want with
      | true=>exact go _ hr h1
      | false=>exact skip _ hr h1
    | false =>
      have h1:=h.2 rfl
      cases want with
      | true=>exact skip _ hr h1
      | false=>exact go _ hr h1
   ·exact h.elim
def wV(E:List iL)(j:Nat):S:=match E[j]? with|some e=>(match e.r with|some q=>q.res|none=>.ew)|none=>.any
structure fR (all:Array Oper) (bK:St) (E:List iL) (i:Nat) (cE:List Nat) (st:St):Prop where
 len:st.ts.length=bK.ts.length
 AQ:∀ t,(∀ j o,j<i->all[j]? = some o->o.dst≠some t)->st.ts[t]? = bK.ts[t]?
 new:∀ j o d,j<i->all[j]? = some o->o.dst=some d->∀ V hp w v,S.ok V hp w (wV E j) v->S.ok V hp w (nth .any st.ts d) v
 names:aL st.hp=aL bK.hp+cE.length
 ck:∀ n,n<aL bK.hp->st.au n=bK.au n
 zD:∀(m:Nat) j,cE[m]? = some j->j<i/\∃ e q x,E[j]? = some e/\e.r=some q/\aL bK.hp+m=aL e.st.hp+x/\x<q.new.length
 news:∀ j e q,j<i->E[j]? = some e->e.r=some q->aL bK.hp<=aL e.st.hp/\∀(x:Nat) y,q.new[x]? = some y->cE[aL e.st.hp+x-aL bK.hp]? = some j/\st.au (aL e.st.hp+x)=y
theorem ij{all:Array Oper}{k:Nat}(h:gL all k=true){i:Nat}(hi:i<k):∃ o,all[i]? = some o/\(∀ j want,o.guard=some (j,want)->j<i/\(dX all i).testBit j=true) ∧
 ∃ d,o.dst=some d/\∀ j o',j<k->j≠i->all[j]? = some o'->o'.dst≠some d:=by
 have:=List.all_eq_true.1 h i (List.mem_range.2 hi)
 split at this
 ·rename_i o ho
  rw[Bool.and_eq_true] at this
  obtain⟨h1,h2⟩:=this
  refine⟨o,ho,fun j want hg=>?_,?_⟩
  ·rw[hg] at h1
   simp only[Bool.and_eq_true,decide_eq_true_eq] at h1
   exact h1
  ·split at h2
   ·rename_i d hd
    refine⟨d,hd,fun j o' hj bb b5 he=>?_⟩
    have:=List.all_eq_true.1 h2 j (List.mem_range.2 hj)
    rw[b5] at this
    simp[bb,he] at this
   ·cases h2
 ·cases this
theorem BM{ts:List S}{d t:Nat}{s:S}:nth .any (bD ts d s) t=if t=d then (if d<ts.length then s else .any) else nth .any ts t:=by
 rw[cB,cB,eS,List.getElem?_set]
 by_cases h:d=t
 ·subst h
  simp only[if_true]
  split<;>rfl
 ·rw[if_neg h,if_neg (fun e=>h e.symm)]
theorem fR.refine{all:Array Oper}{k:Nat}{bK st:St}{E:List iL}{i:Nat}{cE:List Nat}(s:fR all bK E i cE st){o:Oper}{dY:St}{g:Bool}(fG:gL all k=true)(hi:i<k)(ho:all[i]? = some o)(hr:gJ all st o dY g) :
 fR all bK E i cE dY:=by
 unfold gJ at hr
 split at hr
 ·rw[hr.1];exact s
 ·rw[hr.1];exact s
 ·rename_i d b want hd
  rw[hr.1]
  have JB:nth .any st.ts d = .c (.val (.bool b))/\∃ j oj,j<i/\all[j]? = some oj/\oj.dst=some d:=by
   unfold jk at hd
   obtain⟨o',b5,hg,_⟩:=ij fG hi
   rw[ho] at b5;injection b5 with b5;subst b5
   split at hd
   ·cases hd
   ·rename_i j w2 Li
    split at hd
    ·rename_i d' cS
     split at hd
     ·split at hd<;>cases hd
     ·split at hd<;>cases hd
     ·rename_i b' et
      injection hd with e1 e2 e3
      subst e1;subst e2
      refine⟨et,j,?_⟩
      rw[uG,dH] at cS
      cases hj:all.toList[j]? with
      | none=>rw[hj] at cS;cases cS
      | some oj=>rw[hj] at cS;exact⟨oj,(hg j w2 Li).1,by simpa using hj,cS⟩
     ·cases hd
     ·cases hd
    ·cases hd
  obtain⟨hb,jd,od,Wf,Ww,Ra⟩:=JB
  refine⟨by show (bD st.ts d _).length=_;rw[eS,List.length_set];exact s.len,fun t ht=>?_,fun j o' d' hj b5 cS V hp w v hv=>?_,s.names,s.ck,s.zD,s.news⟩
  ·show (bD st.ts d _)[t]? = _
   rw[eS,List.getElem?_set]
   have bb:d≠t:=fun e=>by subst e;exact ht jd od Wf Ww Ra
   rw[if_neg bb]
   exact s.AQ t ht
  ·have h0:=s.new j o' d' hj b5 cS V hp w v hv
   show S.ok V hp w (nth .any (bD st.ts d _) d') v
   rw[BM]
   split
   ·rename_i e
    subst e
    split
    ·rw[hb] at h0
     replace h0:v = .bool b:=h0.1
     cases b<;>exact h0
    ·trivial
   ·exact h0
 ·exact hr.elim
theorem fR.skip{all:Array Oper}{k:Nat}{bK:St}{E:List iL}{i:Nat}{e:iL}(s:fR all bK E i e.cE e.st){o:Oper}(fG:gL all k=true)(hi:i<k)(ho:all[i]? = some o)(he:E[i]? = some e)(hr:e.r=none) :
 fR all bK E (i+1) e.cE (e.st.put o.dst .ew):=by
 obtain⟨o',b5,_,d,hd,ux⟩:=ij fG hi
 rw[ho] at b5;injection b5 with b5;subst b5
 rw[hd]
 refine⟨by show (bD e.st.ts d _).length=_;rw[eS,List.length_set];exact s.len,fun t ht=>?_,fun j o' d' hj b5 cS V hp w v hv=>?_,s.names,s.ck,fun m j hm=>?_,fun j e' q hj fk hq=>?_⟩
 ·show (bD e.st.ts d _)[t]? = _
  rw[eS,List.getElem?_set,if_neg (fun e=>by subst e;exact ht i o (by omega) ho hd)]
  exact s.AQ t fun j o hj=>ht j o (by omega)
 ·show S.ok V hp w (nth .any (bD e.st.ts d _) d') v
  rw[BM]
  by_cases gn:j=i
  ·subst gn
   rw[ho] at b5;injection b5 with b5;subst b5
   rw[hd] at cS;injection cS with cS;subst cS
   rw[if_pos rfl]
   split
   ·unfold wV at hv
    rw[he] at hv
    simp only[hr] at hv
    exact hv
   ·trivial
  ·rw[if_neg (fun e=>by subst e;exact ux j o' (by omega) gn b5 cS)]
   exact s.new j o' d' (by omega) b5 cS V hp w v hv
 ·obtain⟨h1,h2⟩:=s.zD m j hm
  exact⟨by omega,h2⟩
 ·by_cases gn:j=i
  ·subst gn
   rw[he] at fk;injection fk with fk;subst fk
   rw[hr] at hq;cases hq
  ·exact s.news j e' q (by omega) fk hq
theorem fR.step{all:Array Oper}{k:Nat}{bK:St}{E:List iL}{i:Nat}{e:iL}(s:fR all bK E i e.cE e.st){o:Oper}(fG:gL all k=true)(hi:i<k)(ho:all[i]? = some o)(he:E[i]? = some e){q:QR}(hr:e.r=some q) :
 fR all bK E (i+1) (cM e.cE (lmap (fun _=>i) q.new)) ((e.st.alloc q.new).put o.dst q.res):=by
 obtain⟨o',b5,_,d,hd,ux⟩:=ij fG hi
 rw[ho] at b5;injection b5 with b5;subst b5
 rw[hd,bT,bt]
 have dS:((e.st.alloc q.new).put (some d) q.res).au=db e.st.au (aL e.st.hp) q.new:=by rw[PA,o4]
 have hn:aL bK.hp+e.cE.length=aL e.st.hp:=s.names.symm
 refine⟨by show (bD e.st.ts d _).length=_;rw[eS,List.length_set];exact s.len,fun t ht=>?_,fun j o' d' hj b5 cS V hp w v hv=>?_,?_,fun n aZ=>?_,fun m j hm=>?_,fun j e' q' hj fk hq=>?_⟩
 ·show (bD e.st.ts d _)[t]? = _
  rw[eS,List.getElem?_set,if_neg (fun e=>by subst e;exact ht i o (by omega) ho hd)]
  exact s.AQ t fun j o hj=>ht j o (by omega)
 ·show S.ok V hp w (nth .any (bD e.st.ts d _) d') v
  rw[BM]
  by_cases gn:j=i
  ·subst gn
   rw[ho] at b5;injection b5 with b5;subst b5
   rw[hd] at cS;injection cS with cS;subst cS
   rw[if_pos rfl]
   split
   ·unfold wV at hv
    rw[he] at hv
    simp only[hr] at hv
    exact hv
   ·trivial
  ·rw[if_neg (fun e=>by subst e;exact ux j o' (by omega) gn b5 cS)]
   exact s.new j o' d' (by omega) b5 cS V hp w v hv
 ·show aL (cM e.st.hp q.new)=_
  rw[cy,bT,List.length_append,List.length_append,List.length_map,<-cy e.st.hp]
  omega
 ·rw[dS]
  unfold db
  rw[if_pos (by omega)]
  exact s.ck n aZ
 ·rcases Nat.lt_or_ge m e.cE.length with h|h
  ·rw[List.getElem?_append_left h] at hm
   obtain⟨h1,h2⟩:=s.zD m j hm
   exact⟨by omega,h2⟩
  ·rw[List.getElem?_append_right h,List.getElem?_map] at hm
   cases hq:q.new[m-e.cE.length]? with
   | none=>rw[hq] at hm;cases hm
   | some y =>
     rw[hq] at hm
     simp only[Option.map_some,Option.some.injEq] at hm
     subst hm
     exact⟨by omega,e,q,m-e.cE.length,he,hr,by omega,(List.getElem?_eq_some_iff.1 hq).1⟩
 ·by_cases gn:j=i
  ·subst gn
   rw[he] at fk;injection fk with fk;subst fk
   rw[hr] at hq;injection hq with hq;subst hq
   refine⟨by omega,fun x y hx=>⟨?_,?_⟩⟩
   ·rw[List.getElem?_append_right (by omega),List.getElem?_map,show aL e.st.hp+x-aL bK.hp-e.cE.length=x by omega,hx]
    rfl
   ·rw[dS]
    exact jZ hx
  ·obtain⟨h1,h2⟩:=s.news j e' q' (by omega) fk hq
   refine⟨h1,fun x y hx=>?_⟩
   obtain⟨h3,h4⟩:=h2 x y hx
   have aZ:=(List.getElem?_eq_some_iff.1 h3).1
   refine⟨by rw[List.getElem?_append_left aZ];exact h3,?_⟩
   rw[dS]
   unfold db
   rw[if_pos (by omega)]
   exact h4
end
end Go.SX
/- A region that draws its order: whatever the order. No condition. -/
namespace Go.SX
open Go.RowKit
set_option linter.unusedVariables false
set_option linter.unusedSimpArgs false
section
variable {P : Program} {T : bN} {Γ : FuncId → Option PC} {R : FuncId → Option bW} {all : Array Oper} {k : Nat} {bK : St} {E : List iL} {cK : List Nat} {c9 : St}
def Ea(T:bN)(Γ:FuncId->Option PC)(all:Array Oper)(k:Nat)(bK:St)(E:List iL)(i:Nat):Prop :=
 ∃ e o st,E[i]? = some e/\all[i]? = some o/\fR all bK E i e.cE st/\gJ all st o e.st e.r.isSome/\fR all bK E i e.cE e.st ∧
  (∀ q,e.r=some q->gF T Γ (C2 all i (aL bK.hp) e.cE e.st) (aL e.st.hp) (ED all k i e.st) o.op=some q)
theorem oF(fG:gL all k=true):∀(l:List Oper) (i:Nat) (cE:List Nat) (st:St) (Er:List iL),(all.toList.take k).drop i=l->E.drop i=Er->i+l.length=k →
 tO T Γ all k (aL bK.hp) i l cE st Er cK c9->fR all bK E i cE st->(∀ j,i<=j->j<k->Ea T Γ all k bK E j)/\fR all bK E k cK c9
 | [],i,cE,st,Er,_,_,hi,hc,s=>by
   obtain⟨_,rfl,rfl⟩:=hc
   have:i=k:=by simpa using hi
   subst this
   exact⟨fun j h1 h2=>by omega,s⟩
 | o::l,i,cE,st,Er,hl,hE,hi,hc,s=>by
   obtain⟨e,E',rfl,rfl,hr,hc⟩:=hc
   have gD:i<k:=by simp only[List.length_cons] at hi;omega
   have ho:all[i]? = some o:=by
    have:((all.toList.take k).drop i)[0]? = some o:=by rw[hl];rfl
    rw[List.getElem?_drop,List.getElem?_take] at this
    simpa[gD] using this
   have dm:(all.toList.take k).drop (i+1)=l:=by rw[<-List.drop_drop,hl];rfl
   have he:E[i]? = some e:=by
    have:(E.drop i)[0]? = some e:=by rw[hE];rfl
    rw[List.getElem?_drop] at this
    simpa using this
   have Oz:E.drop (i+1)=E':=by rw[<-List.drop_drop,hE];rfl
   have s1:=s.refine fG gD ho hr
   have c7:i+1+l.length=k:=by simp only[List.length_cons] at hi;omega
   cases k_:e.r with
   | none =>
     rw[k_] at hc
     obtain⟨k1,k2⟩:=oF fG l (i+1) _ _ E' dm Oz c7 hc (s1.skip fG gD ho he k_)
     refine⟨fun j h1 h2=>?_,k2⟩
     by_cases hj:j=i
     ·subst hj
      exact⟨e,o,st,he,ho,s,hr,s1,fun q hq=>by rw[k_] at hq;cases hq⟩
     ·exact k1 j (by omega) h2
   | some q =>
     rw[k_] at hc
     obtain⟨hq,hc⟩:=hc
     obtain⟨k1,k2⟩:=oF fG l (i+1) _ _ E' dm Oz c7 hc (s1.step fG gD ho he k_)
     refine⟨fun j h1 h2=>?_,k2⟩
     by_cases hj:j=i
     ·subst hj
      exact⟨e,o,st,he,ho,s,hr,s1,fun q' eT=>by rw[k_] at eT;injection eT with eT;subst eT;exact hq⟩
     ·exact k1 j (by omega) h2
theorem A6(all:Array Oper)(bK:St)(E:List iL):fR all bK E 0 [] bK :=
 ⟨rfl,fun _ _=>rfl,fun _ _ _ h=>absurd h (Nat.not_lt_zero _),rfl,fun _ _=>rfl,(fun m j h=>by cases h),fun _ _ _ h=>absurd h (Nat.not_lt_zero _)⟩
def jR(bK:St)(cK:List Nat)(c9:St)(L:Nat->Bool)(n:Nat):ax :=
 if n<aL bK.hp then bK.au n else match cK[n-aL bK.hp]? with|some j=>if L j then c9.au n else .dead|none=>.dead
theorem PF{L:Nat->Bool}{n:Nat}(h:n<aL bK.hp):jR bK cK c9 L n=bK.au n:=by unfold jR;rw[if_pos h]
theorem BF{L:Nat->Bool}{n j:Nat}(h:aL bK.hp<=n)(hw:cK[n-aL bK.hp]? = some j):jR bK cK c9 L n=if L j then c9.au n else .dead:=by
 unfold jR;rw[if_neg (by omega),hw]
structure Inv (base:Nat) (M:LM) (w0:World) (all:Array Oper) (k:Nat) (bK:St) (E:List iL) (cK:List Nat) (c9:St) (L:Nat->Bool) (a:Act) (w:World):Prop where
 defers:a.defers=[]
 size:bK.ts.length=a.tmps.size
 ex:∃ V,Mem base M w0 V (jR bK cK c9 L) w ∧
  (∀(t:Nat) s v,(∀ j o,j<k->all[j]? = some o->o.dst≠some t)->bK.ts[t]? = some s->a.tmps[t]? = some v->S.ok V (jR bK cK c9 L) w s v) ∧
  (∀ j o d v,j<k->L j=true->all[j]? = some o->o.dst=some d->a.tmps[d]? = some v->S.ok V (jR bK cK c9 L) w (wV E j) v)
 hy:∀ j e q,j<k->L j=true->E[j]? = some e->e.r=some q->∀ p,q.hy=some p->p
variable {base : Nat} {M : LM} {w0 : World} {a : Act} {w : World} {L : Nat → Bool} {next : Act → World → Prop} {Q : Exit → Act → World → Prop}
theorem oX{a:Act}{d t:Nat}{v:Value}(h:d≠t):(a.put (some d) v).tmps[t]? = a.tmps[t]? := by
 show (a.tmps.setIfInBounds d v)[t]? = _
 exact Array.getElem?_setIfInBounds_ne h
theorem yJ{a:Act}{d:Nat}{v u:Value}(h:(a.put (some d) v).tmps[d]? = some u):u=v:=by
 have h':(a.tmps.setIfInBounds d v)[d]? = some u:=h
 rw[Array.getElem?_setIfInBounds] at h'
 simp only[if_true] at h'
 split at h'
 ·injection h' with h';exact h'.symm
 ·cases h'
def ie(L:Nat->Bool)(i j:Nat):Bool:=if j=i then true else L j
theorem Dk{V:Vl}{hp:Nat->ax}{i:Nat}{cE:List Nat}{st:St}{o:Oper}{dY:St}{g:Bool}(fG:gL all k=true)(hi:i<k)(ho:all[i]? = some o)(hr:gJ all st o dY g)(s:fR all bK E i cE st)
 (cv:bK.ts.length=a.tmps.size) (hL:∀ j,(dX all i).testBit j=true->L j=true)
 (Fe:∀ j o d v,j<k->L j=true->all[j]? = some o->o.dst=some d->a.tmps[d]? = some v->S.ok V hp w (wV E j) v) :
 Region.wanted o (yielded all a.tmps)=g:=by
 obtain⟨o',b5,hg,_⟩:=ij fG hi
 rw[ho] at b5;injection b5 with b5;subst b5
 unfold gJ jk at hr
 unfold Region.wanted
 cases Li:o.guard with
 | none =>
   rw[Li] at hr
   simp only at hr
   exact hr.2.symm
 | some gw =>
   obtain⟨j,want⟩:=gw
   obtain⟨E1,E2⟩:=hg j want Li
   rw[Li] at hr
   simp only[dH,uG] at hr
   cases Lm:all[j]? with
   | none =>
     have:all.toList[j]? = none:=by simpa using Lm
     rw[this] at hr
     exact hr.elim
   | some oj =>
     have UF:all.toList[j]? = some oj:=by simpa using Lm
     rw[UF,Option.bind_some] at hr
     cases hd:oj.dst with
     | none=>rw[hd] at hr;exact hr.elim
     | some d =>
       rw[hd] at hr
       simp only at hr
       have slot:∀ sl,nth .any st.ts d=sl->sl ≠ .any->∃ v,a.tmps[d]? = some v/\S.ok V hp w sl v:=by
        intro sl h1 h2
        rw[<-h1] at h2 ⊢
        have aZ:d<st.ts.length:=by
         rcases Nat.lt_or_ge d st.ts.length with h|h
         ·exact h
         ·exact absurd (by rw[cB,List.getElem?_eq_none h];rfl) h2
        have uz:d<a.tmps.size:=by rw[<-cv,<-s.len];exact aZ
        have hv:a.tmps[d]? = some (a.tmps[d]'uz):=Array.getElem?_eq_getElem uz
        exact⟨_,hv,s.new j oj d E1 Lm hd V hp w _ (Fe j oj d _ (by omega) (hL j E2) Lm hd hv)⟩
       have hy:∀ v,a.tmps[d]? = some v->yielded all a.tmps j=match v with | .bool b=>some b|_=>none:=by
        intro v hv
        unfold yielded
        rw[Lm,Option.bind_some,hd,Option.bind_some,hv]
        cases v<;>rfl
       simp only
       split at hr
       ·rename_i e
        split at e
        ·rename_i he
         obtain⟨v,h1,h2⟩:=slot _ he (by simp)
         replace h2:v = .bool true:=h2
         rw[hr.2,hy v h1,h2]
         cases want<;>simp_all
        ·rename_i he
         obtain⟨v,h1,h2⟩:=slot _ he (by simp)
         replace h2:v = .bool false:=h2
         rw[hr.2,hy v h1,h2]
         cases want<;>simp_all
        all_goals cases e
       ·rename_i e
        split at e
        ·rename_i he
         obtain⟨v,h1,h2⟩:=slot _ he (by simp)
         replace h2:v = .bool true:=h2
         rw[hr.2,hy v h1,h2]
         cases want<;>simp_all
        ·rename_i he
         obtain⟨v,h1,h2⟩:=slot _ he (by simp)
         replace h2:v = .bool false:=h2
         rw[hr.2,hy v h1,h2]
         cases want<;>simp_all
        ·cases e
        ·rename_i he
         obtain⟨v,h1,h2⟩:=slot _ he (by simp)
         replace h2:v=undef:=h2
         rw[hr.2,hy v h1,h2]
         simp[undef]
        ·cases e
       ·rename_i d' b' Tk e
        split at e
        ·split at e<;>cases e
        ·split at e<;>cases e
        ·rename_i b he
         obtain⟨v,h1,h2⟩:=slot _ he (by simp)
         replace h2:v = .bool b:=h2.1
         injection e with e1 e2 e3
         subst e1;subst e2;subst e3
         rw[hr.2,hy v h1,h2]
         cases b<;>cases want<;>rfl
        ·cases e
        ·cases e
       ·exact hr.elim
theorem pO:∀ {k t j:Nat},lS all t k=some j->j<k/\∃ o,all[j]? = some o/\o.dst=some t
 | 0,t,j,h=>by cases h
 | k+1,t,j,h=>by
   unfold lS at h
   split at h
   ·rename_i o ho
    split at h
    ·rename_i hd
     injection h with h;subst h
     exact⟨by omega,o,ho,hd⟩
    ·obtain⟨h1,h2⟩:=pO h
     exact⟨by omega,h2⟩
   ·obtain⟨h1,h2⟩:=pO h
    exact⟨by omega,h2⟩
theorem lz:∀ {k t:Nat},lS all t k=none->∀ j o,j<k->all[j]? = some o->o.dst≠some t
 | 0,t,_,j,o,hj,_=>absurd hj (Nat.not_lt_zero _)
 | k+1,t,h,j,o,hj,ho=>by
   unfold lS at h
   split at h
   ·rename_i o' b5
    split at h
    ·cases h
    ·rename_i hd
     by_cases Ri:j=k
     ·subst Ri
      rw[ho] at b5;injection b5 with b5;subst b5
      exact hd
     ·exact lz h j o (by omega) ho
   ·rename_i hn
    by_cases Ri:j=k
    ·subst Ri
     exact absurd ho (by rw[hn];simp)
    ·exact lz h j o (by omega) ho
theorem K0{V:Vl}{hp:Nat->ax}{i:Nat}{cE:List Nat}{st:St}(hi:i<=k)(s:fR all bK E i cE st)(aZ:∀ j,(dX all i).testBit j=true->j<i)
 (cv:bK.ts.length=a.tmps.size) (hL:∀ j,(dX all i).testBit j=true->L j=true)
 (hold:∀(t:Nat) s v,(∀ j o,j<k->all[j]? = some o->o.dst≠some t)->bK.ts[t]? = some s->a.tmps[t]? = some v->S.ok V hp w s v)
 (Fe:∀ j o d v,j<k->L j=true->all[j]? = some o->o.dst=some d->a.tmps[d]? = some v->S.ok V hp w (wV E j) v) (x:Operand) :
 S.ok V hp w (ED all k i st x) (a.eval x):=by
 have RJ:∀ t,(∀ s v,st.ts[t]? = some s->a.tmps[t]? = some v->S.ok V hp w s v)->S.ok V hp w (st.eval (.tmp t)) (a.eval (.tmp t)):=by
  intro t h
  show S.ok V hp w (nth .any st.ts t) (a.tmps.getD t undef)
  rw[cB]
  cases hs:st.ts[t]? with
  | none=>trivial
  | some sl =>
    have ht:t<a.tmps.size:=by have:=(List.getElem?_eq_some_iff.1 hs).1;rw[s.len,cv] at this;exact this
    have hv:a.tmps[t]? = some a.tmps[t]:=Array.getElem?_eq_getElem ht
    have:=h sl _ hs hv
    simpa[Array.getD,ht] using this
 cases x with
 | tmp t =>
   unfold ED
   simp only
   split
   ·rename_i j hj
    obtain⟨h1,o,h2,h3⟩:=pO hj
    split
    ·rename_i hm
     refine RJ t fun sl v hs hv=>?_
     have:=s.new j o t (aZ j hm) h2 h3 V hp w v (Fe j o t v h1 (hL j hm) h2 h3 hv)
     rw[cB,hs] at this
     exact this
    ·trivial
   ·rename_i hn
    refine RJ t fun sl v hs hv=>?_
    rw[s.AQ t fun j o hj=>lz hn j o (by omega)] at hs
    exact hold t sl v (lz hn) hs hv
 | const v=>exact FL v
 | global g=>trivial
 | func f=>exact⟨rfl,fun n hn=>by simp at hn⟩
theorem R5{V:Vl}{i:Nat}{cE:List Nat}{st:St}(hi:i<k)(s:fR all bK E i cE st)(f:fR all bK E k cK c9)(hL:∀ j,(dX all i).testBit j=true->L j=true)
 (m:Mem base M w0 V (jR bK cK c9 L) w):gW V (jR bK cK c9 L) (C2 all i (aL bK.hp) cE st) w:=by
 intro n hl
 have he:C2 all i (aL bK.hp) cE st n=jR bK cK c9 L n:=by
  unfold C2 at hl ⊢
  split
  ·rename_i hn
   rw[PF hn]
   exact s.ck n hn
  ·rename_i hn
   rw[if_neg hn] at hl
   rw[dH] at hl ⊢
   cases hw:cE[n-aL bK.hp]? with
   | none=>rw[hw] at hl;cases hl
   | some j =>
     rw[hw] at hl
     simp only at hl ⊢
     split at hl
     ·rename_i hm
      rw[if_pos hm]
      obtain⟨h1,e,q,x,h2,h3,h4,h5⟩:=s.zD _ j hw
      have hx:q.new[x]? = some q.new[x]:=List.getElem?_eq_getElem h5
      obtain⟨h6,h7⟩:=s.news j e q h1 h2 h3
      obtain⟨h8,h9⟩:=f.news j e q (by omega) h2 h3
      have jX:n=aL e.st.hp+x:=by omega
      rw[BF (j:=j) (by omega) (by rw[jX];exact (h9 x _ hx).1),if_pos (hL j hm),jX,(h7 x _ hx).2,(h9 x _ hx).2]
     ·cases hl
 rw[he]
 exact⟨rfl,m.ck n⟩
theorem Fv{i:Nat}{e:iL}{o:Oper}(fG:gL all k=true)(hi:i<k)(he:E[i]? = some e)(ho:all[i]? = some o)(hr:e.r=none)(f:fR all bK E k cK c9)
 (v:Inv base M w0 all k bK E cK c9 L a w):Inv base M w0 all k bK E cK c9 (ie L i) (a.put o.dst undef) w:=by
 obtain⟨o',b5,_,d,hd,ux⟩:=ij fG hi
 rw[ho] at b5;injection b5 with b5;subst b5
 have mU:jR bK cK c9 (ie L i)=jR bK cK c9 L:=by
  funext n
  unfold jR
  split
  ·rfl
  ·split
   ·rename_i j hj
    obtain⟨_,e',q,x,h2,h3,_⟩:=f.zD _ j hj
    have:j≠i:=fun h=>by subst h;rw[he] at h2;injection h2 with h2;subst h2;rw[hr] at h3;cases h3
    unfold ie
    rw[if_neg this]
   ·rfl
 obtain⟨V,h1,h2,h3⟩:=v.ex
 rw[hd]
 refine⟨by rw[put_defers];exact v.defers,by rw[v.size];show _=(a.tmps.setIfInBounds d undef).size;simp,⟨V,by rw[mU];exact h1,fun t s v' gE hs hv=>?_,fun j o' d' v' hj hL b5 cS hv=>?_⟩,fun j e' q hj hL fk hq=>?_⟩
 ·rw[mU]
  rw[oX (fun e=>by subst e;exact gE i o hi ho hd)] at hv
  exact h2 t s v' gE hs hv
 ·rw[mU]
  by_cases gn:j=i
  ·subst gn
   rw[ho] at b5;injection b5 with b5;subst b5
   rw[hd] at cS;injection cS with cS;subst cS
   rw[yJ hv]
   unfold wV
   rw[he]
   simp only[hr]
   rfl
  ·rw[oX (fun e=>by subst e;exact ux j o' hj gn b5 cS)] at hv
   exact h3 j o' d' v' hj (by unfold ie at hL;rw[if_neg gn] at hL;exact hL) b5 cS hv
 ·by_cases gn:j=i
  ·subst gn
   rw[he] at fk;injection fk with fk;subst fk
   rw[hr] at hq;cases hq
  ·exact v.hy j e' q hj (by unfold ie at hL;rw[if_neg gn] at hL;exact hL) fk hq
theorem LJ(hT:bP P T)(hΓ:dh P Γ){i:Nat}{e:iL}{o:Oper}(fG:gL all k=true)(hi:i<k)(he:E[i]? = some e)(ho:all[i]? = some o){q:QR}(hr:e.r=some q)(dr:∀ p,q.ob=some p->p)
 (s:fR all bK E i e.cE e.st) (f:fR all bK E k cK c9) (hq:gF T Γ (C2 all i (aL bK.hp) e.cE e.st) (aL e.st.hp) (ED all k i e.st) o.op=some q)
 (aZ:∀ j,(dX all i).testBit j=true->j<i) (hL:∀ j,(dX all i).testBit j=true->L j=true) (CS:L i=false)
 (v:Inv base M w0 all k bK E cK c9 L a w) (h:∀ u w',Inv base M w0 all k bK E cK c9 (ie L i) (a.put o.dst u) w'->next (a.put o.dst u) w'):o.wp P a w next Q:=by
 obtain⟨o',b5,_,d,hd,ux⟩:=ij fG hi
 rw[ho] at b5;injection b5 with b5;subst b5
 obtain⟨V,h1,h2,h3⟩:=v.ex
 obtain⟨n1,n2⟩:=f.news i e q hi he hr
 have mT:∀ j,j<q.new.length->jR bK cK c9 L (aL e.st.hp+j) = .dead:=by
  intro j hj
  have hx:q.new[j]? = some q.new[j]:=List.getElem?_eq_getElem hj
  rw[BF (j:=i) (by omega) (n2 j _ hx).1,CS]
  rfl
 have mU:db (jR bK cK c9 L) (aL e.st.hp) q.new=jR bK cK c9 (ie L i):=by
  funext n
  rcases fo (jR bK cK c9 L) (aL e.st.hp) q.new n with ⟨j,y,k1,k2,k3⟩|⟨k1,k2⟩
  ·rw[k3,BF (j:=i) (by omega) (by rw[k1];exact (n2 j y k2).1)]
   unfold ie
   rw[if_pos rfl,k1]
   simp only[if_true]
   exact ((n2 j y k2).2).symm
  ·rw[k2]
   unfold jR
   split
   ·rfl
   ·rename_i hn
    split
    ·rename_i j hj
     have:j≠i:=fun gn=>by
      subst gn
      obtain⟨_,e',q',x,g2,g3,g4,g5⟩:=f.zD _ j hj
      rw[he] at g2;injection g2 with g2;subst g2
      rw[hr] at g3;injection g3 with g3;subst g3
      omega
     unfold ie
     rw[if_neg this]
    ·rfl
 refine Mn hT hΓ h1 (R5 hi s f hL h1) (K0 (Nat.le_of_lt hi) s aZ v.size hL h2 h3) hq mT dr (fun u w' V' g=>?_)
 refine h u w' ?_
 rw[hd]
 have gx:=g.vx
 have gm:=g.mem
 have gr:=g.res
 rw[mU] at gx gm gr
 refine⟨by rw[put_defers];exact v.defers,by rw[v.size];show _=(a.tmps.setIfInBounds d u).size;simp,⟨V',gm,fun t s' v' gE hs hv=>?_,fun j o' d' v' hj EU b5 cS hv=>?_⟩,fun j e' q' hj EU fk eT=>?_⟩
 ·rw[oX (fun e=>by subst e;exact gE i o hi ho hd)] at hv
  exact S.ka gx (h2 t s' v' gE hs hv)
 ·by_cases gn:j=i
  ·subst gn
   rw[ho] at b5;injection b5 with b5;subst b5
   rw[hd] at cS;injection cS with cS;subst cS
   rw[yJ hv]
   unfold wV
   rw[he]
   simp only[hr]
   exact gr
  ·rw[oX (fun e=>by subst e;exact ux j o' hj gn b5 cS)] at hv
   exact S.ka gx (h3 j o' d' v' hj (by unfold ie at EU;rw[if_neg gn] at EU;exact EU) b5 cS hv)
 ·by_cases gn:j=i
  ·subst gn
   rw[he] at fk;injection fk with fk;subst fk
   rw[hr] at eT;injection eT with eT;subst eT
   exact g.hy
  ·exact v.hy j e' q' hj (by unfold ie at EU;rw[if_neg gn] at EU;exact EU) fk eT
theorem BK(ir:∀ j,j<k->L j=true)(hE:E.length=k)(f:fR all bK E k cK c9)(v:Inv base M w0 all k bK E cK c9 L a w):Sat base M w0 c9 a w/\HU E:=by
 obtain⟨V,h1,h2,h3⟩:=v.ex
 have mU:jR bK cK c9 L=c9.au:=by
  funext n
  unfold jR
  split
  ·rename_i hn;exact (f.ck n hn).symm
  ·rename_i hn
   split
   ·rename_i j hj
    rw[if_pos (ir j (f.zD _ j hj).1)]
   ·rename_i hj
    have lW:=List.getElem?_eq_none_iff.1 hj
    have jX:=f.names
    show ax.dead=nth .dead c9.hp n
    rw[cB,List.getElem?_eq_none (by rw[<-cy];omega)]
    rfl
 rw[mU] at h1 h2 h3
 refine⟨⟨v.defers,V,⟨by rw[f.len];exact v.size,fun t s u hs hu=>?_,h1⟩⟩,fun e he q hq=>?_⟩
 ·by_cases hd:∃ j o,j<k/\all[j]? = some o/\o.dst=some t
  ·obtain⟨j,o,hj,ho,hd⟩:=hd
   have:=f.new j o t hj ho hd V c9.au w u (h3 j o t u hj (ir j hj) ho hd hu)
   rw[cB,hs] at this
   exact this
  ·have gE:∀ j o,j<k->all[j]? = some o->o.dst≠some t:=fun j o hj ho h=>hd ⟨j,o,hj,ho,h⟩
   rw[f.AQ t gE] at hs
   exact h2 t s u gE hs hu
 ·obtain⟨j,hj,rfl⟩:=List.mem_iff_getElem.1 he
  exact v.hy j _ q (by omega) (ir j (by omega)) (List.getElem?_eq_getElem hj) hq
end
end Go.SX
