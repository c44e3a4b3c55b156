/- A verified symbolic executor and its contracts (part SxB). No condition. -/
import Derived.Test.YtobmiihdfklmaaaGreatSxA
import Derived.Orders
/- What a write leaves of the symbolic values; rows that are not written any more. No condition. -/
namespace Go.SX
open Go.RowKit
set_option linter.unusedVariables false
set_option linter.unusedSimpArgs false
def bY(f:C->C)(hp:Nat->az)(n:Nat):az:=(hp n).map f
def aD(hp:Nat->az)(m:Nat)(e:az)(n:Nat):az:=if n=m then e else hp n
theorem jr(st:St)(f:C->C):(st.map f).an=bY f st.an:=by
 funext n
 show nth .dead (lmap (az.map f) st.hp) n=(nth .dead st.hp n).map f
 rw[cT,cT,bS,List.getElem?_map]
 cases st.hp[n]? <;> rfl
theorem gZ{hp:List az}{m:Nat}(hm:m<hp.length)(e:az)(ts:List S):(St.mk ts (bP hp m e)).an=aD (fun n=>nth .dead hp n) m e:=by
 funext n
 show nth .dead (bP hp m e) n=if n=m then e else nth .dead hp n
 rw[cT,cT,ga,List.getElem?_set]
 by_cases h:m=n
 ·subst h;simp[hm]
 ·rw[if_neg h,if_neg (fun h'=>h h'.symm)]
theorem iJ{st:St}{n:Nat}(h:(st.an n).live=true):n<st.hp.length:=by
 have h':(nth .dead st.hp n).live=true:=h
 rw[cT] at h'
 cases hn:st.hp[n]? with
 | none=>rw[hn] at h';cases h'
 | some e=>exact (List.getElem?_eq_some_iff.1 hn).1
section
variable {V V' : Vl} {hp aJ : Nat → az} {w w' : World} {f : C → C}
def pn(V:Vl)(hp:Nat->az)(w:World)(f:C->C)(V':Vl)(aJ:Nat->az)(w':World):Prop:=∀ c v,C.ok V hp w c v->C.ok V' aJ w' (f c) v
theorem pn.all(t:pn V hp w f V' aJ w'){cs:List C}{vs:List Value}(h:bO V hp w cs vs):bO V' aJ w' (lmap f cs) vs:=by
 rw[bS]
 refine⟨by simp[h.1],fun j c v hc hv=>?_⟩
 rw[List.getElem?_map] at hc
 cases hx:cs[j]? with
 | none=>rw[hx] at hc;cases hc
 | some x=>rw[hx] at hc;simp only[Option.map_some,Option.some.injEq] at hc;subst hc;exact t _ _ (h.2 j x v hx hv)
theorem pn.s(t:pn V hp w f V' aJ w'){s:S}{v:Value}(h:S.ok V hp w s v):S.ok V' aJ w' (S.map f s) v:=by
 cases s with
 | c x=>exact t _ _ h
 | agg cs=>obtain⟨vs,h1,h2⟩:=h;exact⟨vs,h1,t.all h2⟩
 | sP xs =>
   obtain⟨vs,h1,h2,h3⟩:=h
   refine⟨vs,h1,by rw[bS,List.length_map];exact h2,fun j x v hx hv=>?_⟩
   rw[bS,List.getElem?_map] at hx
   cases hy:xs[j]? with
   | none=>rw[hy] at hx;cases hx
   | some y =>
     rw[hy] at hx
     simp only[Option.map_some,Option.some.injEq] at hx
     subst hx
     have:=h3 j y v hy hv
     unfold mo at this ⊢
     simp only
     split
     ·rename_i hb;rw[if_pos hb] at this;obtain⟨us,k1,k2⟩:=this;exact⟨us,k1,t.all k2⟩
     ·rename_i hb;rw[if_neg hb] at this;exact t.all this
 | fh=>exact h
 | arr e xs=>exact S.xL h
 | any=>trivial
theorem xo{f:C->C}{e:az}(h:(e.map f).hD):e.hD:=by
 cases e with
 | row fr e xs=>exact h
 | _=>exact h.elim
theorem gU{fr:Bool}{e:Ty}{xs:List e.den}(h:(az.row fr e xs).hD):(e.flat||e.bQ)=true:=by
 cases fr with
 | false=>exact h
 | true=>exact h.elim
theorem vo{e:az}(h:e.hD):e.live=true:=by
 cases e with
 | row fr e xs=>rfl
 | _=>exact h.elim
theorem ED{f:C->C}(e:az):(e.map f).gE=e.gE:=by cases e<;>rfl
theorem vq{f:C->C}(e:az):(e.map f).BJ=e.BJ:=by cases e<;>rfl
theorem oJ(e:az):(e.map f).live=e.live:=by cases e<;>rfl
def EZ(f:C->C):Prop:=∀ c,f c=c\/f c = .any
theorem C.yi(hf:EZ f){c:C}{v:Value}(h:C.ok V hp w c v):C.ok V (bY f hp) w (f c) v:=by
 rcases hf c with e|e
 ·rw[e]
  have ch:∀ {n fr e xs},hp n = .row fr e xs->bY f hp n = .row fr e xs:=fun {n fr e xs} h=>by show (hp n).map f=_;rw[h];rfl
  have mz:∀ {n cs},hp n = .bx cs->∃ dm,bY f hp n = .bx dm:=fun {n cs} h=>⟨lmap f cs,by show (hp n).map f=_;rw[h];rfl⟩
  cases c with
  | own n=>obtain⟨fr,e,xs,h1,h2⟩:=h;exact⟨fr,e,xs,ch h1,h2⟩
  | pre n k=>obtain⟨fr,e,xs,h1,h2⟩:=h;exact⟨fr,e,xs,ch h1,h2⟩
  | fP n e' ys=>obtain⟨⟨fr,e,xs,h1⟩,h2⟩:=h;exact⟨⟨fr,e,xs,ch h1⟩,h2⟩
  | box n off=>obtain⟨h1,h2,cs,h3⟩:=h;exact⟨h1,h2,mz h3⟩
  | eR n i off=>obtain⟨h0,fr,e,xs,h1,h2⟩:=h;exact⟨h0,fr,e,xs,ch h1,h2⟩
  | fn g ea=>exact⟨h.1,fun n hn=>⟨(h.2 n hn).1,let ⟨_,cs,h3⟩:=h.2 n hn;mz h3⟩⟩
  | _=>exact h
 ·rw[e];exact C.dA h
theorem az.yi(hf:EZ f){n:Nat}{e:az}(h:e.ok V hp w n):(e.map f).ok V (bY f hp) w n:=by
 cases e with
 | dead=>trivial
 | bx cs=>obtain⟨ak,el,h1,h2⟩:=h;exact⟨ak,el,h1,pn.all (fun c v hc=>C.yi hf hc) h2⟩
 | row fr e xs=>exact h
theorem Rel.kill{base:Nat}{M:LM}{w0:World}{st:St}{ts:Array Value}(hf:EZ f)(r:Rel base M w0 V st ts w):Rel base M w0 V (st.map f) ts w:=by
 have m:=r.mem
 refine⟨by show (lmap _ _).length=_;rw[bS,List.length_map];exact r.len,fun i s v hs hv=>?_,?_⟩
 ·rw[jr]
  have bb:(lmap (S.map f) st.ts)[i]? = some s:=hs
  rw[bS,List.getElem?_map] at bb
  cases hx:st.ts[i]? with
  | none=>rw[hx] at bb;cases bb
  | some x =>
    rw[hx] at bb
    simp only[Option.map_some,Option.some.injEq] at bb
    subst bb
    exact pn.s (fun c v hc=>C.yi hf hc) (r.iZ i x v hx hv)
 ·rw[jr]
  refine⟨fun n=>az.yi hf (m.cE n),fun n cs h=>?_,fun n hl=>m.own n (by rw[<-oJ (f:=f)];exact hl),fun n e xs h=>?_,fun n n' hl eo=>m.gi n n' (by rw[<-oJ (f:=f)];exact hl) (by rw[<-oJ (f:=f)];exact eo),m.z0,m.z1,m.kept,fun n hl hh=>m.jO n (xo hl) hh,fun b hb=>⟨by show ((st.an 0).map f).BJ=true;rw[vq];exact (m.oh b hb).1,(m.oh b hb).2⟩,fun n hh i hi=>m.gE n hh i (by rw[<-ED (f:=f)];exact hi)⟩
  ·have h':(st.an n).map f = .bx cs:=h
   cases hn:st.an n with
   | bx dm=>exact m.box n dm hn
   | dead=>rw[hn] at h';cases h'
   | row fr e xs=>rw[hn] at h';cases h'
  ·have h':(st.an n).map f = .row true e xs:=h
   cases hn:st.an n with
   | row fr e' br=>rw[hn] at h';exact m.fY n e xs (by rw[hn];exact h')
   | dead=>rw[hn] at h';cases h'
   | bx cs=>rw[hn] at h';cases h'
theorem DK(m:Nat):EZ (bI m):=fun c =>
 match c with
 | .val _=>.inl rfl
 | .iB =>.inl rfl
 | .iq =>.inl rfl
 | .rd _ _ _=>.inl rfl
 | .own n=>if h:n=m then .inr (if_pos h) else .inl (if_neg h)
 | .pre n _=>if h:n=m then .inr (if_pos h) else .inl (if_neg h)
 | .fP n _ _=>if h:n=m then .inr (if_pos h) else .inl (if_neg h)
 | .box _ _=>.inl rfl
 | .at_ _ _ _ _=>.inl rfl
 | .eR n _ _=>if h:n=m then .inr (if_pos h) else .inl (if_neg h)
 | .fn _ _=>.inl rfl
 | .ca _ _ _ _=>.inl rfl
 | .rg _ _ _ _ _=>.inl rfl
 | .any =>.inl rfl
theorem DJ(m:Nat):EZ (cN m):=fun c =>
 match c with
 | .val _=>.inl rfl
 | .iB =>.inl rfl
 | .iq =>.inl rfl
 | .rd _ _ _=>.inl rfl
 | .own _=>.inl rfl
 | .pre _ _=>.inl rfl
 | .fP n _ _=>if h:n=m then .inr (if_pos h) else .inl (if_neg h)
 | .box _ _=>.inl rfl
 | .at_ _ _ _ _=>.inl rfl
 | .eR _ _ _=>.inl rfl
 | .fn _ _=>.inl rfl
 | .ca _ _ _ _=>.inl rfl
 | .rg _ _ _ _ _=>.inl rfl
 | .any =>.inl rfl
def C.names(m:Nat):C->Bool
 | .own n=>n == m
 | .pre n _=>n == m
 | .fP n _ _=>n == m
 | .eR n _ _=>n == m
 | .box n _=>n == m
 | .fn _ ea=>ea.any (· == m)
 | _=>false
def nu(hp:Nat->az)(m:Nat)(n:Nat):az:=if n=m then .dead else hp n
theorem lh{m n:Nat}(h:n≠m):nu hp m n=hp n:=by unfold nu;rw[if_neg h]
theorem C.Sg{m:Nat}{c:C}{v:Value}(hn:c.names m=false)(h:C.ok V hp w c v):C.ok V (nu hp m) w c v:=by
 cases c with
 | own n=>obtain⟨fr,e,xs,h1,h2⟩:=h;exact⟨fr,e,xs,by rw[lh (by simpa[C.names] using hn)];exact h1,h2⟩
 | pre n k=>obtain⟨fr,e,xs,h1,h2⟩:=h;exact⟨fr,e,xs,by rw[lh (by simpa[C.names] using hn)];exact h1,h2⟩
 | fP n e' ys=>obtain⟨⟨fr,e,xs,h1⟩,h2⟩:=h;exact⟨⟨fr,e,xs,by rw[lh (by simpa[C.names] using hn)];exact h1⟩,h2⟩
 | box n off=>obtain⟨h1,h2,cs,h3⟩:=h;exact⟨h1,h2,cs,by rw[lh (by simpa[C.names] using hn)];exact h3⟩
 | eR n i off=>obtain⟨h0,fr,e,xs,h1,h2⟩:=h;exact⟨h0,fr,e,xs,by rw[lh (by simpa[C.names] using hn)];exact h1,h2⟩
 | fn g ea =>
   refine⟨h.1,fun n hm=>⟨(h.2 n hm).1,?_⟩⟩
   obtain⟨_,cs,h3⟩:=h.2 n hm
   have bo:n≠m:=by
    intro e;subst e
    simp[C.names] at hn
    exact hn n hm rfl
   exact⟨cs,by rw[lh bo];exact h3⟩
 | _=>exact h
def Vl.freeze(V:Vl)(m base:Nat):Vl where
 aF:=V.aF
 has:=V.has
 Z0 b:=V.Z0 b\/(V.has m/\b=V.aF m/\b<base)
 Z1 b:=V.Z1 b\/(V.has m/\b=V.aF m/\base<=b)
theorem Vl.fV{m base:Nat}{fr:Bool}{b:Nat}(h:V.Z fr b):(V.freeze m base).Z fr b:=by
 rcases h with h|⟨h,k⟩
 ·exact .inl (.inl h)
 ·exact .inr ⟨h,.inl k⟩
theorem Vl.zc{m base:Nat}(hh:V.has m):(V.freeze m base).Z false (V.aF m):=by
 rcases Nat.lt_or_ge (V.aF m) base with h|h
 ·exact .inr ⟨rfl,.inr ⟨hh,rfl,h⟩⟩
 ·exact .inl (.inr ⟨hh,rfl,h⟩)
theorem Vl.OV{m base:Nat}(hh:V.has m)(h:base<=V.aF m):(V.freeze m base).Z true (V.aF m):=.inl (.inr ⟨hh,rfl,h⟩)
theorem Vl.LP{m base:Nat}{fr:Bool}{b:Nat}(h:(V.freeze m base).Z fr b):V.Z fr b\/(V.has m/\b=V.aF m):=by
 rcases h with (h|⟨h1,h2,_⟩)|⟨h,k|⟨h1,h2,_⟩⟩
 ·exact .inl (.inl h)
 ·exact .inr ⟨h1,h2⟩
 ·exact .inl (.inr ⟨h,k⟩)
 ·exact .inr ⟨h1,h2⟩
theorem VX.freeze(m base:Nat):VX V (nu hp m) w (V.freeze m base) (nu hp m) w :=
 ⟨fun _ _=>⟨rfl,Iff.rfl,rfl⟩,fun _ h=>.inl h,fun _ h=>.inl h,fun _ _=>rfl,fun _ _ _=>rfl⟩
theorem u9{base m:Nat}{fr:Bool}{e:Ty}{xs:List e.den}(hm:hp m = .row fr e xs)(fQ:(az.row fr e xs).ok V hp w m)(mh:fr=true->V.has m->base<=V.aF m) :
 pn V hp w (dW m fr e xs) (V.freeze m base) (aD (bY (dW m fr e xs) hp) m .dead) w:=by
 have hz:∀ b,(V.Z fr b\/(V.has m/\b=V.aF m))->(V.freeze m base).Z fr b:=by
  intro b hb
  rcases hb with hb|⟨h1,h2⟩
  ·exact Vl.fV hb
  ·subst h2
   cases fr with
   | false=>exact Vl.zc h1
   | true=>exact Vl.OV h1 (mh rfl h1)
 have bo:∀ {n},n≠m->∀ {a_ e' br},hp n = .row a_ e' br->aD (bY (dW m fr e xs) hp) m .dead n = .row a_ e' br:=by
  intro n hn a_ e' br h
  show (if n=m then _ else (hp n).map _)=_
  rw[if_neg hn,h];rfl
 have mz:∀ {n cs},hp n = .bx cs->∃ dm,aD (bY (dW m fr e xs) hp) m .dead n = .bx dm:=by
  intro n cs h
  have hn:n≠m:=fun e=>by subst e;rw[hm] at h;cases h
  exact⟨_,by show (if n=m then _ else (hp n).map _)=_;rw[if_neg hn,h];rfl⟩
 intro c v h
 cases c with
 | own n =>
   obtain⟨a_,e',br,h1,h2⟩:=h
   by_cases hn:n=m
   ·subst hn
    rw[hm] at h1
    injection h1 with e1 e2 e3
    subst e1;subst e2;cases e3
    simp only[dW,if_true]
    have:=Cl fQ h2 (Nat.le_refl _)
    rw[List.take_length] at this
    exact this.mono hz (fun _ _=>rfl)
   ·simp only[dW,if_neg hn]
    exact⟨a_,e',br,bo hn h1,h2⟩
 | pre n k =>
   obtain⟨a_,e',br,h1,h3,h2⟩:=h
   by_cases hn:n=m
   ·subst hn
    rw[hm] at h1
    injection h1 with e1 e2 e3
    subst e1;subst e2;cases e3
    simp only[dW,if_true]
    exact (Cl fQ h2 h3).mono hz (fun _ _=>rfl)
   ·simp only[dW,if_neg hn]
    exact⟨a_,e',br,bo hn h1,h3,h2⟩
 | fP n e' ys =>
   obtain⟨⟨a_,e2,br,h1⟩,h2⟩:=h
   by_cases hn:n=m
   ·subst hn
    simp only[dW,if_true]
    exact h2.mono (fun b hb=>hb.elim (fun h=>Vl.fV h) (fun⟨k1,k2⟩=>by subst k2;exact Vl.zc k1)) (fun _ _=>rfl)
   ·simp only[dW,if_neg hn]
    exact⟨⟨a_,e2,br,bo hn h1⟩,h2.mono (fun b hb=>hb.elim (fun h=>.inl (Vl.fV h)) .inr) (fun _ _=>rfl)⟩
 | eR n i off =>
   obtain⟨h0,a_,e',br,h1,h2,h3⟩:=h
   by_cases hn:n=m
   ·subst hn
    rw[hm] at h1
    injection h1 with e1 e2 e3
    subst e1;subst e2;cases e3
    simp only[dW,if_true]
    obtain⟨es,k1,k2,k3⟩:=NY fQ h0 h2
    refine⟨V.aF n,i*e.size,h3,hz _ (.inr ⟨h0,rfl⟩),es,k1,fun j hj=>k2 j _ (List.getElem?_eq_getElem hj),k3.mono (fun b hb=>hz b (.inl hb)) (fun _ _=>rfl)⟩
   ·simp only[dW,if_neg hn]
    exact⟨h0,a_,e',br,bo hn h1,h2,h3⟩
 | box n off=>obtain⟨h1,h2,cs,h3⟩:=h;exact⟨h1,h2,mz h3⟩
 | fn g ea=>exact⟨h.1,fun n hn=>⟨(h.2 n hn).1,let ⟨_,cs,h3⟩:=h.2 n hn;mz h3⟩⟩
 | rd a_ e' ys =>
   have h':aI (V.Z a_) w (.sl e') [v] ys:=h
   exact h'.mono (fun b hb=>Vl.fV hb) (fun _ _=>rfl)
 | ca a_ f t d =>
   have h':aI (V.Z a_) w (.ca f t) [v] d:=h
   exact h'.mono (fun b hb=>Vl.fV hb) (fun _ _=>rfl)
 | rg a_ wh e' b ys =>
   have h':aI (V.Z a_) w (.gs wh e') [v] (b,ys):=h
   exact h'.mono (fun b hb=>Vl.fV hb) (fun _ _=>rfl)
 | at_ a_ t d off =>
   obtain⟨b,o,h1,h2,es,h3,h4,h5⟩:=h
   exact⟨b,o,h1,Vl.fV h2,es,h3,h4,h5.mono (fun b hb=>Vl.fV hb) (fun _ _=>rfl)⟩
 | val u=>exact h
 | iB=>exact h
 | iq=>exact h
 | any=>exact h
theorem Rel.Hq{base:Nat}{M:LM}{w0:World}{st:St}{ts:Array Value}(r:Rel base M w0 V st ts w){m:Nat}{fr:Bool}{e:Ty}{xs:List e.den}(hm:st.an m = .row fr e xs){g:C->C}
 (tn:pn V st.an w g (V.freeze m base) (aD (bY g st.an) m .dead) w) :
 Rel base M w0 (V.freeze m base) { (st.map g) with hp:=bP (st.map g).hp m .dead } ts w:=by
 have mm:=r.mem
 have mh:fr=true->V.has m->base<=V.aF m:=fun hf hh=>by subst hf;exact mm.fY m e xs hm hh
 have aT:m<st.hp.length:=iJ (by rw[hm];rfl)
 have ec:(St.mk (st.map (g)).ts (bP (st.map (g)).hp m .dead)).an=aD (bY (g) st.an) m .dead:=by
  rw[gZ (by show m<(lmap _ _).length;rw[bS,List.length_map];exact aT)]
  congr 1
  exact jr st _
 have de:∀ n,(aD (bY (g) st.an) m .dead n).live=true->n≠m/\(st.an n).live=true:=by
  intro n hl
  by_cases hn:n=m
  ·subst hn;simp[aD,az.live] at hl
  ·refine⟨hn,?_⟩
   simp only[aD,if_neg hn] at hl
   rw[<-oJ (f:=g)];exact hl
 have kn:∀ n,n≠m->aD (bY (g) st.an) m .dead n=(st.an n).map (g):=fun n hn=>by simp only[aD,if_neg hn];rfl
 refine⟨by show (lmap _ _).length=_;rw[bS,List.length_map];exact r.len,fun i s v hs hv=>?_,?_⟩
 ·rw[ec]
  have bb:(lmap (S.map (g)) st.ts)[i]? = some s:=hs
  rw[bS,List.getElem?_map] at bb
  cases hx:st.ts[i]? with
  | none=>rw[hx] at bb;cases bb
  | some x =>
    rw[hx] at bb
    simp only[Option.map_some,Option.some.injEq] at bb
    subst bb
    exact tn.s (r.iZ i x v hx hv)
 ·rw[ec]
  refine⟨fun n=>?_,fun n cs h=>?_,fun n hl hh=>?_,fun n e' br h hh=>?_,fun n n' hl eo hh nw he=>?_,fun b hb=>?_,fun b hb=>?_,mm.kept,fun n hl hh=>?_,fun b hb=>?_,fun n hh i hi=>?_⟩
  ·by_cases hn:n=m
   ·subst hn;simp only[aD,if_true];trivial
   ·rw[kn n hn]
    have h1:=mm.cE n
    cases bo:st.an n with
    | dead=>trivial
    | bx cs =>
      rw[bo] at h1
      obtain⟨ak,el,h2,h3⟩:=h1
      exact⟨ak,el,h2,tn.all h3⟩
    | row a_ e' br =>
      rw[bo] at h1
      rcases h1 with h2|⟨h2,ak,el,h3,h4,h5⟩
      ·exact .inl h2
      ·refine .inr ⟨h2,ak,el,h3,h4,fun i hi=>?_⟩
       obtain⟨es,k1,k2,k3⟩:=h5 i hi
       exact⟨es,k1,k2,k3.mono (fun b hb=>Vl.fV hb) (fun _ _=>rfl)⟩
  ·obtain⟨hn,_⟩:=de n (by rw[h];rfl)
   rw[kn n hn] at h
   cases bo:st.an n with
   | bx dm=>exact mm.box n dm bo
   | dead=>rw[bo] at h;cases h
   | row a_ e' br=>rw[bo] at h;cases h
  ·obtain⟨hn,eo⟩:=de n hl
   obtain⟨k1,k2,k3⟩:=mm.own n eo hh
   refine⟨k1,k2,fun hz=>?_⟩
   rcases Vl.LP hz with hz|⟨h1,h2⟩
   ·exact k3 hz
   ·exact hn (mm.gi n m eo (by rw[hm];rfl) hh h1 h2)
  ·obtain⟨hn,_⟩:=de n (by rw[h];rfl)
   rw[kn n hn] at h
   cases bo:st.an n with
   | row a_ e2 ic=>rw[bo] at h;exact mm.fY n e' br (by rw[bo];exact h) hh
   | dead=>rw[bo] at h;cases h
   | bx cs=>rw[bo] at h;cases h
  ·exact mm.gi n n' (de n hl).2 (de n' eo).2 hh nw he
  ·rcases hb with hb|⟨h1,h2,hb⟩
   ·exact mm.z0 b hb
   ·refine⟨hb,?_⟩
    rcases (mm.own m (by rw[hm];rfl) h1).1 with h3|h3
    ·omega
    ·rw[h2];exact M.sub _ h3
  ·rcases hb with hb|⟨h1,h2,h3⟩
   ·exact mm.z1 b hb
   ·exact⟨h3,by rw[h2];exact (mm.own m (by rw[hm];rfl) h1).2.1⟩
  ·obtain⟨hn,_⟩:=de n (vo hl)
   rw[kn n hn] at hl
   exact mm.jO n (xo hl) hh
  ·obtain⟨q1,q2⟩:=mm.oh b hb
   have hn:0≠m:=fun e=>by subst e;rw[hm] at q1;cases q1
   rw[kn 0 hn,vq]
   exact⟨q1,q2⟩
  ·by_cases hn:n=m
   ·subst hn
    simp only[aD,if_true] at hi
    cases hi
   ·rw[kn n hn,ED] at hi
    exact mm.gE n hh i hi
theorem Rel.Qt{base:Nat}{M:LM}{w0:World}{st:St}{ts:Array Value}(r:Rel base M w0 V st ts w)(m:Nat):∃ V',Rel base M w0 V' (st.freeze m) ts w/\V'.aF=V.aF/\V'.has=V.has/\∀ fr b,V.Z fr b->V'.Z fr b:=by
 unfold St.freeze
 cases hm:st.an m with
 | dead=>exact⟨V,r,rfl,rfl,fun _ _ h=>h⟩
 | bx cs=>exact⟨V,r,rfl,rfl,fun _ _ h=>h⟩
 | row fr e xs =>
   simp only
   have mm:=r.mem
   have fQ:=mm.cE m
   rw[hm] at fQ
   have mh:fr=true->V.has m->base<=V.aF m:=fun hf hh=>by subst hf;exact mm.fY m e xs hm hh
   exact⟨V.freeze m base,r.Hq hm (u9 (base:=base) hm fQ mh),rfl,rfl,fun _ _ h=>Vl.fV h⟩
theorem Rel.freeze{base:Nat}{M:LM}{w0:World}{st:St}{ts:Array Value}(r:Rel base M w0 V st ts w)(m:Nat):∃ V',Rel base M w0 V' (st.freeze m) ts w:=by
 obtain⟨V',h,_⟩:=r.Qt m
 exact⟨V',h⟩
theorem Rel.LQ{base:Nat}{M:LM}{w0:World}{ts:Array Value}:∀(ns:List Nat) {V:Vl} {st:St},Rel base M w0 V st ts w->∃ V',Rel base M w0 V' (st.kh ns) ts w/\V'.aF=V.aF/\V'.has=V.has/\∀ fr b,V.Z fr b->V'.Z fr b
 | [],V,st,r=>⟨V,r,rfl,rfl,fun _ _ h=>h⟩
 | n::ns,V,st,r=>by
   obtain⟨V1,r1,h1,h2,h3⟩:=r.Qt n
   obtain⟨V2,r2,g1,g2,g3⟩:=Rel.LQ ns r1
   exact⟨V2,r2,g1.trans h1,g2.trans h2,fun fr b h=>g3 fr b (h3 fr b h)⟩
theorem Rel.kh{base:Nat}{M:LM}{w0:World}{ts:Array Value}:∀(ns:List Nat) {V:Vl} {st:St},Rel base M w0 V st ts w->∃ V',Rel base M w0 V' (st.kh ns) ts w
 | [],V,st,r=>⟨V,r⟩
 | n::ns,V,st,r=>by obtain⟨V',r'⟩:=r.freeze n;exact Rel.kh ns r'
end
end Go.SX
/- Stores and appends. No condition. -/
namespace Go.SX
open Go.RowKit
set_option linter.unusedVariables false
set_option linter.unusedSimpArgs false
section
variable {P : Program} {T : cC} {base : Nat} {M : LM} {w0 : World} {V : Vl} {hp : Nat → az} {w : World} {a : Act} {next : Act → World → Prop} {Q : Exit → Act → World → Prop}
theorem js(w:World)(g k:Nat)(cs:Array Value)(h:k≠g):(w.setRow g cs).heap[k]? = w.heap[k]? := by
 simp only[World.setRow,Array.getElem?_modify]
 rw[if_neg (fun e=>h e.symm)]
theorem setRow_size(w:World)(g:Nat)(cs:Array Value):(w.setRow g cs).heap.size=w.heap.size:=by simp[World.setRow]
structure Wr (V:Vl) (hp:Nat->az) (w:World) (m:Nat) (aJ:Nat->az) (w':World):Prop where
 YK:∀ n,n≠m->aJ n=hp n
 aF:∀ b,b≠V.aF m->w'.heap[b]? = w.heap[b]?
 has:V.has m
 kind:(∃ cs dm,hp m = .bx cs/\aJ m = .bx dm) ∨
  (∃ fr a_ e,∃ xs br:List e.den,hp m = .row fr e xs/\aJ m = .row a_ e br/\xs.length=br.length ∧
    ∃ ak ba el dC,w.heap[V.aF m]? = some (.cells ak el (0,0))/\w'.heap[V.aF m]? = some (.cells ba dC (0,0))/\ak.size=ba.size)
theorem Wr.z{aJ:Nat->az}{w':World}{m:Nat}(k:Wr V hp w m aJ w')(mm:Mem base M w0 V hp w){fr:Bool}{b:Nat}(h:V.Z fr b):w'.heap[b]? = w.heap[b]? := by
 have hl:(hp m).live=true:=by rcases k.kind with ⟨cs,_,h,_⟩|⟨_,_,_,_,_,h,_⟩<;>rw[h]<;>rfl
 exact k.aF b fun e=>by subst e;exact (mm.own m hl k.has).2.2 (Vl.db h)
theorem Wr.row{aJ:Nat->az}{w':World}{m:Nat}(k:Wr V hp w m aJ w')(mm:Mem base M w0 V hp w){n h:Nat}{fr:Bool}{e:Ty}{xs:List e.den}{v:Value}(hn:hp n = .row fr e xs)(hr:du V w n e h v) :
 ∃ a_,∃ br:List e.den,aJ n = .row a_ e br/\br.length=xs.length/\du V w' n e h v:=by
 by_cases hnm:n=m
 ·subst hnm
  rcases k.kind with ⟨cs,_,h1,_⟩|⟨Bo,nN,e',xs1,ic,h1,h2,h3,ak,ba,el,elB,h4,h5,h6⟩
  ·rw[hn] at h1;cases h1
  ·rw[hn] at h1
   injection h1 with e1 e2 e3
   subst e1;subst e2;cases e3
   refine⟨nN,ic,h2,h3.symm,?_⟩
   rcases hr with ⟨q1,q2,q3⟩|⟨q1,cap,v1,pA,q2,q3,q4,q5⟩
   ·exact .inl ⟨q1,q2,q3⟩
   ·rw[h4] at q3
    injection q3 with q3
    injection q3 with g1 g2 g3
    subst g1
    exact .inr ⟨q1,cap,ba,elB,q2,h5,by rw[<-h6];exact q4,q5⟩
 ·refine⟨fr,xs,(k.YK n hnm).trans hn,rfl,?_⟩
  rcases hr with ⟨q1,q2,q3⟩|⟨q1,cap,v1,pA,q2,q3,q4,q5⟩
  ·exact .inl ⟨q1,q2,q3⟩
  ·have hl:(hp m).live=true:=by rcases k.kind with ⟨cs,_,h,_⟩|⟨_,_,_,_,_,h,_⟩<;>rw[h]<;>rfl
   exact .inr ⟨q1,cap,v1,pA,q2,by rw[k.aF _ (fun e=>hnm (mm.gi n m (by rw[hn];rfl) hl q1 k.has e))];exact q3,q4,q5⟩
theorem Wr.ok{aJ:Nat->az}{w':World}{m:Nat}(k:Wr V hp w m aJ w')(mm:Mem base M w0 V hp w){c:C}{v:Value}(h:C.ok V hp w c v)(hb:∀ e xs,c ≠ .fP m e xs):C.ok V aJ w' c v:=by
 have hl:(hp m).live=true:=by rcases k.kind with ⟨cs,_,h,_⟩|⟨_,_,_,_,_,h,_⟩<;>rw[h]<;>rfl
 have iO:∀ {fr:Bool} {t:Ty} {cs:List Value} {d:t.den},aI (V.Z fr) w t cs d->aI (V.Z fr) w' t cs d:=fun h=>h.mono (fun _ h=>h) (fun b hb=>k.z mm hb)
 have mz:∀ {n cs},hp n = .bx cs->∃ dm,aJ n = .bx dm:=by
  intro n cs h
  by_cases hn:n=m
  ·subst hn
   rcases k.kind with ⟨_,dm,_,h2⟩|⟨_,_,_,_,_,h1,_⟩
   ·exact⟨dm,h2⟩
   ·rw[h] at h1;cases h1
  ·exact⟨cs,(k.YK n hn).trans h⟩
 cases c with
 | val u=>exact h
 | iB=>exact h
 | iq=>exact h
 | any=>exact h
 | rd fr e xs=>exact iO (t:=.sl e) h
 | ca fr f t d=>exact iO (t:=.ca f t) h
 | rg fr wh e b xs=>exact iO (t:=.gs wh e) h
 | own n =>
   obtain⟨fr,e,xs,h1,h2⟩:=h
   obtain⟨a_,br,h3,h4,h5⟩:=k.row mm h1 h2
   exact⟨a_,e,br,h3,by rw[h4];exact h5⟩
 | pre n j =>
   obtain⟨fr,e,xs,h1,h6,h2⟩:=h
   obtain⟨a_,br,h3,h4,h5⟩:=k.row mm h1 h2
   exact⟨a_,e,br,h3,by rw[h4];exact h6,h5⟩
 | fP n e xs =>
   obtain⟨⟨fr,e',ys,h1⟩,h2⟩:=h
   have hn:n≠m:=fun e'=>by subst e';exact hb e xs rfl
   refine⟨⟨fr,e',ys,(k.YK n hn).trans h1⟩,h2.mono (fun _ h=>h) (fun b fO=>?_)⟩
   rcases fO with hz|⟨q1,q2⟩
   ·exact k.z mm hz
   ·exact k.aF b fun e=>hn (mm.gi n m (by rw[h1];rfl) hl q1 k.has (by rw[<-q2,e]))
 | box n off=>obtain⟨h1,h2,cs,h3⟩:=h;exact⟨h1,h2,mz h3⟩
 | at_ fr t d off =>
   obtain⟨b,o,h1,h2,es,h3,h4,h5⟩:=h
   exact⟨b,o,h1,h2,es,h3,jo (k.z mm h2) h4,iO h5⟩
 | eR n i off =>
   obtain⟨h0,fr,e,xs,h1,h2,h3⟩:=h
   by_cases hn:n=m
   ·subst hn
    rcases k.kind with ⟨cs,_,q1,_⟩|⟨Bo,nN,e',xs1,ic,q1,q2,q3,_⟩
    ·rw[h1] at q1;cases q1
    ·rw[h1] at q1
     injection q1 with e1 e2 e3
     subst e1;subst e2;cases e3
     exact⟨h0,nN,e,ic,q2,by rw[<-q3];exact h2,h3⟩
   ·exact⟨h0,fr,e,xs,(k.YK n hn).trans h1,h2,h3⟩
 | fn f ea=>exact⟨h.1,fun n hn=>⟨(h.2 n hn).1,let ⟨_,cs,h3⟩:=h.2 n hn;mz h3⟩⟩
def XU(m:Nat)(c:C):Prop:=∀ e xs,c ≠ .fP m e xs
theorem zG{aJ:Nat->az}{w':World}{m:Nat}(k:Wr V hp w m aJ w')(mm:Mem base M w0 V hp w){cs:List C}{vs:List Value}(h:bO V hp w cs vs)(hb:∀ c∈cs,XU m c):bO V aJ w' cs vs :=
 ⟨h.1,fun j c v hc hv=>k.ok mm (h.2 j c v hc hv) (hb c (List.mem_of_getElem? hc))⟩
theorem aeZ{aJ:Nat->az}{w':World}{m:Nat}(k:Wr V hp w m aJ w')(mm:Mem base M w0 V hp w){s:S}{v:Value}(h:S.ok V hp w (S.map (cN m) s) v):S.ok V aJ w' (S.map (cN m) s) v:=by
 have hk:∀ c,XU m (cN m c):=by
  intro c e xs he
  cases c<;>simp only[cN] at he<;>first|(cases he;done)|skip
  split at he
  ·cases he
  ·rename_i hn;injection he with h1;exact hn h1
 have fA:∀ cs:List C,∀ c∈lmap (cN m) cs,XU m c:=by
  intro cs c hc
  rw[bS,List.mem_map] at hc
  obtain⟨x,_,rfl⟩:=hc
  exact hk x
 cases s with
 | c x=>exact k.ok mm h (hk x)
 | agg cs=>obtain⟨vs,h1,h2⟩:=h;exact⟨vs,h1,zG k mm h2 (fA cs)⟩
 | sP xs =>
   obtain⟨vs,h1,h2,h3⟩:=h
   refine⟨vs,h1,h2,fun j y v hy hv=>?_⟩
   have h4:=h3 j y v hy hv
   rw[bS,List.getElem?_map] at hy
   cases hx:xs[j]? with
   | none=>rw[hx] at hy;cases hy
   | some x =>
     rw[hx] at hy
     simp only[Option.map_some,Option.some.injEq] at hy
     subst hy
     unfold mo at h4 ⊢
     simp only at h4 ⊢
     split
     ·rename_i hb;rw[if_pos hb] at h4;obtain⟨us,k1,k2⟩:=h4;exact⟨us,k1,zG k mm k2 (fA x.2)⟩
     ·rename_i hb;rw[if_neg hb] at h4;exact zG k mm h4 (fA x.2)
 | fh=>exact h
 | any=>trivial
 | arr e xs=>exact S.xL h
theorem Cf{st:St}{ts:Array Value}(r:Rel base M w0 V st ts w){m:Nat}{e':az}{w':World}(k:Wr V st.an w m (aD st.an m e') w')(de:e'.live=true)
 (iM:Kept base M w0 w') (cD:w'.heap.size=w.heap.size) (fQ:e'.ok V (aD (bY (cN m) st.an) m e') w' m) (mh:∀ e xs,e' = .row true e xs->base<=V.aF m) (mz:∀ cs,e' = .bx cs->V.has m) (RP:e'.hD->M.nm (V.aF m) m) (FZ:V.has m->∀ i∈e'.gE,m=0->M i) :
 Rel base M w0 V { (st.map (cN m)) with hp:=bP (st.map (cN m)).hp m e' } ts w':=by
 have r1:=r.kill (DJ m)
 have mm:=r1.mem
 have hl:(st.an m).live=true:=by rcases k.kind with ⟨cs,_,h,_⟩|⟨_,_,_,_,_,h,_⟩<;>rw[h]<;>rfl
 have aT:m<st.hp.length:=iJ hl
 have ec:(St.mk (st.map (cN m)).ts (bP (st.map (cN m)).hp m e')).an=aD (bY (cN m) st.an) m e':=by
  rw[gZ (by show m<(lmap _ _).length;rw[bS,List.length_map];exact aT)]
  congr 1
  exact jr st _
 rw[jr] at mm
 have k':Wr V (bY (cN m) st.an) w m (aD (bY (cN m) st.an) m e') w':=by
  refine⟨fun n hn=>by simp only[aD,if_neg hn],k.aF,k.has,?_⟩
  rcases k.kind with ⟨cs,dm,h1,h2⟩|⟨fr,a_,e,xs,br,h1,h2,h3⟩
  ·refine .inl ⟨lmap (cN m) cs,dm,by show (st.an m).map _=_;rw[h1];rfl,?_⟩
   simp only[aD,if_true] at h2 ⊢;exact h2
  ·refine .inr ⟨fr,a_,e,xs,br,by show (st.an m).map _=_;rw[h1];rfl,?_,h3⟩
   simp only[aD,if_true] at h2 ⊢;exact h2
 have fy:∀ n,(aD (bY (cN m) st.an) m e' n).live=true->(bY (cN m) st.an n).live=true:=by
  intro n h
  by_cases hn:n=m
  ·subst hn;show ((st.an n).map _).live=true;rw[oJ];exact hl
  ·simp only[aD,if_neg hn] at h;exact h
 refine⟨r1.len,fun i s v hs hv=>?_,?_⟩
 ·rw[ec]
  have h0:=r1.iZ i s v hs hv
  rw[jr] at h0
  have bb:(lmap (S.map (cN m)) st.ts)[i]? = some s:=hs
  rw[bS,List.getElem?_map] at bb
  cases hx:st.ts[i]? with
  | none=>rw[hx] at bb;cases bb
  | some x =>
    rw[hx] at bb
    simp only[Option.map_some,Option.some.injEq] at bb
    subst bb
    exact aeZ k' mm h0
 ·rw[ec]
  refine⟨fun n=>?_,fun n cs h=>?_,fun n eo hh=>?_,fun n e xs h hh=>?_,fun n n' h1 h2 hh nw he=>mm.gi n n' (fy n h1) (fy n' h2) hh nw he,mm.z0,fun b hb=>?_,iM,fun n eo hh=>?_,fun b hb=>?_,fun n hh i hi=>?_⟩
  ·by_cases hn:n=m
   ·subst hn
    have:aD (bY (cN n) st.an) n e' n=e':=by simp only[aD,if_true]
    rw[this];exact fQ
   ·have hv:aD (bY (cN m) st.an) m e' n=(st.an n).map (cN m):=by simp only[aD,if_neg hn];rfl
    have h1:=mm.cE n
    rw[hv]
    have pW:((st.an n).map (cN m)).ok V (bY (cN m) st.an) w n:=h1
    cases bo:st.an n with
    | dead=>trivial
    | bx cs =>
      rw[bo] at pW
      obtain⟨ak,el,h2,h3⟩:=pW
      have zj:V.has n:=r.mem.box n cs bo
      refine⟨ak,el,?_,?_⟩
      ·rw[k.aF _ (fun e=>hn (r.mem.gi n m (by rw[bo];rfl) hl zj k.has e))];exact h2
      ·refine zG k' mm h3 (fun c hc=>?_)
       rw[bS,List.mem_map] at hc
       obtain⟨x,_,rfl⟩:=hc
       intro e xs he
       cases x<;>simp only[cN] at he<;>first|(cases he;done)|skip
       split at he
       ·cases he
       ·rename_i gR;injection he with h1;exact gR h1
    | row fr e xs =>
      rw[bo] at pW
      rcases pW with h2|⟨h2,ak,el,h3,h4,h5⟩
      ·exact .inl h2
      ·refine .inr ⟨h2,ak,el,?_,h4,fun i hi=>?_⟩
       ·rw[k.aF _ (fun e=>hn (r.mem.gi n m (by rw[bo];rfl) hl h2 k.has e))];exact h3
       ·obtain⟨es,q1,q2,q3⟩:=h5 i hi
        exact⟨es,q1,q2,q3.mono (fun _ h=>h) (fun b hb=>k'.z mm hb)⟩
  ·by_cases hn:n=m
   ·subst hn
    have:aD (bY (cN n) st.an) n e' n=e':=by simp only[aD,if_true]
    rw[this] at h
    exact mz cs h
   ·simp only[aD,if_neg hn] at h
    exact mm.box n cs h
  ·rw[cD]
   exact mm.own n (fy n eo) hh
  ·by_cases hn:n=m
   ·subst hn
    have:aD (bY (cN n) st.an) n e' n=e':=by simp only[aD,if_true]
    rw[this] at h
    exact mh e xs h
   ·simp only[aD,if_neg hn] at h
    exact mm.fY n e xs h hh
  ·rw[cD];exact mm.z1 b hb
  ·by_cases hn:n=m
   ·subst hn
    simp only[aD,if_true] at eo
    exact RP eo
   ·simp only[aD,if_neg hn] at eo
    exact mm.jO n eo hh
  ·obtain⟨q1,q2⟩:=mm.oh b hb
   refine⟨?_,q2⟩
   by_cases hn:0=m
   ·subst hn
    simp only[aD,if_true]
    rcases k.kind with ⟨cs,dm,h1,h2⟩|⟨fr,a_,e,xs,br,h1,h2,h3⟩
    ·simp only[aD,if_true] at h2
     rw[h2];rfl
    ·have q1':((st.an 0).map (cN 0)).BJ=true:=q1
     rw[vq,h1] at q1'
     cases q1'
   ·simp only[aD,if_neg hn]
    exact q1
  ·by_cases hn:n=m
   ·subst hn
    simp only[aD,if_true] at hi
    exact FZ hh i hi
   ·simp only[aD,if_neg hn] at hi
    exact mm.gE n hh i hi
theorem xn(k:Kept base M w0 w){g:Nat}(hg:base<=g\/M g)(cs:Array Value)(hs:∀ ak el,w.heap[g]? = some (.cells ak el (0,0))->cs.size=ak.size):Kept base M w0 (w.setRow g cs) where
 os:=k.os
 tape:=k.tape
 output:=k.output
 size:=by rw[setRow_size];exact k.size
 block b hb hm:=by
  rw[js w g b cs (fun e=>by subst e;rcases hg with h|h;exact absurd hb (by omega);exact hm h)]
  exact k.block b hb hm
 shape b ak el hb hm hv:=by
  obtain⟨ba,dC,h1,h2⟩:=k.shape b ak el hb hm hv
  by_cases Bs:b=g
  ·subst Bs
   exact⟨cs,dC,setRow_heap w b ba cs dC (0,0) h1,by rw[hs _ _ h1,h2]⟩
  ·exact⟨ba,dC,by rw[js w g b cs Bs];exact h1,h2⟩
end
end Go.SX
/- Stores, literals of what the call owns. No condition. -/
namespace Go.SX
open Go.RowKit
set_option linter.unusedVariables false
set_option linter.unusedSimpArgs false
section
variable {P : Program} {T : cC} {base : Nat} {M : LM} {w0 : World} {V : Vl} {w : World} {a : Act} {next : Act → World → Prop} {Q : Exit → Act → World → Prop}
theorem Kp{st:St}{ts:Array Value}(r:Rel base M w0 V st ts w){m:Nat}{cs dm:List C}{w':World}(hm:st.an m = .bx cs)(jh:∀ b,b≠V.aF m->w'.heap[b]? = w.heap[b]?)
 (iM:Kept base M w0 w') (cD:w'.heap.size=w.heap.size) {ak:Array Value} {el:TypeId} (hc:w'.heap[V.aF m]? = some (.cells ak el (0,0))) (fQ:bO V st.an w dm ak.toList) :
 Rel base M w0 V { st with hp:=bP st.hp m (.bx dm) } ts w':=by
 have mm:=r.mem
 have hl:(st.an m).live=true:=by rw[hm];rfl
 have ec:(St.mk st.ts (bP st.hp m (.bx dm))).an=aD st.an m (.bx dm):=gZ (iJ hl) _ _
 have k:Wr V st.an w m (aD st.an m (.bx dm)) w':=⟨fun n hn=>by simp only[aD,if_neg hn],jh,mm.box m cs hm,.inl ⟨cs,dm,hm,by simp only[aD,if_true]⟩⟩
 have nb:∀ {c:C} {v:Value},C.ok V st.an w c v->XU m c:=by
  intro c v h e xs he
  subst he
  obtain⟨⟨fr,e',ys,h1⟩,_⟩:=h
  rw[hm] at h1;cases h1
 have Gc:∀ {cs:List C} {vs:List Value},bO V st.an w cs vs->bO V (aD st.an m (.bx dm)) w' cs vs:=by
  intro cs vs h
  exact⟨h.1,fun j c v hc hv=>k.ok mm (h.2 j c v hc hv) (nb (h.2 j c v hc hv))⟩
 have fy:∀ n,(aD st.an m (.bx dm) n).live=true->(st.an n).live=true:=by
  intro n h
  by_cases hn:n=m
  ·subst hn;exact hl
  ·simp only[aD,if_neg hn] at h;exact h
 refine⟨r.len,fun i s v hs hv=>?_,?_⟩
 ·rw[ec]
  have h0:=r.iZ i s v hs hv
  cases s with
  | c x=>exact k.ok mm h0 (nb h0)
  | agg cs=>obtain⟨vs,h1,h2⟩:=h0;exact⟨vs,h1,Gc h2⟩
  | sP xs =>
    obtain⟨vs,h1,h2,h3⟩:=h0
    refine⟨vs,h1,h2,fun j y v hy hv=>?_⟩
    have h4:=h3 j y v hy hv
    unfold mo at h4 ⊢
    split
    ·rename_i hb;rw[if_pos hb] at h4;obtain⟨us,k1,k2⟩:=h4;exact⟨us,k1,Gc k2⟩
    ·rename_i hb;rw[if_neg hb] at h4;exact Gc h4
  | fh=>exact h0
  | any=>trivial
  | arr e xs=>exact S.xL h0
 ·rw[ec]
  refine⟨fun n=>?_,fun n cs2 h=>?_,fun n eo hh=>?_,fun n e xs h hh=>?_,fun n n' h1 h2 hh nw he=>mm.gi n n' (fy n h1) (fy n' h2) hh nw he,mm.z0,fun b hb=>?_,iM,fun n eo hh=>?_,fun b hb=>?_,fun n hh i hi=>?_⟩
  ·by_cases hn:n=m
   ·subst hn
    have:aD st.an n (.bx dm) n = .bx dm:=by simp only[aD,if_true]
    rw[this];exact⟨ak,el,hc,Gc fQ⟩
   ·have hv:aD st.an m (.bx dm) n=st.an n:=by simp only[aD,if_neg hn]
    have h1:=mm.cE n
    rw[hv]
    cases bo:st.an n with
    | dead=>trivial
    | bx cs2 =>
      rw[bo] at h1
      obtain⟨dH,jb,h2,h3⟩:=h1
      refine⟨dH,jb,?_,Gc h3⟩
      rw[jh _ (fun e=>hn (mm.gi n m (by rw[bo];rfl) hl (mm.box n cs2 bo) (mm.box m cs hm) e))];exact h2
    | row fr e xs =>
      rw[bo] at h1
      rcases h1 with h2|⟨h2,dH,jb,h3,h4,h5⟩
      ·exact .inl h2
      ·refine .inr ⟨h2,dH,jb,?_,h4,fun i hi=>?_⟩
       ·rw[jh _ (fun e=>hn (mm.gi n m (by rw[bo];rfl) hl h2 (mm.box m cs hm) e))];exact h3
       ·obtain⟨es,q1,q2,q3⟩:=h5 i hi
        exact⟨es,q1,q2,q3.mono (fun _ h=>h) (fun b hb=>k.z mm hb)⟩
  ·by_cases hn:n=m
   ·subst hn;exact mm.box n cs hm
   ·simp only[aD,if_neg hn] at h
    exact mm.box n cs2 h
  ·rw[cD]
   exact mm.own n (fy n eo) hh
  ·by_cases hn:n=m
   ·subst hn
    have:aD st.an n (.bx dm) n = .bx dm:=by simp only[aD,if_true]
    rw[this] at h;cases h
   ·simp only[aD,if_neg hn] at h
    exact mm.fY n e xs h hh
  ·rw[cD];exact mm.z1 b hb
  ·by_cases hn:n=m
   ·subst hn
    simp only[aD,if_true] at eo
    exact eo.elim
   ·simp only[aD,if_neg hn] at eo
    exact mm.jO n eo hh
  ·obtain⟨q1,q2⟩:=mm.oh b hb
   refine⟨?_,q2⟩
   by_cases hn:0=m
   ·simp only[aD,if_pos hn];rfl
   ·simp only[aD,if_neg hn];exact q1
  ·by_cases hn:n=m
   ·subst hn
    simp only[aD,if_true] at hi
    cases hi
   ·simp only[aD,if_neg hn] at hi
    exact mm.gE n hh i hi
theorem Qg{hp:Nat->az}{v:Value}(h:v.oneCell'=true):C.ok V hp w (cell v) v:=by
 unfold cell
 split
 ·exact rfl
 ·exact rfl
 ·split
  ·rename_i hk;exact⟨rfl,hk⟩
  ·exact h
 ·split
  ·rename_i hk;exact⟨rfl,hk⟩
  ·exact h
 ·exact⟨rfl,rfl,rfl,rfl⟩
 ·exact⟨rfl,trivial⟩
 ·exact h
theorem M8{hp:Nat->az}(v:Value):S.ok V hp w (S.ofConst v) v:=by
 unfold S.ofConst
 split
 ·rename_i cs
  split
  ·rename_i hc
   rw[iF,List.all_eq_true] at hc
   refine⟨cs,rfl,?_⟩
   rw[bS]
   refine⟨by simp,fun j c v hj hv=>?_⟩
   rw[List.getElem?_map] at hj
   rw[hv] at hj
   simp only[Option.map_some,Option.some.injEq] at hj
   rw[<-hj]
   exact Qg (hc v (List.mem_of_getElem? hv))
  ·trivial
 ·trivial
 ·rename_i h1 h2
  refine Qg ?_
  cases v<;>first|rfl|exact absurd rfl (h1 _)|exact absurd rfl (h2 _)
theorem Rel.eval{st:St}(r:Rel base M w0 V st a.tmps w):∀ x,S.ok V st.an w (st.eval x) (a.eval x):=by
 intro x
 cases x with
 | tmp t =>
   show S.ok V st.an w (nth .any st.ts t) (a.tmps.getD t undef)
   rw[cT]
   cases hs:st.ts[t]? with
   | none=>trivial
   | some s =>
     have ht:t<a.tmps.size:=by have:=(List.getElem?_eq_some_iff.1 hs).1;rw[r.len] at this;exact this
     have hv:a.tmps[t]? = some a.tmps[t]:=Array.getElem?_eq_getElem ht
     have:=r.iZ t s _ hs hv
     simpa[Array.getD,ht] using this
 | const v =>
   exact M8 v
 | global g=>trivial
 | func f=>exact⟨rfl,fun n hn=>by simp at hn⟩
end
end Go.SX
/- Operations that write: stores, literals of what the call owns. No condition. -/
namespace Go.SX
open Go.RowKit
set_option linter.unusedVariables false
set_option linter.unusedSimpArgs false
theorem vR(st:St)(es:List az):(st.alloc es).an=ey st.an (bL st.hp) es:=by
 funext n
 show nth .dead (dX st.hp es) n=ey st.an (bL st.hp) es n
 unfold ey
 rw[cT,cp,dz]
 split
 ·rename_i h
  rw[List.getElem?_append_left h]
  show _=nth .dead st.hp n
  rw[cT]
 ·rename_i h
  rw[List.getElem?_append_right (by omega)]
  cases he:es[n-st.hp.length]? with
  | some e=>rfl
  | none =>
    show az.dead=nth .dead st.hp n
    rw[cT,List.getElem?_eq_none (by omega)]
    rfl
theorem yP(st:St)(j:Nat):st.an (bL st.hp+j) = .dead:=by
 show nth .dead st.hp _=_
 rw[cT,dz,List.getElem?_eq_none (by omega)]
 rfl
section
variable {P : Program} {T : cC} {base : Nat} {M : LM} {w0 : World} {V : Vl} {w : World} {a : Act} {next : Act → World → Prop} {Q : Exit → Act → World → Prop}
theorem vD{st:St}{ts:Array Value}(r:Rel base M w0 V st ts w){res:S}{es:List az}{hy:Option Prop}{v:Value}{w':World}{V':Vl}(g:Good base M w0 V st.an w (bL st.hp) res es hy v w' V') :
 Rel base M w0 V' (st.alloc es) ts w'/\S.ok V' (st.alloc es).an w' res v:=by
 rw[vR]
 exact⟨⟨r.len,fun i s v hs hv=>by rw[vR];exact S.kt g.vx (r.iZ i s v hs hv),by rw[vR];exact g.mem⟩,g.res⟩
theorem Zk(st:St)(d:Option Nat)(s:S):(st.put d s).an=st.an:=by
 cases d<;>rfl
theorem uy{st:St}(r:Rel base M w0 V st a.tmps w){s:S}{v:Value}(h:S.ok V st.an w s v)(dst:Option Nat):Rel base M w0 V (st.put dst s) (a.put dst v).tmps w:=by
 cases dst with
 | none=>exact r
 | some d =>
   refine⟨by show (bP st.ts d s).length=(a.tmps.setIfInBounds d v).size;rw[ga];simp[r.len],fun i s' v' hs hv=>?_,r.mem⟩
   have bb:(bP st.ts d s)[i]? = some s':=hs
   have cr:(a.tmps.setIfInBounds d v)[i]? = some v':=hv
   rw[ga,List.getElem?_set] at bb
   rw[Array.getElem?_setIfInBounds] at cr
   split at bb
   ·rename_i hd
    rw[if_pos hd] at cr
    split at bb
    ·rename_i aT
     rw[if_pos (by rw[<-r.len];exact aT)] at cr
     injection bb with bb;injection cr with cr
     subst bb;subst cr
     exact h
    ·cases bb
   ·rename_i hd
    rw[if_neg hd] at cr
    exact r.iZ i s' v' bb cr
theorem kN.cE{st:St}{ts:Array Value}(r:Rel base M w0 V st ts w):kN V st.an st.an w:=fun n _=>⟨rfl,r.mem.cE n⟩
theorem zT(l x:List Value)(o k:Nat)(h:o+x.length<=l.length):(l.take o++x++l.drop (o+x.length))[k]? = if k<o then l[k]? else if k<o+x.length then x[k-o]? else l[k]? := by
 have ht:(l.take o).length=o:=by rw[List.length_take];omega
 rw[List.append_assoc]
 split
 ·rename_i hk
  rw[List.getElem?_append_left (by rw[ht];exact hk),List.getElem?_take,if_pos hk]
 ·rename_i hk
  rw[List.getElem?_append_right (by rw[ht];omega),ht]
  split
  ·rename_i iM
   rw[List.getElem?_append_left (by omega)]
  ·rename_i iM
   rw[List.getElem?_append_right (by omega),List.getElem?_drop]
   congr 1;omega
theorem BQ{hp:Nat->az}{cs xs:List C}{vs us:List Value}{off:Nat}(h:bO V hp w cs vs)(k:bO V hp w xs us):bO V hp w (sN cs off xs) (vs.take off++us++vs.drop (off+us.length)):=by
 unfold sN
 rw[cp,cp,mH,mG,dz,<-List.append_assoc,k.1]
 exact gW (gW (nh h off) k) (ng h _)
theorem upon_skip{o:Oper}{t:TypeId}{p x:Operand}(ho:o.op = .store t p x){w':World}(hr:(Instr.storeAt t (a.eval p) (a.eval x)).run P w = .ok () w')(h:next (a.put o.dst undef) w'):o.wp P a w next Q:=by
 unfold Oper.wp execOp
 simp only[ho,Sem.run_bind,hr,Result.andThen_ok,Sem.run_pure]
 exact h
def CE:C->List Nat
 | .rg _ wh e b xs=>ids (.gs wh e) (b,xs)
 | .rd _ e xs=>aX e xs
 | _=>[]
theorem yb:∀(t:Ty) (d:t.den),ids t.cO (aU t d)=[]
 | .gs _ e,d=>by
   show (d.2.map (aU e)).flatMap (ids e.cO)=[]
   rw[List.flatMap_eq_nil_iff]
   intro x hx
   obtain⟨y,_,rfl⟩:=List.mem_map.1 hx
   exact yb e y
 | .sl e,d=>by
   show (List.map (aU e) d).flatMap (ids e.cO)=[]
   rw[List.flatMap_eq_nil_iff]
   intro x hx
   obtain⟨y,_,rfl⟩:=List.mem_map.1 hx
   exact yb e y
 | .st t,d=>yb t d
 | .pr a b,d=>by show ids a.cO (aU a d.1)++ids b.cO (aU b d.2)=[];rw[yb a,yb b];rfl
 | .int _,_=>rfl
 | .bool,_=>rfl
 | .str,_=>rfl
 | .ptr _,_=>rfl
 | .ca _ _,_=>rfl
theorem Zt(e:Ty)(xs:List e.den):aX e.cO (bH e xs)=[]:=yb (.sl e) xs
theorem lI:∀(t:Ty),t.bQ=false->∀ d:t.den,ids t d=[]
 | .gs _ _,h,_=>by cases h
 | .sl e,h,d=>by
   show List.flatMap (ids e) d=[]
   rw[List.flatMap_eq_nil_iff]
   intro x _
   exact lI e h x
 | .st t,h,d=>lI t h d
 | .pr a b,h,d=>by
   have h':(a.bQ||b.bQ)=false:=h
   rw[Bool.or_eq_false_iff] at h'
   show ids a d.1++ids b d.2=[]
   rw[lI a h'.1,lI b h'.2];rfl
 | .int _,_,_=>rfl
 | .bool,_,_=>rfl
 | .str,_,_=>rfl
 | .ptr _,_,_=>rfl
 | .ca _ _,_,_=>rfl
theorem oF:∀ {t:Ty},t.flat=true->t.bQ=false
 | .gs _ _,h=>by cases h
 | .sl _,h=>by cases h
 | .st t,h=>oF (t:=t) h
 | .pr a b,h=>by
   have h':(a.flat&&b.flat)=true:=h
   rw[Bool.and_eq_true] at h'
   show (a.bQ||b.bQ)=false
   rw[oF h'.1,oF h'.2];rfl
 | .int _,_=>rfl
 | .bool,_=>rfl
 | .str,_=>rfl
 | .ptr _,_=>rfl
 | .ca _ _,_=>rfl
theorem Hk{c:C}(h:c.Ge=true):CE c=[]:=by
 cases c<;>first|rfl|(cases h;done)|skip
 rename_i fr e xs
 have h':(!e.bQ)=true:=h
 have h2:e.bQ=false:=by simpa using h'
 exact lI (.sl e) h2 xs
theorem Qd{e' e:Ty}{xs:List e'.den}{ys:List e.den}(k:nE e' e xs=some ys):∀ i∈aX e ys,i∈aX e' xs:=by
 unfold nE at k
 split at k
 ·rename_i hk;subst hk;injection k with k;subst k;exact fun i h=>h
 ·split at k
  ·rename_i hk;subst hk;injection k with k;subst k
   intro i hi
   have cF:i∈aX e'.cO (bH e' xs):=hi
   rw[Zt] at cF
   cases cF
  ·cases k
theorem R1{wh wO:Bool}{e:Ty}{b:Nat}{xs:List e.den}{i:Nat}(h:i∈ids (.gs wh e) (b,xs)):i∈ids (.gs wO e) (b,xs):=by
 cases xs with
 | nil=>cases h
 | cons x xr=>exact h
theorem UE{wh:Bool}{e:Ty}{b:Nat}{xs:List e.den}{i:Nat}(h:i∈aX e xs):i∈ids (.gs wh e) (b,xs):=by
 cases xs with
 | nil=>cases h
 | cons x xr=>exact List.mem_cons_of_mem _ h
theorem wH{lk:Nat->az}:∀(t:Ty) {cs:List C} {d:t.den} {rest:List C},iY lk t cs=some (d,rest)->(∀ c∈cs,c.jC=true) →
 (∀ i∈ids t d,∃ c∈cs,i∈CE c)/\∀ c∈rest,c∈cs
 | .int k,cs,d,rest,h,_=>by obtain⟨c,rfl,_⟩:=bX h;exact⟨fun i hi=>(nomatch hi),fun c hc=>List.mem_cons_of_mem _ hc⟩
 | .bool,cs,d,rest,h,_=>by obtain⟨c,rfl,_⟩:=bX h;exact⟨fun i hi=>(nomatch hi),fun c hc=>List.mem_cons_of_mem _ hc⟩
 | .str,cs,d,rest,h,_=>by obtain⟨c,rfl,_⟩:=bX h;exact⟨fun i hi=>(nomatch hi),fun c hc=>List.mem_cons_of_mem _ hc⟩
 | .ptr t,cs,d,rest,h,_=>by obtain⟨c,rfl,_⟩:=bX h;exact⟨fun i hi=>(nomatch hi),fun c hc=>List.mem_cons_of_mem _ hc⟩
 | .ca f t,cs,d,rest,h,_=>by obtain⟨c,rfl,_⟩:=bX h;exact⟨fun i hi=>(nomatch hi),fun c hc=>List.mem_cons_of_mem _ hc⟩
 | .sl e,cs,d,rest,h,hn=>by
   obtain⟨c,rfl,hc⟩:=bX h
   refine⟨fun i hi=>⟨c,List.mem_cons_self ..,?_⟩,fun c hc=>List.mem_cons_of_mem _ hc⟩
   have h0:=hn c (List.mem_cons_self ..)
   have hi:i∈aX e d:=hi
   unfold rB at hc
   split at hc
   ·exact Qd hc i hi
   ·cases h0
   ·cases h0
   ·cases h0
   ·rename_i wh1 _ _ _;exact UE (wh:=wh1) (Qd hc i hi)
   ·injection hc with hc;subst hc;cases hi
   ·cases hc
 | .gs wh e,cs,d,rest,h,hn=>by
   obtain⟨c,rfl,hc⟩:=bX h
   refine⟨fun i hi=>⟨c,List.mem_cons_self ..,?_⟩,fun c hc=>List.mem_cons_of_mem _ hc⟩
   unfold VE at hc
   split at hc
   ·split at hc
    ·rename_i hk
     subst hk
     split at hc
     ·cases hc
     ·rename_i wh1 _ _ _ _;injection hc with hc;subst hc;exact R1 (wO:=wh1) hi
    ·cases hc
   ·injection hc with hc;subst hc;cases hi
   ·cases hc
 | .st t,cs,d,rest,h,hn=>wH t h hn
 | .pr a b,cs,d,rest,h,hn=>by
   unfold iY at h
   cases ha:iY lk a cs with
   | none=>simp[ha] at h
   | some x =>
     obtain⟨x,r⟩:=x
     simp only[ha] at h
     cases hb:iY lk b r with
     | none=>simp[hb] at h
     | some y =>
       obtain⟨y,r'⟩:=y
       simp only[hb,Option.some.injEq,Prod.mk.injEq] at h
       obtain⟨rfl,rfl⟩:=h
       obtain⟨h1,h2⟩:=wH a ha hn
       obtain⟨h3,h4⟩:=wH b hb (fun c hc=>hn c (h2 c hc))
       refine⟨fun i hi=>?_,fun c hc=>h2 c (h4 c hc)⟩
       rcases List.mem_append.1 hi with hi|hi
       ·exact h1 i hi
       ·obtain⟨c,hc,hci⟩:=h3 i hi
        exact⟨c,h2 c hc,hci⟩
theorem Pm{lk:Nat->az}{t:Ty}{cs:List C}{d:t.den}(h:readAll lk t cs=some d)(hn:∀ c∈cs,c.jC=true):∀ i∈ids t d,∃ c∈cs,i∈CE c:=by
 unfold readAll at h
 split at h
 ·rename_i d' hr
  injection h with h;subst h
  exact (wH t hr hn).1
 ·cases h
theorem tH(fr:Bool):∀(t:Ty) (d:t.den),∀ c∈expand fr t d,∀ i∈CE c,i∈ids t d
 | .int _,_,c,hc,i,hi=>by simp[expand] at hc;subst hc;cases hi
 | .bool,_,c,hc,i,hi=>by simp[expand] at hc;subst hc;cases hi
 | .str,_,c,hc,i,hi=>by simp[expand] at hc;subst hc;cases hi
 | .ptr _,_,c,hc,i,hi=>by simp[expand] at hc;subst hc;cases hi
 | .ca _ _,_,c,hc,i,hi=>by simp[expand] at hc;subst hc;cases hi
 | .sl e,d,c,hc,i,hi=>by simp[expand] at hc;subst hc;exact hi
 | .gs wh e,d,c,hc,i,hi=>by simp[expand] at hc;subst hc;exact hi
 | .st t,d,c,hc,i,hi=>tH fr t d c hc i hi
 | .pr a b,d,c,hc,i,hi=>by
   have hc:c∈dX (expand fr a d.1) (expand fr b d.2):=hc
   rw[cp] at hc
   rcases List.mem_append.1 hc with hc|hc
   ·exact List.mem_append_left _ (tH fr a d.1 c hc i hi)
   ·exact List.mem_append_right _ (tH fr b d.2 c hc i hi)
theorem VS{lk:Nat->az}{e:Ty}{ys:List e.den}{i off:Nat}{xs:List C}{y:e.den}(hi:i<ys.length)(hy:readAll lk e (sN (expand false e (ys.getD i e.gh)) off xs)=some y)
 (hn:∀ c∈xs,c.jC=true) (ht:∀ c∈xs,c.Ge=true):∀ k∈aX e (ys.set i y),k∈aX e ys:=by
 have abl:∀ c∈sN (expand false e (ys.getD i e.gh)) off xs,c∈expand false e (ys.getD i e.gh)\/c∈xs:=by
  intro c hc
  unfold sN at hc
  rw[cp,cp,mH,mG,List.mem_append,List.mem_append] at hc
  rcases hc with hc|hc|hc
  ·exact .inl (List.mem_of_mem_take hc)
  ·exact .inr hc
  ·exact .inl (List.mem_of_mem_drop hc)
 have hyi:∀ k∈ids e y,k∈aX e ys:=by
  intro k hk
  obtain⟨c,hc,hkc⟩:=Pm hy (fun c hc=>by
   rcases abl c hc with h|h
   ·exact (DA false e _ c h).1
   ·exact hn c h) k hk
  rcases abl c hc with h|h
  ·have:=tH false e _ c h k hkc
   rw[xU _ hi] at this
   exact List.mem_flatMap.2 ⟨_,List.getElem_mem hi,this⟩
  ·rw[Hk (ht c h)] at hkc
   cases hkc
 intro k hk
 obtain⟨x,hx,hkx⟩:=List.mem_flatMap.1 hk
 rcases List.mem_or_eq_of_mem_set hx with hx|rfl
 ·exact List.mem_flatMap.2 ⟨x,hx,hkx⟩
 ·exact hyi k hkx
theorem T2(hT:cv P T){st:St}(r:Rel base M w0 V st a.tmps w){o:Oper}{t:TypeId}{p x:Operand}(ho:o.op = .store t p x){er:ER}(h:FF T st t p x=some er) :
 er.ob=none/\((∀ w' V',Rel base M w0 V' er.st a.tmps w'->S.ok V' er.st.an w' er.res undef->next (a.put o.dst undef) w')->o.wp P a w next Q):=by
 unfold FF at h
 cases hn:zR T t with
 | none=>rw[hn] at h;simp at h
 | some n =>
   have F4:∃ ti,T t=some ti/\ti.size=n:=by
    unfold zR at hn;cases hT':T t with
    | none=>rw[hT'] at hn;cases hn
    | some ti=>rw[hT'] at hn;simp only[omap,Option.some.injEq] at hn;exact⟨ti,rfl,hn⟩
   obtain⟨ti,ht,Jj⟩:=F4
   have hb:=hT t ti ht
   rw[hn] at h
   split at h
   ·rename_i n' m off xs Mi et nz
    simp only[Option.some.injEq] at Mi
    subst Mi
    split at h
    ·rename_i cs hm
     split at h
     ·rename_i hc
      injection h with h;subst h
      refine⟨rfl,fun mB=>?_⟩
      have Jg:=r.eval p
      rw[et] at Jg
      obtain⟨e1,hh,_⟩:=Jg
      have fQ:=r.mem.cE m
      rw[hm] at fQ
      obtain⟨ak,el,g1,g2⟩:=fQ
      have vg:=yL nz (r.eval x)
      simp only[dz] at hc
      have cD:(a.eval x).cells.size=n:=by have:=vg.1;rw[hc.1] at this;simpa using this.symm
      have AE:ak.size=cs.length:=by have:=g2.1;simpa using this.symm
      have nC:∀ v∈(a.eval x).cells.toList,v.oneCell'=true:=by
       intro v hv
       obtain⟨j,hj,rfl⟩:=List.getElem_of_mem hv
       exact C.dA (vg.2 j (xs[j]'(by rw[vg.1];exact hj)) _ (List.getElem?_eq_getElem _) (List.getElem?_eq_getElem _))
      have eT:=xC hb w (V.aF m) off ak el (a.eval x) (by rw[cD,Jj]) g1 (by omega) nC
      rw[<-e1] at eT
      have oH:=r.mem.own m (by rw[hm];rfl) hh
      refine upon_skip ho eT (mB _ V ?_ rfl)
      exact Kp r hm (fun b hb=>js w _ b _ hb) (xn r.mem.kept oH.1 _ (fun v2 e2 h2=>by rw[g1] at h2;injection h2 with h2;injection h2 with h2 _ _;subst h2;simp only[List.size_toArray,List.length_append,List.length_take,List.length_drop,Array.length_toList,cD];omega)) (setRow_size _ _ _) (setRow_heap w _ ak _ el (0,0) g1) (by simpa using BQ g2 vg)
     ·cases h
    ·cases h
   ·rename_i n' m0 i0 ahn Y0 Mi Us Jl
    simp only[Option.some.injEq] at Mi
    subst Mi
    simp only at h
    obtain⟨V1,r1⟩:=r.kh (nW Y0)
    split at h
    ·rename_i m i off xs et nz
     split at h
     ·rename_i fr e ys hm
      split at h
      ·rename_i hc
       split at h
       ·rename_i y hy
        injection h with h;subst h
        refine⟨rfl,fun mB=>?_⟩
        generalize aeO:st.kh (nW Y0)=dy at *
        have Jg:=r1.eval p
        rw[et] at Jg
        obtain⟨hh,a_,e',OQ,q1,hi,e1⟩:=Jg
        rw[hm] at q1
        injection q1 with q2 q3 q4
        subst q2;subst q3;cases q4
        have fQ:=r1.mem.cE m
        rw[hm] at fQ
        have vg:=yL nz (r1.eval x)
        simp only[dz,iF,List.all_eq_true] at hc
        obtain⟨c1,c2,c3,c4⟩:=hc
        have cD:(a.eval x).cells.toList.length=n:=by rw[<-vg.1,c1]
        have xl:(a.eval x).cells.size=n:=by simpa using cD
        have nC:∀ v∈(a.eval x).cells.toList,v.oneCell'=true:=by
         intro v hv
         obtain⟨j,hj,rfl⟩:=List.getElem_of_mem hv
         exact C.dA (vg.2 j (xs[j]'(by rw[vg.1];exact hj)) _ (List.getElem?_eq_getElem _) (List.getElem?_eq_getElem _))
        rcases fQ with ⟨k1,_⟩|⟨_,ak,el,k2,k3,k4⟩
        ·exact absurd hh k1
        ·obtain⟨es,g1,g2,g3⟩:=k4 i hi
         have v_:i*e.size+e.size<=ak.size:=by
          have RO:=g2 (e.size-1) (es[e.size-1]'(by have:=e.size_pos;omega)) (List.getElem?_eq_getElem _)
          have:=(Array.getElem?_eq_some_iff.1 RO).1
          have:=e.size_pos
          omega
         have eT:=xC hb w (V1.aF m) (i*e.size+off) ak el (a.eval x) (by rw[xl,Jj]) k2 (by omega) nC
         rw[<-e1] at eT
         have oH:=r1.mem.own m (by rw[hm];rfl) hh
         have iN:=setRow_heap w (V1.aF m) ak (ak.toList.take (i*e.size+off)++(a.eval x).cells.toList++ak.toList.drop (i*e.size+off+(a.eval x).cells.toList.length)).toArray el (0,0) k2
         have AD:(ak.toList.take (i*e.size+off)++(a.eval x).cells.toList++ak.toList.drop (i*e.size+off+(a.eval x).cells.toList.length)).length=ak.size:=by
          simp only[List.length_append,List.length_take,List.length_drop,Array.length_toList,xl];omega
         have Az:(fr&&(e.flat||fK C.gj xs))=true->fr=true:=fun h=>by simp at h;exact h.1
         have kw:Wr V1 dy.an w m (aD dy.an m (.row (fr&&(e.flat||fK C.gj xs)) e (ys.set i y))) (w.setRow (V1.aF m) (ak.toList.take (i*e.size+off)++(a.eval x).cells.toList++ak.toList.drop (i*e.size+off+(a.eval x).cells.toList.length)).toArray) :=
          ⟨fun n hn=>by simp only[aD,if_neg hn],fun b hb=>js w _ b _ hb,hh,.inr ⟨fr,fr&&(e.flat||fK C.gj xs),e,ys,ys.set i y,hm,by simp only[aD,if_true],by simp,ak,_,el,el,k2,iN,by simp only[List.size_toArray,AD]⟩⟩
         refine upon_skip ho eT (mB _ V1 ?_ rfl)
         refine Cf r1 kw rfl (xn r1.mem.kept oH.1 _ (fun v2 e2 h2=>by rw[k2] at h2;injection h2 with h2;injection h2 with h2 _ _;subst h2;simp only[List.size_toArray,AD])) (setRow_size _ _ _) ?_ (fun e2 ic heq=>?_) (fun cs heq=>by cases heq) (fun aT=>?_) (fun _ q hq=>?_)
         ·refine .inr ⟨hh,_,el,iN,by simpa using k3,fun j hj=>?_⟩
          have lr:j<ys.length:=by simpa using hj
          by_cases iL:j=i
          ·subst iL
           have g3':aI (V1.Z fr) w e es (ys.getD j e.gh):=by rw[xU _ lr];exact g3
           have xX:=BQ (off:=off) (sG (V:=V1) (hp:=dy.an) fr e g3') vg
           have hex:∀ c∈expand fr e (ys.getD j e.gh),c.jC=true/\(fr=true->c.gj=true):=DA fr e _
           have iO:aI (V1.Z (fr&&fK C.gj xs)) w e (es.take off++(a.eval x).cells.toList++es.drop (off+(a.eval x).cells.toList.length)) y:=by
            refine vC hy xX (fun c fF=>?_)
            unfold sN at fF
            rw[cp,cp,mH,mG,dz,List.mem_append,List.mem_append] at fF
            rcases fF with fF|fF|fF
            ·obtain⟨z1,z2⟩:=hex c (List.mem_of_mem_take fF)
             exact⟨z1,fun hf=>z2 (by simp at hf;exact hf.1)⟩
            ·exact⟨c3 c fF,fun hf=>by simp[iF] at hf;exact hf.2 c fF⟩
            ·obtain⟨z1,z2⟩:=hex c (List.mem_of_mem_drop fF)
             exact⟨z1,fun hf=>z2 (by simp at hf;exact hf.1)⟩
           have L3:off+(a.eval x).cells.toList.length<=es.length:=by rw[cD,g1];exact c2
           refine⟨_,aI.length iO,fun q u hq=>?_,?_⟩
           ·rw[List.getElem?_toArray,zT _ _ _ _ (by simp only[Array.length_toList,xl];omega)]
            rw[zT _ _ _ _ L3] at hq
            have hql:q<e.size:=by
             rcases Nat.lt_or_ge q e.size with h|h
             ·exact h
             ·rw[if_neg (by omega),if_neg (by rw[cD];omega),List.getElem?_eq_none (by rw[g1];exact h)] at hq;cases hq
            by_cases q1:q<off
            ·rw[if_pos q1] at hq
             rw[if_pos (by omega)]
             have:=g2 q u hq
             simpa using this
            ·rw[if_neg q1] at hq
             rw[if_neg (by omega)]
             by_cases q2:q<off+(a.eval x).cells.toList.length
             ·rw[if_pos q2] at hq
              rw[if_pos (by omega),show j*e.size+q-(j*e.size+off)=q-off by omega]
              exact hq
             ·rw[if_neg q2] at hq
              rw[if_neg (by omega)]
              have:=g2 q u hq
              simpa using this
           ·rw[List.getElem_set_self]
            cases eD:e.flat with
            | true=>exact iO.flat eD
            | false =>
              rw[Bool.false_or]
              exact iO.mono (fun _ h=>h) (fun b hb=>kw.z r1.mem hb)
          ·obtain⟨jc,q1,q2,q3⟩:=k4 j lr
           refine⟨jc,q1,fun q u hq=>?_,?_⟩
           ·have hql:q<e.size:=by rw[<-q1];exact (List.getElem?_eq_some_iff.1 hq).1
            rw[List.getElem?_toArray,zT _ _ _ _ (by simp only[Array.length_toList,xl];omega),cD]
            have bo:j*e.size+q<i*e.size+off\/i*e.size+off+n<=j*e.size+q:=by
             rcases Nat.lt_or_gt_of_ne iL with h|h
             ·left
              have:(j+1)*e.size<=i*e.size:=Nat.mul_le_mul_right _ h
              rw[Nat.add_mul,Nat.one_mul] at this;omega
             ·right
              have:(i+1)*e.size<=j*e.size:=Nat.mul_le_mul_right _ h
              rw[Nat.add_mul,Nat.one_mul] at this;omega
            have:=q2 q u hq
            rcases bo with h|h
            ·rw[if_pos h];simpa using this
            ·rw[if_neg (by omega),if_neg (by omega)];simpa using this
           ·rw[List.getElem_set_ne (fun h=>iL h.symm)]
            have hz:∀ b,V1.Z fr b->V1.Z (fr&&(e.flat||fK C.gj xs)) b\/True:=fun _ _=>.inr trivial
            cases eD:e.flat with
            | true=>exact q3.flat eD
            | false =>
              rw[Bool.false_or]
              refine q3.mono (fun b hb=>kO (fun hf=>by simp at hf;exact hf.1) hb) (fun b hb=>kw.z r1.mem hb)
         ·injection heq with h1 h2 h3
          exact r1.mem.fY m e ys (by rw[hm,Az h1]) hh
         ·refine r1.mem.jO m ?_ hh
          rw[hm]
          cases fr with
          | false=>exact (gU aT)
          | true =>
            have h2:(e.flat||fK C.gj xs)=true:=by
             have h9:=gU aT
             cases hf:e.flat with
             | true=>rfl
             | false =>
               rw[hf,Bool.false_or] at h9
               have Fp:(!e.bQ||fK C.gj xs)=true:=c4
               rw[h9] at Fp
               exact Fp
            rw[h2] at aT
            exact aT
         ·cases hfv:fr with
          | true =>
            subst hfv
            exfalso
            have hg:e.bQ=true/\(e.flat||fK C.gj xs)=false:=by
             cases fO:(e.flat||fK C.gj xs) with
             | true=>rw[fO] at hq;cases hq
             | false =>
               rw[fO] at hq
               have fH:q∈(if e.bQ then aX e (ys.set i y) else []):=hq
               split at fH
               ·rename_i h;exact⟨h,rfl⟩
               ·cases fH
            have Fp:(!e.bQ||fK C.gj xs)=true:=c4
            rw[hg.1] at Fp
            have h9:=hg.2
            rw[Bool.or_eq_false_iff] at h9
            rw[h9.2] at Fp
            cases Fp
          | false =>
            subst hfv
            have fH:q∈(if e.bQ then aX e (ys.set i y) else []):=hq
            split at fH
            ·rename_i hg
             intro e0
             have Fp:(!e.bQ||(!(Nat.beq m 0)||fK C.Ge xs))=true:=c4
             rw[hg,show Nat.beq m 0=true by rw[e0];rfl,Bool.not_true,Bool.false_or,Bool.false_or,iF,List.all_eq_true] at Fp
             have h9:=VS hi hy c3 Fp q fH
             refine r1.mem.gE m hh q ?_ e0
             rw[hm]
             show q∈(if e.bQ then aX e ys else [])
             rw[if_pos hg]
             exact h9
            ·cases fH
       ·cases h
      ·cases h
     ·cases h
    ·cases h
   ·cases h
theorem RC(hT:cv P T){st:St}(r:Rel base M w0 V st a.tmps w){o:Oper}{t:TypeId}{p x:Operand}(ho:o.op = .store t p x){er:ER}(h:Ho T st t p x=some er)(ep:∀ p,er.ob=some p->p)
 (mB:∀ w' V',Rel base M w0 V' er.st a.tmps w'->S.ok V' er.st.an w' er.res undef->next (a.put o.dst undef) w'):o.wp P a w next Q:=by
 unfold Ho at h
 split at h
 case h_2=>cases h
 rename_i len te es n dQ sz gJ z ty sO m e xs ht et nz
 split at h
 case h_2=>cases h
 rename_i fr e' ys hm
 split at h
 case isFalse=>cases h
 rename_i mA
 subst mA
 injection h with h;subst h
 obtain⟨hlen,cD⟩:=ep _ rfl
 have hb:=hT t _ ht
 have Jg:=r.eval p
 rw[et] at Jg
 obtain⟨hh,a_,e2,OQ,q1,hi,e1⟩:=Jg
 rw[hm] at q1
 injection q1 with q2 q3 q4
 subst q2;subst q3;cases q4
 have Mr:=r.eval x
 rw[nz] at Mr
 obtain⟨eD,vs,hv,AE,g9⟩:=Mr
 have fQ:=r.mem.cE m
 rw[hm] at fQ
 rcases fQ with ⟨k1,_⟩|⟨_,ak,el,k2,k3,k4⟩
 ·exact absurd hh k1
 have hX:=e'.size_pos
 have v_:ys.length*e'.size<=ak.size:=by
  obtain⟨jc,g1,g2,_⟩:=k4 (ys.length-1) (by omega)
  have:=g2 (e'.size-1) (jc[e'.size-1]'(by omega)) (List.getElem?_eq_getElem _)
  have h6:=(Array.getElem?_eq_some_iff.1 this).1
  have h7:ys.length*e'.size=(ys.length-1)*e'.size+e'.size:=by
   conv=>lhs;rw[show ys.length=ys.length-1+1 by omega,Nat.add_mul,Nat.one_mul]
  omega
 have fA:(a.eval x).cells=vs:=by rw[hv];rfl
 have nC:∀ v∈(a.eval x).cells.toList,v.oneCell'=true:=by
  intro v cr
  rw[fA] at cr
  obtain⟨j,hj,rfl⟩:=List.getElem_of_mem cr
  have lr:j<xs.length*e'.size:=by rw[<-AE];simpa using hj
  have hd:j/e'.size<xs.length:=(Nat.div_lt_iff_lt_mul hX).2 lr
  obtain⟨jc,g1,g2,g3⟩:=g9 _ hd
  have xk:j%e'.size<jc.length:=by rw[g1];exact Nat.mod_lt _ hX
  have:=g2 (j%e'.size) _ (List.getElem?_eq_getElem xk)
  rw[Nat.div_add_mod' j e'.size] at this
  have h8:vs.toList[j]? = some jc[j%e'.size]:=by simpa using this
  rw[List.getElem?_eq_getElem hj] at h8
  injection h8 with h8
  rw[h8]
  exact g3.dA _ (List.getElem_mem xk)
 have xl:(a.eval x).cells.size=sz:=by rw[fA,AE,cD]
 have eT:=xC hb w (V.aF m) 0 ak el (a.eval x) (by rw[xl]) k2 (by rw[xl,<-cD,hlen,Nat.zero_add];exact v_) nC
 have LC:a.eval p = .pointer (some ⟨V.aF m,0,none⟩):=by rw[e1,Nat.zero_mul]
 rw[<-LC] at eT
 have oH:=r.mem.own m (by rw[hm];rfl) hh
 have AD:(ak.toList.take 0++(a.eval x).cells.toList++ak.toList.drop (0+(a.eval x).cells.toList.length)).length=ak.size:=by
  simp only[List.length_append,List.length_take,List.length_drop,Array.length_toList,xl,List.take_zero,List.length_nil,Nat.zero_add]
  have:sz<=ak.size:=by rw[<-cD,hlen];exact v_
  omega
 have iN:=setRow_heap w (V.aF m) ak (ak.toList.take 0++(a.eval x).cells.toList++ak.toList.drop (0+(a.eval x).cells.toList.length)).toArray el (0,0) k2
 have kw:Wr V st.an w m (aD st.an m (.row fr e' xs)) (w.setRow (V.aF m) (ak.toList.take 0++(a.eval x).cells.toList++ak.toList.drop (0+(a.eval x).cells.toList.length)).toArray) :=
  ⟨fun n hn=>by simp only[aD,if_neg hn],fun b hb=>js w _ b _ hb,hh,.inr ⟨fr,fr,e',ys,xs,hm,by simp only[aD,if_true],hlen.symm,ak,_,el,el,k2,iN,by simp only[List.size_toArray,AD]⟩⟩
 refine upon_skip ho eT (mB _ V ?_ rfl)
 refine Cf r kw rfl (xn r.mem.kept oH.1 _ (fun v2 e2 h2=>by rw[k2] at h2;injection h2 with h2;injection h2 with h2 _ _;subst h2;simp only[List.size_toArray,AD])) (setRow_size _ _ _) ?_ (fun e2 ic heq=>?_) (fun cs heq=>by cases heq) (fun aT=>?_) (fun _ q hq=>?_)
 ·refine .inr ⟨hh,_,el,iN,by rw[hlen];exact k3,fun j hj=>?_⟩
  obtain⟨jc,g1,g2,g3⟩:=g9 j hj
  refine⟨jc,g1,fun q u hq=>?_,g3.flat eD⟩
  have:=g2 q u hq
  have aT:=(Array.getElem?_eq_some_iff.1 this).1
  rw[List.take_zero,List.nil_append,List.getElem?_toArray,List.getElem?_append_left (by rw[fA];simpa using aT),fA]
  simpa using this
 ·injection heq with h1 h2 h3
  exact r.mem.fY m e' ys (by rw[hm,h1]) hh
 ·refine r.mem.jO m ?_ hh
  rw[hm]
  cases fr with
  | true=>exact aT.elim
  | false=>exact aT
 ·exfalso
  have hg:e'.bQ=true:=by
   cases fr with
   | true=>cases hq
   | false =>
     have fH:q∈(if e'.bQ then aX e' xs else []):=hq
     split at fH
     ·rename_i h;exact h
     ·cases fH
  rw[oF eD] at hg
  cases hg
end
end Go.SX
/- Append. No condition. -/
namespace Go.SX
open Go.RowKit
set_option linter.unusedVariables false
set_option linter.unusedSimpArgs false
section
variable {P : Program} {T : cC} {base : Nat} {M : LM} {w0 : World} {V : Vl} {hp : Nat → az} {w : World} {a : Act} {next : Act → World → Prop} {Q : Exit → Act → World → Prop}
theorem As{g:Nat}{ak:Array Value}{el:TypeId}{fr:Nat×Nat}(h:w.heap[g]? = some (.cells ak el fr))(j:Nat):w.cell? ⟨g,j,none⟩=ak[j]? := by
 simp[World.cell?,h]
inductive D6 (w w':World) (v v':Value) (sz k:Nat) (all:List Value):Prop where
 | same (h1:v'=v) (h2:w'=w)
 | row (g cap:Nat) (ak:Array Value) (el:TypeId) (h1:v' = .slice (some ⟨g,0,none⟩) k cap) (h2:w'.heap[g]? = some (.cells ak el (0,0))) (h3:ak.size=cap*sz) (h4:k<=cap)
    (h5:ak.toList.take (k*sz)=all) (h6:(∃ l,v = .slice (some ⟨g,0,none⟩) l cap/\g<w.heap.size/\w'.heap.size=w.heap.size)\/(g=w.heap.size/\w'.heap.size=w.heap.size+1))
    (h7:∀ b,b≠g->b<w.heap.size->w'.heap[b]? = w.heap[b]?) (h8:w'.os=w.os/\w'.tape=w.tape/\w'.output=w.output)
theorem wK{t ty te:TypeId}{i:TypeInfo}(ht:P.underlying t=some (.slice te))(hi:P.info? te=some i)(bs aa:Option Addr)(h cap c:Nat)(hc:h<=cap) :
 (Builtin.append_ #[t,t] ty #[.slice bs h cap,.slice aa 0 c]).run P w = .ok (.slice bs h cap) w:=by
 cases bs<;>cases aa<;>simp[Builtin.append_,run_underlying ht,sizeOf,typeInfo,hi,Builtin.lenOf,Builtin.firstCells,loadCells,loadCellsFrom,hc,storeCells]
theorem rD{t ty te:TypeId}{i:TypeInfo}{z:Value}(ht:P.underlying t=some (.slice te))(hi:P.info? te=some i)(hz:i.zero=some z)(iP:z.cells.size=i.size)(hX:0<i.size)
 {v:Value} {h cap:Nat} {g:Nat} {ak:Array Value} {el:TypeId}
 (hv:(v = .slice none 0 0/\h=0/\ak = #[])\/(v = .slice (some ⟨g,0,none⟩) h cap/\w.heap[g]? = some (.cells ak el (0,0))/\ak.size=cap*i.size/\h<=cap))
 {aa:Option Addr} {m c:Nat} {news:List Value} (hl:news.length=m*i.size) (CR:0<m->∃ b o,aa=some ⟨b,o,none⟩/\∀(j:Nat) u,news[j]? = some u->w.cell? ⟨b,o+j,none⟩=some u)
 (h1:∀ u∈news,u.oneCell'=true) (h63:h+m<=9223372036854775807) (hb:(h+m)*i.bytes<=140737488355328) :
 ∃ v' w',(Builtin.append_ #[t,t] ty #[v,.slice aa m c]).run P w = .ok v' w'/\D6 w w' v v' i.size (h+m) (ak.toList.take (h*i.size)++news)/\(0<m->∃ g' j9,v' = .slice (some ⟨g',0,none⟩) (h+m) j9)/\(m=0->v'=v/\w'=w):=by
 by_cases hm:m=0
 ·subst hm
  have hn:news=[]:=List.eq_nil_of_length_eq_zero (by simpa using hl)
  subst hn
  rcases hv with ⟨rfl,rfl,rfl⟩|⟨rfl,_,_,h4⟩
  ·exact⟨_,w,wK ht hi none aa 0 0 c (Nat.le_refl _),.same rfl rfl,fun h=>absurd h (by omega),fun _=>⟨rfl,rfl⟩⟩
  ·exact⟨_,w,wK ht hi _ aa h cap c h4,.same rfl rfl,fun h=>absurd h (by omega),fun _=>⟨rfl,rfl⟩⟩
 ·obtain⟨b,o,rfl,hn⟩:=CR (by omega)
  have gR:∀(j:Nat) u,news[j]? = some u->w.cell? ((⟨b,o,none⟩:Addr).add j)=some u:=fun j u hu=>by rw[nD];exact hn j u hu
  rcases hv with ⟨rfl,rfl,rfl⟩|⟨rfl,k2,k3,k4⟩
  ·have hr:=run_append_nil (P:=P) w t ty te i z ht hi hz ⟨b,o,none⟩ m c news hl gR (by omega) (by omega) (by simp only[Nat.zero_add] at hb;omega)
   have jV:=grownCap_ge w m 0 te
   refine⟨_,_,hr,.row w.heap.size (grownCap w m 0 te) _ te (by simp) (Ek w.drew _) ?_ (by omega) ?_ (.inr ⟨rfl,by simp[World.alloc,heap_drew]⟩) (fun q hq aT=>?_) ⟨rfl,rfl,rfl⟩,fun _=>⟨w.heap.size,grownCap w m 0 te,by simp⟩,fun h=>absurd h hm⟩
   ·simp only[Array.size_append,List.size_toArray,size_zeroCells,iP,hl,<-Nat.add_mul]
    congr 1;omega
   ·simp only[Array.toList_append,Nat.zero_add,Nat.zero_mul,List.take_zero,List.nil_append]
    rw[<-hl];exact List.take_left
   ·show (w.heap.push _)[q]? = _;rw[Array.getElem?_push,if_neg (by omega)]
  ·have L6:g<w.heap.size:=(Array.getElem?_eq_some_iff.1 k2).1
   by_cases r5:h+m<=cap
   ·have WS:h*i.size+news.length<=ak.size:=by rw[hl,k3,<-Nat.add_mul];exact Nat.mul_le_mul_right _ r5
    have hf:=run_firstCells_some (P:=P) w i.size m ⟨b,o,none⟩ m c news hl gR
    have iw:=run_storeCells_at P g (h*i.size) el news 0 ak w k2 (by simpa using WS) h1
    simp only[Nat.add_zero] at iw
    have hr:(Builtin.append_ #[t,t] ty #[.slice (some ⟨g,0,none⟩) h cap,.slice (some ⟨b,o,none⟩) m c]).run P w =
     .ok (.slice (some ⟨g,0,none⟩) (h+m) cap) (w.setRow g (ak.toList.take (h*i.size)++news++ak.toList.drop (h*i.size+news.length)).toArray):=by
     simp[Builtin.append_,run_underlying ht,sizeOf,typeInfo,hi,Builtin.lenOf,r5,hf,Addr.add_lit,iw]
    have hlen:(ak.toList.take (h*i.size)++news).length=(h+m)*i.size:=by
     rw[List.length_append,List.length_take,Array.length_toList,hl,Nat.add_mul];omega
    refine⟨_,_,hr,.row g cap _ el rfl (setRow_heap w g ak _ el (0,0) k2) ?_ r5 ?_ (.inl ⟨h,rfl,L6,setRow_size _ _ _⟩) (fun q hq _=>js w g q _ hq) ⟨rfl,rfl,rfl⟩,fun _=>⟨g,cap,rfl⟩,fun h=>absurd h hm⟩
    ·simp only[List.size_toArray,List.length_append,List.length_take,List.length_drop,Array.length_toList];omega
    ·rw[<-hlen];exact List.take_left
   ·have holds:∀(j:Nat) u,(ak.toList.take (h*i.size))[j]? = some u->w.cell? ((⟨g,0,none⟩:Addr).add j)=some u:=by
     intro j u hu
     rw[nD,Nat.zero_add,As k2]
     rw[List.getElem?_take] at hu
     split at hu
     ·simpa using hu
     ·cases hu
    have DF:(ak.toList.take (h*i.size)).length=h*i.size:=by
     rw[List.length_take,Array.length_toList,k3]
     exact Nat.min_eq_left (Nat.mul_le_mul_right _ k4)
    have hr:=run_append_grow (P:=P) w t ty te i z ht hi hz ⟨g,0,none⟩ h cap _ DF holds ⟨b,o,none⟩ m c news hl gR (by omega) (by omega) (growslice_fits (by omega) hb)
    have jV:=grownCap_ge w (h+m) cap te
    have hlen:(ak.toList.take (h*i.size)++news).length=(h+m)*i.size:=by rw[List.length_append,DF,hl,Nat.add_mul]
    refine⟨_,_,hr,.row w.heap.size (grownCap w (h+m) cap te) _ te rfl (Ek w.drew _) ?_ jV ?_ (.inr ⟨rfl,by simp[World.alloc,heap_drew]⟩) (fun q hq aT=>?_) ⟨rfl,rfl,rfl⟩,fun _=>⟨_,_,rfl⟩,fun h=>absurd h hm⟩
    ·simp only[Array.size_append,List.size_toArray,size_zeroCells,iP,DF,hl,<-Nat.add_mul]
     congr 1;omega
    ·simp only[Array.toList_append,List.append_assoc]
     rw[<-List.append_assoc,<-hlen]
     exact List.take_left
    ·show (w.heap.push _)[q]? = _;rw[Array.getElem?_push,if_neg (by omega)]
def pj(Z:Nat->Prop)(w:World)(e:Ty)(aa:Option Addr)(ys:List e.den):Prop :=
 ∀ i (h:i<ys.length),∃ b o,aa=some ⟨b,o,none⟩/\∃ es,es.length=e.size/\oS w b (o+i*e.size) es/\aI Z w e es ys[i]
theorem wP{Z:Nat->Prop}{e:Ty}{v:Value}{ys:List e.den}(h:aI Z w (.sl e) [v] ys):∃ aa cap,v = .slice aa ys.length cap/\ys.length<=cap/\ys.length<=cY/\pj Z w e aa ys:=by
 obtain⟨a,cap,hv,h2,h3,h4⟩:=h
 simp only[List.cons.injEq,and_true] at hv
 refine⟨a,cap,hv,h2,h3,fun i hi=>?_⟩
 obtain⟨ad,rfl,h5,h6,es,h7,h8,h9⟩:=h4 i hi
 obtain⟨b,o,sp⟩:=ad
 simp only at h5
 subst h5
 exact⟨b,o,rfl,es,h7,h8,h9⟩
theorem Be{n h:Nat}{fr:Bool}{e:Ty}{xs:List e.den}{v:Value}(he:(az.row fr e xs).ok V hp w n)(hr:du V w n e h v)(hh:h<=xs.length) :
 ∃ aa cap,v = .slice aa (xs.take h).length cap/\(xs.take h).length<=cap/\(xs.take h).length<=cY/\pj (V.Z fr) w e aa (xs.take h):=by
 have hlen:(xs.take h).length=h:=by rw[List.length_take];omega
 rcases hr with ⟨h1,rfl,rfl⟩|⟨h1,cap,ak,el,rfl,h3,h4,h5⟩
 ·exact⟨none,0,by simp,by simp,by simp,fun i hi=>by simp at hi⟩
 ·rcases he with ⟨k1,_⟩|⟨_,ba,dC,k2,k3,k4⟩
  ·exact absurd h1 k1
  ·refine⟨_,cap,by rw[hlen],by omega,by omega,fun i hi=>?_⟩
   rw[hlen] at hi
   obtain⟨es,q1,q2,q3⟩:=k4 i (by omega)
   refine⟨V.aF n,0,rfl,es,q1,fun j hj=>?_,by rw[List.getElem_take];exact q3⟩
   rw[Nat.zero_add,As k2]
   exact q2 j _ (List.getElem?_eq_getElem hj)
theorem I5{Z Z':Nat->Prop}{e:Ty}(hf:e.flat=true){aa:Option Addr}{ys:List e.den}(h:pj Z w e aa ys):pj Z' w e aa ys:=fun i hi =>
 let ⟨b,o,h1,es,h2,h3,h4⟩:=h i hi
 ⟨b,o,h1,es,h2,h3,h4.flat hf⟩
theorem pj.nE{Z:Nat->Prop}{e' e:Ty}{aa:Option Addr}{xs:List e'.den}{ys:List e.den}(h:pj Z w e' aa xs)(k:SX.nE e' e xs=some ys):pj Z w e aa ys:=by
 intro i hi
 obtain⟨b,o,h1,es,h2,h3,h4⟩:=h i (by rw[<-qZ k];exact hi)
 rw[(yJ k).1] at h2 h3
 exact⟨b,o,h1,es,h2,h3,TJ k hi h4⟩
theorem N3(he:∀ n,(hp n).ok V hp w n){e:Ty}{c:C}{ys:List e.den}{f:Bool}{v:Value}(h:rB hp e c=some ys)(hf:qn hp e c=some f)(ho:C.ok V hp w c v) :
 ∃ aa cap,v = .slice aa ys.length cap/\ys.length<=cY/\pj (V.Z f) w e aa ys:=by
 have fix:∀ {fr:Bool} {aa:Option Addr} {ys:List e.den},pj (V.Z fr) w e aa ys->pj (V.Z (e.flat||fr)) w e aa ys:=by
  intro fr aa ys h
  cases eD:e.flat with
  | true=>exact I5 eD h
  | false=>rw[Bool.false_or];exact h
 unfold rB at h
 split at h
 ·rename_i fr e' xs
  simp only[qn,Option.some.injEq] at hf;subst hf
  obtain⟨aa,cap,h1,_,h3,h4⟩:=wP (sh ho h)
  exact⟨aa,cap,h1,h3,fix h4⟩
 ·rename_i n e' xs
  split at h
  ·rename_i hk;subst hk;injection h with h;subst h
   simp only[qn] at hf
   split at hf
   ·rename_i eD
    injection hf with hf;subst hf
    obtain⟨aa,cap,h1,_,h3,h4⟩:=wP ho.2
    exact⟨aa,cap,h1,h3,I5 eD h4⟩
   ·cases hf
  ·cases h
 ·rename_i n
  split at h
  ·rename_i fr e' br hn
   simp only[qn,hn,Option.some.injEq] at hf;subst hf
   obtain⟨a_,e2,ic,h3,h4⟩:=ho
   rw[hn] at h3
   injection h3 with e1 e2 e3
   subst e1;subst e2;cases e3
   have h5:=he n
   rw[hn] at h5
   obtain⟨aa,cap,g1,_,g3,g4⟩:=Be h5 h4 (Nat.le_refl _)
   rw[List.take_length] at g1 g3 g4
   exact⟨aa,cap,by rw[qZ h];exact g1,by rw[qZ h];exact g3,fix (g4.nE h)⟩
  ·cases h
 ·rename_i n mm
  split at h
  ·rename_i fr e' br hn
   simp only[qn,hn,Option.some.injEq] at hf;subst hf
   obtain⟨a_,e2,ic,h3,h6,h4⟩:=ho
   rw[hn] at h3
   injection h3 with e1 e2 e3
   subst e1;subst e2;cases e3
   have h5:=he n
   rw[hn] at h5
   obtain⟨aa,cap,g1,_,g3,g4⟩:=Be h5 h4 h6
   exact⟨aa,cap,by rw[qZ h];exact g1,by rw[qZ h];exact g3,fix (g4.nE h)⟩
  ·cases h
 ·rename_i fr wh e' b xs
  simp only[qn,Option.some.injEq] at hf;subst hf
  obtain⟨aa,cap,h1,_,h3,h4⟩:=wP (sh (ze ho) h)
  exact⟨aa,cap,h1,h3,fix h4⟩
 ·injection h with h;subst h
  rw[ho.1]
  exact⟨none,0,rfl,Nat.zero_le _,fun i hi=>by simp at hi⟩
 ·cases h
theorem FI{Z:Nat->Prop}{e:Ty}{aa:Option Addr}{ys:List e.den}(h:pj Z w e aa ys):∃ news:List Value,news.length=ys.length*e.size ∧
 (0<ys.length->∃ b o,aa=some ⟨b,o,none⟩/\∀(j:Nat) u,news[j]? = some u->w.cell? ⟨b,o+j,none⟩=some u)/\(∀ u∈news,u.oneCell'=true) ∧
 ∀ i (h:i<ys.length),∃ es,es.length=e.size/\(∀(j:Nat) u,es[j]? = some u->news[i*e.size+j]? = some u)/\aI Z w e es ys[i]:=by
 cases ys with
 | nil=>exact⟨[],by simp,fun h=>by simp at h,fun u hu=>by simp at hu,fun i hi=>by simp at hi⟩
 | cons y0 yr =>
   generalize BG:y0::yr=ys at *
   have hX:0<ys.length:=by rw[<-BG];simp
   obtain⟨b,o,rfl,_⟩:=h 0 hX
   have cD:=e.size_pos
   have hk:∀ k,k<ys.length*e.size->∃ u,w.cell? ⟨b,o+k,none⟩=some u/\u.oneCell'=true:=by
    intro k hk
    have hi:k/e.size<ys.length:=by rw[Nat.div_lt_iff_lt_mul cD];exact hk
    obtain⟨b',o',hb,es,h1,h2,h3⟩:=h _ hi
    injection hb with hb
    injection hb with fe jx
    subst fe;subst jx
    have hj:k%e.size<es.length:=by rw[h1];exact Nat.mod_lt _ cD
    have:=h2 (k%e.size) hj
    have hdm:k/e.size*e.size+k%e.size=k:=by rw[Nat.mul_comm];exact Nat.div_add_mod k e.size
    rw[Nat.add_assoc,hdm] at this
    exact⟨_,this,aI.dA h3 _ (List.getElem_mem _)⟩
   refine⟨(List.range (ys.length*e.size)).map (fun k=>(w.cell? ⟨b,o+k,none⟩).getD undef),by simp,fun _=>⟨b,o,rfl,fun j u hu=>?_⟩,fun u hu=>?_,fun i hi=>?_⟩
   ·rw[List.getElem?_map] at hu
    cases hj:(List.range (ys.length*e.size))[j]? with
    | none=>rw[hj] at hu;cases hu
    | some k =>
      rw[hj] at hu
      have L_:=(List.getElem?_eq_some_iff.1 hj).1
      have hkj:k=j:=by have:=(List.getElem?_eq_some_iff.1 hj).2;simpa using this.symm
      subst hkj
      simp only[List.length_range] at L_
      simp only[Option.map_some,Option.some.injEq] at hu
      obtain⟨u',h1,_⟩:=hk k L_
      rw[h1] at hu ⊢
      simpa using hu
   ·rw[List.mem_map] at hu
    obtain⟨k,iM,rfl⟩:=hu
    obtain⟨u',h1,h2⟩:=hk k (List.mem_range.1 iM)
    rw[h1];exact h2
   ·obtain⟨b',o',hb,es,h1,h2,h3⟩:=h i hi
    injection hb with hb
    injection hb with fe jx
    subst fe;subst jx
    refine⟨es,h1,fun j u hu=>?_,h3⟩
    have hj:=(List.getElem?_eq_some_iff.1 hu).1
    have aT:i*e.size+j<ys.length*e.size:=by
     have:(i+1)*e.size<=ys.length*e.size:=Nat.mul_le_mul_right _ hi
     rw[Nat.add_mul,Nat.one_mul] at this;omega
    rw[List.getElem?_map,List.getElem?_range aT]
    have h5:=h2 j hj
    rw[Nat.add_assoc] at h5
    simp only[Option.map_some,h5,Option.getD_some]
    rw[List.getElem?_eq_getElem hj] at hu
    exact hu
end
end Go.SX
/- Append, in the words of the state. No condition. -/
namespace Go.SX
open Go.RowKit
set_option linter.unusedVariables false
set_option linter.unusedSimpArgs false
section
variable {P : Program} {T : cC} {base : Nat} {M : LM} {w0 : World} {V : Vl} {w : World} {a : Act} {next : Act → World → Prop} {Q : Exit → Act → World → Prop}
def Vl.move(V:Vl)(m g:Nat):Vl where
 aF n:=if n=m then g else V.aF n
 has n:=if n=m then True else V.has n
 Z0:=V.Z0
 Z1:=V.Z1
theorem Cj{Z Z':Nat->Prop}{w':World}{e:Ty}{ak ba:Array Value}{xs ys:List e.den}{news:List Value}(h1:gl Z w e ak xs)(h2:news.length=ys.length*e.size)
 (h3:∀ i (h:i<ys.length),∃ es,es.length=e.size/\(∀(j:Nat) u,es[j]? = some u->news[i*e.size+j]? = some u)/\aI Z' w e es ys[i])
 (h4:ba.toList.take ((xs.length+ys.length)*e.size)=ak.toList.take (xs.length*e.size)++news) (h5:xs.length*e.size<=ak.size) {Z2:Nat->Prop}
 (g1:∀ {cs:List Value} {d:e.den},aI Z w e cs d->aI Z2 w' e cs d) (g2:∀ {cs:List Value} {d:e.den},aI Z' w e cs d->aI Z2 w' e cs d):gl Z2 w' e ba (xs++ys):=by
 have Bv:∀ k u,k<(xs.length+ys.length)*e.size->(ak.toList.take (xs.length*e.size)++news)[k]? = some u->ba[k]? = some u:=by
  intro k u hk hu
  rw[<-h4,List.getElem?_take,if_pos hk] at hu
  simpa using hu
 have hl:(ak.toList.take (xs.length*e.size)).length=xs.length*e.size:=by
  have hv:ak.toList.length=ak.size:=Array.length_toList
  rw[List.length_take,hv];exact Nat.min_eq_left h5
 intro i hi
 rw[List.length_append] at hi
 rcases Nat.lt_or_ge i xs.length with h|h
 ·obtain⟨es,q1,q2,q3⟩:=h1 i h
  refine⟨es,q1,fun j u hu=>?_,by rw[List.getElem_append_left h];exact g1 q3⟩
  have hj:j<e.size:=by rw[<-q1];exact (List.getElem?_eq_some_iff.1 hu).1
  have aT:i*e.size+j<xs.length*e.size:=by
   have:(i+1)*e.size<=xs.length*e.size:=Nat.mul_le_mul_right _ h
   rw[Nat.add_mul,Nat.one_mul] at this;omega
  refine Bv _ u (by rw[Nat.add_mul];omega) ?_
  rw[List.getElem?_append_left (by rw[hl];exact aT),List.getElem?_take,if_pos aT]
  have:=q2 j u hu
  simpa using this
 ·obtain⟨es,q1,q2,q3⟩:=h3 (i-xs.length) (by omega)
  refine⟨es,q1,fun j u hu=>?_,by rw[List.getElem_append_right h];exact g2 q3⟩
  have hj:j<e.size:=by rw[<-q1];exact (List.getElem?_eq_some_iff.1 hu).1
  have hmul:i*e.size=xs.length*e.size+(i-xs.length)*e.size:=by rw[<-Nat.add_mul];congr 1;omega
  have aT:i*e.size+j<(xs.length+ys.length)*e.size:=by
   have:(i+1)*e.size<=(xs.length+ys.length)*e.size:=Nat.mul_le_mul_right _ (by omega)
   rw[Nat.add_mul,Nat.one_mul] at this;omega
  refine Bv _ u aT ?_
  rw[List.getElem?_append_right (by rw[hl];omega),hl,show i*e.size+j-xs.length*e.size=(i-xs.length)*e.size+j by omega]
  exact q2 j u hu
theorem rC{st:St}{ts:Array Value}(r:Rel base M w0 V st ts w){m:Nat}{fr a_:Bool}{e:Ty}{xs br:List e.den}(hm:st.an m = .row fr e xs){w':World}{V':Vl}
 (iM:Kept base M w0 w') (cD:w.heap.size<=w'.heap.size) (jh:∀ b,b<w.heap.size->(V.has m->b≠V.aF m)->w'.heap[b]? = w.heap[b]?)
 (hV:∀ n,n≠m->V'.aF n=V.aF n/\(V'.has n↔V.has n)) (wg:V'.Z0=V.Z0) (F7:V'.Z1=V.Z1)
 (fQ:∀ aJ,aJ m = .row a_ e br->(az.row a_ e br).ok V' aJ w' m) (oH:V'.has m->(base<=V'.aF m\/M (V'.aF m))/\V'.aF m<w'.heap.size/\(w.heap.size<=V'.aF m\/(V.has m/\V'.aF m=V.aF m)))
 (mh:a_=true->V'.has m->base<=V'.aF m) (RP:(az.row a_ e br).hD->V'.has m->M.nm (V'.aF m) m) (FZ:V'.has m->∀ i∈(az.row a_ e br).gE,m=0->M i) :
 Rel base M w0 V' { (st.map (bI m)) with hp:=bP (st.map (bI m)).hp m (.row a_ e br) } ts w':=by
 have r1:=r.kill (DK m)
 have mm:=r1.mem
 have hl:(st.an m).live=true:=by rw[hm];rfl
 have aT:m<st.hp.length:=iJ hl
 have ec:(St.mk (st.map (bI m)).ts (bP (st.map (bI m)).hp m (.row a_ e br))).an=aD (bY (bI m) st.an) m (.row a_ e br):=by
  rw[gZ (by show m<(lmap _ _).length;rw[bS,List.length_map];exact aT)]
  congr 1
  exact jr st _
 rw[jr] at mm
 have BA:bY (bI m) st.an m = .row fr e xs:=by show (st.an m).map _=_;rw[hm];rfl
 have hZ:∀ {f:Bool} {b:Nat},V.Z f b->V'.Z f b:=by
  intro f b h
  unfold Vl.Z at *
  rw[wg,F7];exact h
 have hZ':∀ {f:Bool} {b:Nat},V'.Z f b->V.Z f b:=by
  intro f b h
  unfold Vl.Z at *
  rw[wg,F7] at h;exact h
 have x:VX V (nu (bY (bI m) st.an) m) w V' (aD (bY (bI m) st.an) m (.row a_ e br)) w':=by
  refine⟨fun n hn=>?_,fun b h=>by rw[wg];exact h,fun b h=>by rw[F7];exact h,fun b h=>?_,fun n hn hh=>?_⟩
  ·have bo:n≠m:=fun e=>by subst e;simp[nu,az.live] at hn
   exact⟨(hV n bo).1,(hV n bo).2,by simp only[aD,nu,if_neg bo]⟩
  ·exact jh b (mm.qu h) (fun hh e=>by subst e;exact (r.mem.own m hl hh).2.2 (Vl.db h))
  ·have bo:n≠m:=fun e=>by subst e;simp[nu,az.live] at hn
   rw[lh bo] at hn
   refine jh _ (mm.own n hn hh).2.1 (fun Um e=>bo (mm.gi n m hn (by rw[BA];rfl) hh Um e))
 have nn:∀ {c:C} {v:Value},C.ok V (bY (bI m) st.an) w c v->c ≠ .own m->(∀ h,c ≠ .pre m h)->(∀ e xs,c ≠ .fP m e xs)->(∀ i o,c ≠ .eR m i o)->c.names m=false:=by
  intro c v h h1 h2 h3 h4
  cases c with
  | own n=>simp only[C.names,beq_eq_false_iff_ne];exact fun e=>h1 (by rw[e])
  | pre n k=>simp only[C.names,beq_eq_false_iff_ne];exact fun e=>h2 k (by rw[e])
  | fP n e' ys=>simp only[C.names,beq_eq_false_iff_ne];exact fun e=>h3 e' ys (by rw[e])
  | eR n i o=>simp only[C.names,beq_eq_false_iff_ne];exact fun e=>h4 i o (by rw[e])
  | box n o =>
    simp only[C.names,beq_eq_false_iff_ne]
    intro e;subst e
    obtain⟨_,_,cs,h5⟩:=h
    rw[BA] at h5;cases h5
  | fn f ea =>
    simp only[C.names,List.any_eq_false,beq_iff_eq]
    intro n hn e;subst e
    obtain⟨_,cs,h5⟩:=h.2 n hn
    rw[BA] at h5;cases h5
  | _=>rfl
 have hk:∀ c,bI m c ≠ .own m/\(∀ h,bI m c ≠ .pre m h)/\(∀ e xs,bI m c ≠ .fP m e xs)/\(∀ i o,bI m c ≠ .eR m i o):=by
  intro c
  cases c<;>simp only[bI]<;>(try split)<;>simp_all
 have tn:pn V st.an w (bI m) V' (aD (bY (bI m) st.an) m (.row a_ e br)) w':=by
  intro c v h
  have h1:=C.yi (DK m) h
  obtain⟨k1,k2,k3,k4⟩:=hk c
  exact C.kt x (C.Sg (nn h1 k1 k2 k3 k4) h1)
 have fy:∀ n,n≠m->(aD (bY (bI m) st.an) m (.row a_ e br) n).live=true->(st.an n).live=true:=by
  intro n hn h
  simp only[aD,if_neg hn] at h
  rw[<-oJ (f:=bI m)];exact h
 refine⟨r1.len,fun i s v hs hv=>?_,?_⟩
 ·rw[ec]
  have bb:(lmap (S.map (bI m)) st.ts)[i]? = some s:=hs
  rw[bS,List.getElem?_map] at bb
  cases hx:st.ts[i]? with
  | none=>rw[hx] at bb;cases bb
  | some y =>
    rw[hx] at bb
    simp only[Option.map_some,Option.some.injEq] at bb
    subst bb
    exact tn.s (r.iZ i y v hx hv)
 ·rw[ec]
  refine⟨fun n=>?_,fun n cs h=>?_,fun n eo hh=>?_,fun n e2 ic h hh=>?_,fun n n' h1 h2 hh nw he=>?_,fun b hb=>by rw[wg] at hb;exact mm.z0 b hb,fun b hb=>?_,iM,fun n eo hh=>?_,fun b hb=>?_,fun n hh i hi=>?_⟩
  ·by_cases hn:n=m
   ·subst hn
    have hv:aD (bY (bI n) st.an) n (.row a_ e br) n = .row a_ e br:=by simp only[aD,if_true]
    rw[hv]
    exact fQ _ hv
   ·have hv:aD (bY (bI m) st.an) m (.row a_ e br) n=(st.an n).map (bI m):=by simp only[aD,if_neg hn];rfl
    have h0:=r.mem.cE n
    have x8:=hV n hn
    rw[hv]
    cases bo:st.an n with
    | dead=>trivial
    | bx cs =>
      rw[bo] at h0
      obtain⟨ak,el,h2,h3⟩:=h0
      have zj:=r.mem.box n cs bo
      refine⟨ak,el,?_,tn.all h3⟩
      rw[x8.1,jh _ (r.mem.own n (by rw[bo];rfl) zj).2.1 (fun Um e=>hn (r.mem.gi n m (by rw[bo];rfl) hl zj Um e))]
      exact h2
    | row nN e2 ic =>
      rw[bo] at h0
      rcases h0 with ⟨h2,v7⟩|⟨h2,ak,el,h3,h4,h5⟩
      ·exact .inl ⟨fun h=>h2 (x8.2.1 h),v7⟩
      ·refine .inr ⟨x8.2.2 h2,ak,el,?_,h4,fun i hi=>?_⟩
       ·rw[x8.1,jh _ (r.mem.own n (by rw[bo];rfl) h2).2.1 (fun Um e=>hn (r.mem.gi n m (by rw[bo];rfl) hl h2 Um e))]
        exact h3
       ·obtain⟨es,q1,q2,q3⟩:=h5 i hi
        exact⟨es,q1,q2,q3.mono (fun b hb=>hZ hb) (fun b hb=>x.TH b (Vl.db hb))⟩
  ·have hn:n≠m:=fun e=>by subst e;simp[aD] at h
   simp only[aD,if_neg hn] at h
   exact (hV n hn).2.2 (mm.box n cs h)
  ·by_cases hn:n=m
   ·subst hn
    obtain⟨k1,k2,k3⟩:=oH hh
    refine⟨k1,k2,fun hz=>?_⟩
    rcases k3 with k3|⟨k3,k4⟩
    ·have:=mm.qu (hZ' hz);omega
    ·exact (r.mem.own n hl k3).2.2 (by rw[<-k4];exact hZ' hz)
   ·have mg:=fy n hn eo
    have L8:=(hV n hn).2.1 hh
    obtain⟨k1,k2,k3⟩:=r.mem.own n mg L8
    rw[(hV n hn).1]
    exact⟨k1,by omega,fun hz=>k3 (hZ' hz)⟩
  ·by_cases hn:n=m
   ·subst hn
    have hv:aD (bY (bI n) st.an) n (.row a_ e br) n = .row a_ e br:=by simp only[aD,if_true]
    rw[hv] at h
    injection h with h1 h2 h3
    exact mh h1 hh
   ·simp only[aD,if_neg hn] at h
    rw[(hV n hn).1]
    exact mm.fY n e2 ic h ((hV n hn).2.1 hh)
  ·by_cases hn:n=m
   ·by_cases gR:n'=m
    ·rw[hn,gR]
    ·subst hn
     exfalso
     have mg:=fy n' gR h2
     have L8:=(hV n' gR).2.1 nw
     rw[(hV n' gR).1] at he
     rcases (oH hh).2.2 with k3|⟨k3,k4⟩
     ·have:=(r.mem.own n' mg L8).2.1;omega
     ·exact gR (r.mem.gi n' n mg hl L8 k3 (by rw[<-he,k4]))
   ·by_cases gR:n'=m
    ·subst gR
     exfalso
     have mg:=fy n hn h1
     have L8:=(hV n hn).2.1 hh
     rw[(hV n hn).1] at he
     rcases (oH nw).2.2 with k3|⟨k3,k4⟩
     ·have:=(r.mem.own n mg L8).2.1;omega
     ·exact hn (r.mem.gi n n' mg hl L8 k3 (by rw[he,k4]))
    ·rw[(hV n hn).1,(hV n' gR).1] at he
     exact r.mem.gi n n' (fy n hn h1) (fy n' gR h2) ((hV n hn).2.1 hh) ((hV n' gR).2.1 nw) he
  ·rw[F7] at hb;have:=mm.z1 b hb;omega
  ·by_cases hn:n=m
   ·subst hn
    simp only[aD,if_true] at eo
    exact RP eo hh
   ·simp only[aD,if_neg hn] at eo
    rw[(hV n hn).1]
    exact mm.jO n eo ((hV n hn).2.1 hh)
  ·obtain⟨q1,q2⟩:=r.mem.oh b hb
   have hn:0≠m:=fun e=>by subst e;rw[hm] at q1;cases q1
   refine⟨?_,by rw[(hV 0 hn).1];exact q2⟩
   simp only[aD,if_neg hn]
   show ((st.an 0).map (bI m)).BJ=true
   rw[vq];exact q1
  ·by_cases hn:n=m
   ·subst hn
    simp only[aD,if_true] at hi
    exact FZ hh i hi
   ·simp only[aD,if_neg hn] at hi
    exact mm.gE n ((hV n hn).2.1 hh) i hi
end
end Go.SX
/- The operations that write, all. No condition. -/
namespace Go.SX
open Go.RowKit
set_option linter.unusedVariables false
set_option linter.unusedSimpArgs false
section
variable {P : Program} {T : cC} {base : Nat} {M : LM} {w0 : World} {V : Vl} {hp : Nat → az} {w : World} {a : Act} {next : Act → World → Prop} {Q : Exit → Act → World → Prop}
theorem JP{o:Oper}{t:TypeId}{s x:Operand}(ho:o.op = .call { callee:=.builtin .append,args := #[s,x],argTypes := #[t,t] }){v':Value}{w':World}
 (hr:(Builtin.append_ #[t,t] o.type #[a.eval s,a.eval x]).run P w = .ok v' w') (h:next (a.put o.dst v') w'):o.wp P a w next Q:=by
 unfold Oper.wp execOp
 simp only[ho,resolve,invoke,builtin,Sem.run_bind,Sem.run_pure,Result.andThen_ok,List.map_toArray,List.map_cons,List.map_nil,hr]
 exact h
theorem kept_refl(w:World):Kept w.heap.size wv w w:=⟨rfl,rfl,rfl,Nat.le_refl _,fun _ _ _=>rfl,fun _ _ _ _ h _=>h.elim⟩
theorem jR(V:Vl)(m g:Nat):(V.move m g).aF m=g:=by simp[Vl.move]
theorem zA(V:Vl)(m g:Nat):(V.move m g).has m:=by simp[Vl.move]
theorem QM{V:Vl}{m g n:Nat}(h:n≠m):(V.move m g).aF n=V.aF n/\((V.move m g).has n↔V.has n):=by simp[Vl.move,h]
theorem zP{lk:Nat->az}{e:Ty}{c:C}{f:Bool}(h:qn lk e c=some f)(hf:e.flat=true):f=true:=by
 unfold qn at h
 split at h
 ·injection h with h;subst h;simp[hf]
 ·split at h
  ·injection h with h;subst h;simp[hf]
  ·cases h
 ·split at h
  ·injection h with h;subst h;simp[hf]
  ·cases h
 ·rw[if_pos hf] at h;injection h with h;exact h.symm
 ·injection h with h;subst h;simp[hf]
 ·injection h with h;exact h.symm
 ·cases h
theorem BL{e:az}{i:Nat}(h:i∈e.gE):e.hD:=Classical.byContradiction fun hn=>by rw[MM hn] at h;cases h
theorem SU(lk:Nat->az)(e:Ty)(c:C):(K7 lk e c).size=e.size:=by
 have one:∀ e':Ty,(if e'.cO=e then e' else e).size=e.size:=fun e'=>by
  split
  ·rename_i h;rw[<-b_ e',h]
  ·rfl
 unfold K7
 split
 ·split
  ·exact one _
  ·rfl
 ·split
  ·exact one _
  ·rfl
 ·exact one _
 ·rfl
theorem Rq(lk:Nat->az)(e:Ty)(s x:C):(KR lk e s x).size=e.size:=by
 unfold KR
 split<;>exact SU _ _ _
theorem Fo (hT : cv P T) {st : St} (r : Rel base M w0 V st a.tmps w) {o : Oper} {t te : TypeId} {es eb sz gJ : Nat} {e e0 : Ty} (BD : e.size = e0.size) {z0 : List Value} {ty : Option Ty} {sO : Option (List Bool)} {s x : Operand}
    (ho : o.op = .call { callee := .builtin .append, args := #[s, x], argTypes := #[t, t] }) (ht : T t = some { k := .sl te es eb e0, size := sz, bytes := gJ, zero := z0, ty := ty, eq := sO }) (lp : eb ≠ 0)
    {m n : Nat} {fr f : Bool} {xs ys : List e.den} (hm : st.an m = .row fr e xs) (hn : n ≤ xs.length) (hs : du V w m e n (a.eval s)) {c : C} (hc : C.ok V st.an w c (a.eval x)) (BG : rB st.an e c = some ys) (hf : qn st.an e c = some f)
    (ep : (n + ys.length) * eb ≤ 140737488355328) (Bz : (e.flat || e.bQ) = true → (fr && f) = true)
    (mB : ∀ v w' V', Rel base M w0 V' { (st.map (bI m)) with hp := bP (st.map (bI m)).hp m (.row (fr && f) e (xs.take n ++ ys)) } a.tmps w' →
      S.ok V' (St.mk (st.map (bI m)).ts (bP (st.map (bI m)).hp m (.row (fr && f) e (xs.take n ++ ys)))).an w' (.c (.own m)) v → next (a.put o.dst v) w') : o.wp P a w next Q := by
  obtain ⟨g1, g2, i, z, g3, g4, g5, g6, g7⟩ := rE (hJ (hT t _ ht)).2.2
  obtain ⟨aa, cap, hx, hlen, lq⟩ := N3 r.mem.cE BG hf hc
  obtain ⟨news, n1, n2, n3, n4⟩ := FI lq
  have iP : z.cells.size = i.size := by rw [g4, g7]; simpa using eE e0
  rw [← BD] at g4
  have ch := r.mem.cE m
  rw [hm] at ch
  have hl : (st.an m).live = true := by rw [hm]; rfl
  have aT : m < st.hp.length := iJ hl
  have ec : (St.mk (st.map (bI m)).ts (bP (st.map (bI m)).hp m (.row (fr && f) e (xs.take n ++ ys)))).an m = .row (fr && f) e (xs.take n ++ ys) := by
    rw [gZ (by show m < (lmap _ _).length; rw [bS, List.length_map]; exact aT)]
    simp only [aD, if_true]
  have nc : (xs.take n).length = n := by rw [List.length_take]; omega
  have iN : n + ys.length ≤ 140737488355328 := by
    have h1 : 1 ≤ eb := Nat.pos_of_ne_zero lp
    have h2 : (n + ys.length) * 1 ≤ (n + ys.length) * eb := Nat.mul_le_mul_left _ h1
    omega
  -- the row that was
  obtain ⟨ak, g, Lo, el, hv, hva⟩ : ∃ (ak : Array Value) (g Lo : Nat) (el : TypeId), ((a.eval s = .slice none 0 0 ∧ n = 0 ∧ ak = #[]) ∨ (a.eval s = .slice (some ⟨g, 0, none⟩) n Lo ∧ w.heap[g]? = some (.cells ak el (0, 0)) ∧ ak.size = Lo * i.size ∧ n ≤ Lo)) ∧
      ((¬ V.has m ∧ xs = []) ∨ (V.has m ∧ g = V.aF m ∧ w.heap[V.aF m]? = some (.cells ak el (0, 0)) ∧ gl (V.Z fr) w e ak xs ∧ xs.length * e.size ≤ ak.size ∨ False)) := by
    rcases ch with ⟨k1, k2⟩ | ⟨k1, ak, el, k2, k3, k4⟩
    · rcases hs with ⟨h1, h2, h3⟩ | ⟨h1, _⟩
      · exact ⟨#[], 0, 0, 0, .inl ⟨h2, h3, rfl⟩, .inl ⟨k1, k2⟩⟩
      · exact absurd h1 k1
    · rcases hs with ⟨h1, _⟩ | ⟨h1, j9, ba, dC, h2, h3, h4, h5⟩
      · exact absurd k1 h1
      · rw [k2] at h3
        injection h3 with h3
        injection h3 with q1 q2 q3
        subst q1
        refine ⟨ak, V.aF m, j9, el, .inr ⟨h2, k2, by rw [g4]; exact h4, h5⟩, .inr (.inl ⟨k1, rfl, k2, k4, ?_⟩)⟩
        rcases Nat.eq_zero_or_pos xs.length with h0 | h0
        · rw [h0]; simp
        · obtain ⟨jc, p1, p2, _⟩ := k4 (xs.length - 1) (by omega)
          have hp := e.size_pos
          have := p2 (e.size - 1) (jc[e.size - 1]'(by omega)) (List.getElem?_eq_getElem _)
          have h6 := (Array.getElem?_eq_some_iff.1 this).1
          have h7 : xs.length * e.size = (xs.length - 1) * e.size + e.size := by
            conv => lhs; rw [show xs.length = xs.length - 1 + 1 by omega, Nat.add_mul, Nat.one_mul]
          omega
  obtain ⟨v', w', eT, WM, hX, hzero⟩ := rD (ty := o.type) (z := z) g1 g3 g6 iP (by rw [g4]; exact e.size_pos) (h := n) (cap := Lo) (g := g) (ak := ak) (el := el) hv (aa := aa) (m := ys.length) (c := cap) (news := news) (by rw [g4]; exact n1) n2 n3 (by unfold cY at hlen; omega) (by rw [g5]; exact ep)
  rw [← hx] at eT
  refine JP ho eT ?_
  by_cases Hw : ys.length = 0
  · obtain ⟨rfl, rfl⟩ := hzero Hw
    have W5 : ys = [] := List.length_eq_zero_iff.1 Hw
    have Yg : xs.take n ++ ys = xs.take n := by rw [W5, List.append_nil]
    refine mB _ _ V ?_ ⟨fr && f, e, _, ec, by rw [Yg, nc]; exact hs⟩
    refine rC r hm r.mem.kept (Nat.le_refl _) (fun _ _ _ => rfl) (fun _ _ => ⟨rfl, Iff.rfl⟩) rfl rfl (fun aJ _ => ?_) (fun hh => ?_) (fun h1 hh => ?_) (fun aT hh => ?_) (fun hh q hq => ?_)
    · rw [Yg]
      rcases ch with ⟨k1, k2⟩ | ⟨k1, dH, jb, k2, k3, k4⟩
      · exact .inl ⟨k1, by rw [k2]; simp⟩
      · refine .inr ⟨k1, dH, jb, k2, by rw [nc]; omega, fun j hj => ?_⟩
        rw [nc] at hj
        obtain ⟨jc, p1, p2, p3⟩ := k4 j (by omega)
        refine ⟨jc, p1, p2, ?_⟩
        rw [List.getElem_take]
        exact p3.mono (fun b hb => kO (fun h => by simp at h; exact h.1) hb) (fun _ _ => rfl)
    · obtain ⟨q1, q2, _⟩ := r.mem.own m hl hh
      exact ⟨q1, q2, .inr ⟨hh, rfl⟩⟩
    · exact r.mem.fY m e xs (by simp at h1; rw [hm, h1.1]) hh
    · exfalso
      have eD := gU aT
      rw [Bz eD] at aT
      exact aT
    · exfalso
      have aT := BL hq
      have eD := gU aT
      rw [Bz eD] at aT
      exact aT
  · obtain ⟨g', j9, cr⟩ := hX (by omega)
    subst cr
    cases WM with
    | same h1 h2 =>
      exfalso
      rcases hv with ⟨h3, _, _⟩ | ⟨h3, _⟩
      · rw [h3] at h1; cases h1
      · rw [h3] at h1; injection h1 with _ h4 _; omega
    | row g2' Wq dH jb h1 h2 h3 h4 h5 h6 h7 h8 =>
      injection h1 with Bq h1b xW
      injection Bq with Bq
      injection Bq with Bq
      subst Bq; subst xW
      -- in place or moved
      have km : (V.has m ∧ g' = V.aF m ∧ w'.heap.size = w.heap.size) ∨ (g' = w.heap.size ∧ w'.heap.size = w.heap.size + 1) := by
        rcases h6 with ⟨l0, e1, e2, e3⟩ | h6
        · left
          rcases hv with ⟨h9, _, _⟩ | ⟨h9, _⟩
          · rw [h9] at e1; cases e1
          · rw [h9] at e1
            injection e1 with e1 _ _
            injection e1 with e1
            injection e1 with e1
            rcases hva with ⟨q1, q2⟩ | (⟨q1, q2, _⟩ | hF)
            · rcases hs with ⟨_, q3, _⟩ | ⟨q3, _⟩
              · rw [h9] at q3; cases q3
              · exact absurd q3 q1
            · exact ⟨q1, by rw [← e1, q2], e3⟩
            · exact hF.elim
        · exact .inr h6
      have L6 : g' < w'.heap.size := (Array.getElem?_eq_some_iff.1 h2).1
      have cD : w.heap.size ≤ w'.heap.size := by rcases km with ⟨_, _, h⟩ | ⟨_, h⟩ <;> omega
      have jh : ∀ b, b < w.heap.size → (V.has m → b ≠ V.aF m) → w'.heap[b]? = w.heap[b]? := by
        intro b hb bo
        refine h7 b (fun e => ?_) hb
        rcases km with ⟨q1, q2, _⟩ | ⟨q1, _⟩
        · exact bo q1 (by rw [e, q2])
        · omega
      have F1 : base ≤ g' ∨ M g' := by
        rcases km with ⟨q1, q2, _⟩ | ⟨q1, _⟩
        · rw [q2]; exact (r.mem.own m hl q1).1
        · left; have := r.mem.kept.size; omega
      have RN : Kept base M w0 w' := by
        refine ⟨h8.1.trans r.mem.kept.os, h8.2.1.trans r.mem.kept.tape, h8.2.2.trans r.mem.kept.output, Nat.le_trans r.mem.kept.size cD, fun b hb hM => ?_, fun b ue Fz hb hM Jk => ?_⟩
        · rw [h7 b (fun e => by subst e; rcases F1 with h | h; omega; exact hM h) (by have := r.mem.kept.size; omega)]
          exact r.mem.kept.block b hb hM
        · by_cases Bs : b = g'
          · subst Bs
            obtain ⟨C8, pA, j1, j2⟩ := r.mem.kept.shape b ue Fz hb hM Jk
            rcases h6 with ⟨l0, e1, _, _⟩ | ⟨h6, _⟩
            · rcases hv with ⟨h9, _, _⟩ | ⟨h9, k9, k10, _⟩
              · rw [h9] at e1; cases e1
              · rw [h9] at e1
                injection e1 with e1 _ e2
                injection e1 with e1
                injection e1 with e1
                subst e1; subst e2
                rw [k9] at j1
                injection j1 with j1
                injection j1 with j1 _ _
                subst j1
                exact ⟨dH, jb, h2, by rw [h3, ← k10]; exact j2⟩
            · exfalso; have := r.mem.kept.size; omega
          · obtain ⟨C8, pA, j1, j2⟩ := r.mem.kept.shape b ue Fz hb hM Jk
            exact ⟨C8, pA, by rw [h7 b Bs (by have := r.mem.kept.size; omega)]; exact j1, j2⟩
      have Ja : ∀ {f : Bool} {b : Nat}, V.Z f b → w'.heap[b]? = w.heap[b]? := by
        intro f b hb
        exact jh b (r.mem.qu hb) (fun hh e => by subst e; exact (r.mem.own m hl hh).2.2 (Vl.db hb))
      have Mk : gl ((V.move m g').Z (fr && f)) w' e dH (xs.take n ++ ys) := by
        have XY : gl (V.Z fr) w e ak (xs.take n) ∧ (xs.take n).length * e.size ≤ ak.size := by
          rcases hva with ⟨q1, q2⟩ | (⟨q1, q2, q3, q4, q5⟩ | hF)
          · refine ⟨fun j hj => ?_, ?_⟩
            · rw [q2] at hj; simp at hj
            · rw [q2]; simp
          · refine ⟨fun j hj => ?_, ?_⟩
            · rw [nc] at hj
              obtain ⟨jc, p1, p2, p3⟩ := q4 j (by omega)
              exact ⟨jc, p1, p2, by rw [List.getElem_take]; exact p3⟩
            · rw [nc]
              have : n * e.size ≤ xs.length * e.size := Nat.mul_le_mul_right _ hn
              omega
          · exact hF.elim
        refine Cj XY.1 n1 n4 (by rw [nc, ← g4]; exact h5) XY.2 (fun iO => ?_) (fun iO => ?_)
        · exact iO.mono (fun b hb => kO (fun h => by simp at h; exact h.1) hb) (fun b hb => Ja hb)
        · exact iO.mono (fun b hb => kO (fun h => by simp at h; exact h.2) hb) (fun b hb => Ja hb)
      have Ub : (xs.take n ++ ys).length = n + ys.length := by rw [List.length_append, nc]
      refine mB _ _ (V.move m g') ?_ ⟨fr && f, e, _, ec, .inr ⟨zA V m g', j9, dH, jb, by rw [jR, Ub], by rw [jR]; exact h2, by rw [← g4]; exact h3, by rw [Ub]; exact h4⟩⟩
      refine rC r hm RN cD jh (fun n hn => QM hn) rfl rfl (fun aJ _ => ?_) (fun _ => ?_) (fun h9 _ => ?_) (fun aT _ => ?_) (fun _ q hq => ?_)
      · exact .inr ⟨zA V m g', dH, jb, by rw [jR]; exact h2, by rw [Ub]; unfold cY; omega, Mk⟩
      · rw [jR]
        refine ⟨F1, L6, ?_⟩
        rcases km with ⟨q1, q2, _⟩ | ⟨q1, _⟩
        · exact .inr ⟨q1, q2⟩
        · exact .inl (by omega)
      · rw [jR]
        rcases km with ⟨q1, q2, _⟩ | ⟨q1, _⟩
        · rw [q2]; exact r.mem.fY m e xs (by simp at h9; rw [hm, h9.1]) q1
        · have := r.mem.kept.size; omega
      · exfalso
        have eD := gU aT
        rw [Bz eD] at aT
        exact aT
      · exfalso
        have aT := BL hq
        have eD := gU aT
        rw [Bz eD] at aT
        exact aT
theorem LS(m:Mem base M w0 V hp w){w':World}(k:Kept w.heap.size wv w w'){nx:Nat}(hd:hp nx = .dead)(b:Option Nat)(hb:∀ g,b=some g->w.heap.size<=g/\g<w'.heap.size)(e:az)(mz:∀ cs,e = .bx cs->b.isSome=true)(res:S)(v:Value)(qz:¬e.hD)
 (he:∀ V' aJ,VX V hp w V' aJ w'->(V'.has nx↔b.isSome=true)->(∀ g,b=some g->V'.aF nx=g)->aJ nx=e->e.ok V' aJ w' nx/\S.ok V' aJ w' res v) :
 ∃ V',Good base M w0 V hp w nx res [e] none v w' V':=by
 have dR:∀ j,j<[e].length->hp (nx+j) = .dead:=fun j hj=>by
  have:j=0:=by simp at hj;omega
  subst this;exact hd
 have x:=VX.uu m k (nx:=nx) (es:=[e]) (bs:=[b]) (Z:=fun _=>False) rfl dR
 have h1:(V.ext nx [b] (fun _=>False)).has nx↔b.isSome=true:=Vl.lD (V:=V) (nx:=nx) (bs:=[b]) (Z:=fun _=>False) (j:=0) (b:=b) rfl
 have h2:∀ g,b=some g->(V.ext nx [b] (fun _=>False)).aF nx=g:=fun g hg=>Vl.nG (nx:=nx) (j:=0) (by simp[hg])
 have h3:ey hp nx [e] nx=e:=sx (nx:=nx) (j:=0) rfl
 obtain⟨g1,g2⟩:=he _ _ x h1 h2 h3
 refine⟨_,⟨m.grow k rfl dR (by cases b<;>simp) (fun g hg=>?_) (fun b hb=>hb.elim) (fun j cs hj=>?_) (fun j e' hj=>?_) (fun e' fG=>by rw[List.mem_singleton.1 fG];exact qz),x,g2,fun p h=>by cases h⟩⟩
 ·simp only[List.mem_singleton] at hg
  obtain⟨k1,k2⟩:=hb g hg.symm
  exact⟨k1,k2,fun h=>h⟩
 ·have:j=0:=by have:=(List.getElem?_eq_some_iff.1 hj).1;simp at this;omega
  subst this
  simp only[List.getElem?_cons_zero,Option.some.injEq] at hj
  obtain⟨g,hg⟩:=Option.isSome_iff_exists.1 (mz cs hj)
  exact⟨g,by simp[hg]⟩
 ·have:j=0:=by have:=(List.getElem?_eq_some_iff.1 hj).1;simp at this;omega
  subst this
  simp only[List.getElem?_cons_zero,Option.some.injEq] at hj;subst hj
  exact g1
theorem append_nil(hT:cv P T){st:St}(r:Rel base M w0 V st a.tmps w){o:Oper}{t te:TypeId}{es eb sz gJ:Nat}{e e0:Ty}(BD:e.size=e0.size){z0:List Value}{ty:Option Ty}{sO:Option (List Bool)}{s x:Operand}
 (ho:o.op = .call { callee:=.builtin .append,args := #[s,x],argTypes := #[t,t] }) (ht:T t=some { k:=.sl te es eb e0,size:=sz,bytes:=gJ,zero:=z0,ty:=ty,eq:=sO }) (lp:eb≠0)
 {f:Bool} {ys:List e.den} (hs:a.eval s = .slice none 0 0) {c:C} (hc:C.ok V st.an w c (a.eval x)) (BG:rB st.an e c=some ys) (hf:qn st.an e c=some f)
 (ep:ys.length*eb<=140737488355328) (hgf:e.bQ=true->f=true)
 (mB:∀ v w' V',Rel base M w0 V' (st.alloc [.row f e ys]) a.tmps w'->S.ok V' (st.alloc [.row f e ys]).an w' (.c (.own (bL st.hp))) v->next (a.put o.dst v) w'):o.wp P a w next Q:=by
 obtain⟨g1,g2,i,z,g3,g4,g5,g6,g7⟩:=rE (hJ (hT t _ ht)).2.2
 obtain⟨aa,cap,hx,hlen,lq⟩:=N3 r.mem.cE BG hf hc
 obtain⟨news,n1,n2,n3,n4⟩:=FI lq
 have iP:z.cells.size=i.size:=by rw[g4,g7];simpa using eE e0
 rw[<-BD] at g4
 have Bz:(e.flat||e.bQ)=true->f=true:=fun h=>by
  cases sw:e.flat with
  | true=>exact zP hf sw
  | false=>rw[sw,Bool.false_or] at h;exact hgf h
 obtain⟨v',w',eT,WM,hX,hzero⟩:=rD (ty:=o.type) (z:=z) g1 g3 g6 iP (by rw[g4];exact e.size_pos) (h:=0) (cap:=0) (g:=0) (ak := #[]) (el:=0) (.inl ⟨hs,rfl,rfl⟩) (aa:=aa) (m:=ys.length) (c:=cap) (news:=news) (by rw[g4];exact n1) n2 n3 (by unfold cY at hlen;omega) (by rw[g5,Nat.zero_add];exact ep)
 rw[<-hx] at eT
 refine JP ho eT ?_
 have hd:st.an (bL st.hp) = .dead:=yP st 0
 by_cases Hw:ys.length=0
 ·obtain⟨rfl,rfl⟩:=hzero Hw
  have W5:ys=[]:=List.length_eq_zero_iff.1 Hw
  obtain⟨V',hg⟩:=LS r.mem (kept_refl w') hd none (fun g hg=>by cases hg) (.row f e ys) (fun cs h=>by cases h) (.c (.own (bL st.hp))) (a.eval s) (fun aT=>by rw[Bz (gU aT)] at aT;exact aT)
   (fun V' aJ _ k1 _ k3=>by
     have hnh:¬V'.has (bL st.hp):=fun h=>by have:=k1.1 h;cases this
     exact⟨.inl ⟨hnh,W5⟩,f,e,ys,k3,.inl ⟨hnh,hs,Hw⟩⟩)
  obtain⟨q1,q2⟩:=vD r hg
  exact mB _ _ V' q1 q2
 ·obtain⟨g',j9,cr⟩:=hX (by omega)
  subst cr
  cases WM with
  | same h1 h2=>rw[hs] at h1;cases h1
  | row g2' Wq dH jb h1 h2 h3 h4 h5 h6 h7 h8 =>
    injection h1 with Bq h1b xW
    injection Bq with Bq
    injection Bq with Bq
    subst Bq;subst xW
    have km:g'=w.heap.size/\w'.heap.size=w.heap.size+1:=by
     rcases h6 with ⟨l0,e1,_,_⟩|h6
     ·rw[hs] at e1;cases e1
     ·exact h6
    have hk:Kept w.heap.size wv w w':=⟨h8.1,h8.2.1,h8.2.2,by omega,fun b hb _=>h7 b (by omega) hb,fun _ _ _ _ h _=>h.elim⟩
    have iN:ys.length<=140737488355328:=by
     have h1:1<=eb:=Nat.pos_of_ne_zero lp
     have h2:ys.length*1<=ys.length*eb:=Nat.mul_le_mul_left _ h1
     omega
    obtain⟨V',hg⟩:=LS r.mem hk hd (some g') (fun g hg=>by injection hg with hg;subst hg;omega) (.row f e ys) (fun cs h=>by cases h) (.c (.own (bL st.hp))) (.slice (some ⟨g',0,none⟩) (0+ys.length) j9) (fun aT=>by rw[Bz (gU aT)] at aT;exact aT)
     (fun V' aJ x k1 k2 k3=>by
       have hh:V'.has (bL st.hp):=k1.2 rfl
       have hb:=k2 g' rfl
       refine⟨.inr ⟨hh,dH,jb,by rw[hb];exact h2,by unfold cY;omega,?_⟩,f,e,ys,k3,.inr ⟨hh,j9,dH,jb,by rw[hb,Nat.zero_add],by rw[hb];exact h2,by rw[<-g4];exact h3,by rw[Nat.zero_add] at h4;exact h4⟩⟩
       have:=Cj (Z:=V.Z f) (Z':=V.Z f) (Z2:=V'.Z f) (w:=w) (w':=w') (e:=e) (ak := #[]) (ba:=dH) (xs:=[]) (ys:=ys) (news:=news) (fun j hj=>by simp at hj) n1 n4 (by simpa[g4] using h5) (by simp) (fun iO=>x.rd iO) (fun iO=>x.rd iO)
       rw[List.nil_append] at this
       exact this)
    obtain⟨q1,q2⟩:=vD r hg
    exact mB _ _ V' q1 q2
theorem T0(hT:cv P T){st:St}(r:Rel base M w0 V st a.tmps w){o:Oper}{er:ER}(h:X8 T st o.op=some er)(ep:∀ p,er.ob=some p->p)
 (mB:∀ v w' V',Rel base M w0 V' er.st a.tmps w'->S.ok V' er.st.an w' er.res v->next (a.put o.dst v) w'):o.wp P a w next Q:=by
 unfold X8 at h
 split at h
 ·rename_i t p x ho
  cases he:FF T st t p x with
  | some r0 =>
    rw[he] at h
    injection h with h;subst h
    exact (T2 hT r ho he).2 (fun w' V' h1 h2=>mB _ w' V' h1 h2)
  | none =>
    rw[he] at h
    exact RC hT r ho h ep (fun w' V' h1 h2=>mB _ w' V' h1 h2)
 ·rename_i t n parts ho
  unfold Dz at h
  simp only at h
  generalize hns:BV st parts.toList=ns at h
  obtain⟨V1,r1⟩:=r.kh ns
  generalize aeO:st.kh ns=dy at *
  rw[bS] at h
  cases hq:lL T dy.an (bL dy.hp) t n (parts.toList.map fun p=>(p.1,dy.eval p.2)) with
  | none=>rw[hq] at h;cases h
  | some qr =>
    rw[hq] at h
    injection h with h;subst h
    have o7:=r9 (V:=V1) (hp:=dy.an) (w:=w) (f:=dy.eval) (g:=a.eval) r1.eval parts.toList
    obtain⟨v,w',V',h1,h2⟩:=wB (qs:=parts.map fun (i,x)=>(i,a.eval x)) hT r1.mem (yP dy 0) hq (by simpa using o7)
    obtain⟨q1,q2⟩:=vD r1 h2
    refine dZ (v:=v) (w':=w') ?_ (mB v w' V' q1 q2)
    simp only[ho,execOp,Sem.run_bind,h1,Result.andThen_ok,Sem.run_pure]
 ·rename_i c0 ho
  split at h
  case isFalse=>cases h
  case isTrue hb =>
  unfold LD at h
  split at h
  case h_2=>cases h
  case h_1 s x t t' hargs hats =>
  split at h
  ·rename_i htt
   subst htt
   replace ho:o.op = .call { callee:=.builtin .append,args := #[s,x],argTypes := #[t,t] }:=by
    rw[ho]
    rcases c0 with ⟨cl,⟨as⟩,⟨XX⟩⟩
    simp only at hb hargs hats
    subst hargs;subst hats
    unfold ME at hb
    split at hb
    ·rfl
    ·cases hb
   unfold Qq at h
   split at h
   ·rename_i te es eb e0 sz gJ z0 ty sO sc xc ht hs hx
    have cD:=Rq st.an e0 sc xc
    generalize KR st.an e0 sc xc=e at h cD
    unfold IY at h
    split at h
    ·cases h
    ·rename_i lp
     have Yx:=r.eval s
     rw[hs] at Yx
     have Mr:=r.eval x
     rw[hx] at Mr
     split at h
     ·rename_i ys f BG hf
      split at h
      ·rename_i m
       split at h
       ·rename_i fr e' xs hm
        split at h
        ·rename_i he
         subst he
         split at h
         ·cases h
         rename_i Ep
         have Bz:(e'.flat||e'.bQ)=true->(fr&&f)=true:=fun h=>by
          cases sw:e'.flat with
          | true =>
            rw[zP hf sw,Bool.and_true]
            rw[sw] at Ep
            cases fr<;>simp_all
          | false =>
            rw[sw,Bool.false_or] at h
            rw[sw,h] at Ep
            simpa using Ep
         split at h
         ·cases h
         ·injection h with h;subst h
          obtain⟨nN,e2,ic,q1,q2⟩:=Yx
          rw[hm] at q1
          injection q1 with q3 q4 q5
          subst q3;subst q4;cases q5
          refine Fo hT r cD ho ht lp hm (Nat.le_refl _) q2 Mr BG hf (ep _ rfl) Bz (fun v w' V' h1 h2=>mB v w' V' ?_ ?_)
          ·rw[List.take_length] at h1;exact h1
          ·rw[List.take_length] at h2;exact h2
        ·cases h
       ·cases h
      ·rename_i m n
       split at h
       ·rename_i fr e' xs hm
        split at h
        ·rename_i he
         subst he
         split at h
         ·cases h
         rename_i Ep
         have Bz:(e'.flat||e'.bQ)=true->(fr&&f)=true:=fun h=>by
          cases sw:e'.flat with
          | true =>
            rw[zP hf sw,Bool.and_true]
            rw[sw] at Ep
            cases fr<;>simp_all
          | false =>
            rw[sw,Bool.false_or] at h
            rw[sw,h] at Ep
            simpa using Ep
         split at h
         ·cases h
         ·injection h with h;subst h
          obtain⟨nN,e2,ic,q1,q6,q2⟩:=Yx
          rw[hm] at q1
          injection q1 with q3 q4 q5
          subst q3;subst q4;cases q5
          exact Fo hT r cD ho ht lp hm q6 q2 Mr BG hf (ep _ rfl) Bz (fun v w' V' h1 h2=>mB v w' V' h1 h2)
        ·cases h
       ·cases h
      ·split at h
       ·cases h
       rename_i abb
       injection h with h;subst h
       exact append_nil hT r cD ho ht lp Yx.1 Mr BG hf (ep _ rfl) (fun h=>by rw[h] at abb;simpa using abb) (fun v w' V' h1 h2=>mB v w' V' h1 h2)
      ·cases h
     ·cases h
   ·cases h
  ·cases h
 ·cases h
end
end Go.SX
/- Operations in the order of the text. No condition. -/
namespace Go.SX
open Go.RowKit
set_option linter.unusedVariables false
set_option linter.unusedSimpArgs false
def fS(P:Program)(f:FuncId)(r:cL):Prop :=
 ∀(base:Nat) (M:LM) (w0:World) (V:Vl) (st:St) (ts:Array Value) (w:World) (ss:List S) (vs:List Value) (K:S->St->Prop),
  Rel base M w0 V st ts w->ss.length=vs.length->(∀(i:Nat) s v,ss[i]? = some s->vs[i]? = some v->S.ok V st.an w s v)->r ss st K →
  Calls P f vs.toArray w fun e w'=>∃ v,e = .returned v/\∃ V' s aV,K s aV/\Rel base M w0 V' aV ts w'/\S.ok V' aV.an w' s v
def cV(P:Program)(R:FuncId->Option cL):Prop:=∀ f r,R f=some r->f≠Cr->fS P f r/\h_ P f
def Sat(base:Nat)(M:LM)(w0:World)(st:St)(a:Act)(w:World):Prop:=a.defers=[]/\∃ V,Rel base M w0 V st a.tmps w
section
variable {P : Program} {T : cC} {Γ : FuncId → Option PC} {R : FuncId → Option cL} {base : Nat} {M : LM} {w0 : World} {V : Vl} {w : World} {a : Act} {next : Act → World → Prop} {Q : Exit → Act → World → Prop}
theorem put_defers(a:Act)(d:Option Nat)(v:Value):(a.put d v).defers=a.defers:=by cases d<;>rfl
theorem vM{p:Option Prop}{q:Prop}(h:Hf p q):(∀ x,p=some x->x)/\q:=by
 cases p with
 | none=>exact⟨fun _ h=>(nomatch h),h⟩
 | some p=>exact⟨fun x hx=>by injection hx with hx;subst hx;exact (show p/\q from h).1,(show p/\q from h).2⟩
theorem Jo{p:Option Prop}{q:Prop}(h:R5 p q)(hp:∀ x,p=some x->x):q:=by
 cases p with
 | none=>exact h
 | some p=>exact h (hp p rfl)
theorem IS{st:St}{o:Op}{f:FuncId}{args:List S}(h:xM st o=some (f,args)):∃ c x,o = .call c/\c.callee = .value x/\st.eval x = .c (.fn f [])/\args=c.args.toList.map st.eval:=by
 unfold xM at h
 split at h
 ·rename_i c
  split at h
  ·rename_i x hx
   split at h
   ·rename_i g hg
    injection h with h
    injection h with h1 h2
    subst h1;subst h2
    exact⟨c,x,rfl,hx,hg,bS _ _⟩
   ·cases h
  ·cases h
 ·cases h
theorem iA{p q:Option Prop}(h1:cU p)(h2:cU q):cU (fj p q):=by
 cases p with
 | none=>exact h2
 | some p =>
   cases q with
   | none=>exact h1
   | some q=>exact⟨h1,h2⟩
theorem ya{Z:Nat->Prop}{e:Ty}{xs:List e.den}{w:World}(h:∀ i (hi:i<xs.length),∃ es,aI Z w e es xs[i]):∀ i∈aX e xs,Z i:=by
 intro i hi
 unfold aX at hi
 rw[List.mem_flatMap] at hi
 obtain⟨x,hx,Qz⟩:=hi
 obtain⟨j,hj,rfl⟩:=List.getElem_of_mem hx
 obtain⟨es,h1⟩:=h j hj
 exact aI.jz e h1 i Qz
theorem C.M5{hp:Nat->az}{c:C}{v:Value}{b:Nat}(h:C.ok V hp w c v)(hb:¬V.Z false b):cU (c.M4 b):=by
 unfold C.M4
 split
 ·rename_i fr wh e b' xs
  intro hi
  have h':aI (V.Z fr) w (.gs wh e) [v] (b',xs):=h
  exact hb (Vl.db (aI.jz _ h' _ hi))
 ·rename_i fr e xs
  split
  ·intro hi
   have h':aI (V.Z fr) w (.sl e) [v] xs:=h
   obtain⟨a,cap,_,_,_,h4⟩:=h'
   exact hb (Vl.db (ya (Z:=V.Z fr) (w:=w) (fun i hi=>by obtain⟨ad,_,_,_,es,_,_,h6⟩:=h4 i hi;exact⟨es,h6⟩) _ hi))
  ·trivial
 ·rename_i fr t d off
  split
  ·intro hi
   obtain⟨b2,o,_,_,es,_,_,h5⟩:=h
   exact hb (Vl.db (aI.jz t h5 _ hi))
  ·trivial
 ·trivial
theorem Lq{hp:Nat->az}{b:Nat}(hb:¬V.Z false b):∀ {cs:List C} {vs:List Value},bO V hp w cs vs->cU (Ry b cs)
 | [],_,_=>trivial
 | c::r,vs,h=>by
   obtain⟨v,cI,rfl,h1,h2⟩:=df h
   exact iA (C.M5 h1 hb) (Lq hb h2)
theorem az.M5{hp:Nat->az}{e:az}{n b:Nat}(h:e.ok V hp w n)(hb:¬V.Z false b):cU (e.M4 b):=by
 cases e with
 | dead=>trivial
 | bx cs=>obtain⟨ak,el,_,h2⟩:=h;exact Lq hb h2
 | row fr e xs =>
   unfold az.M4
   simp only
   split
   ·intro hi
    rcases h with ⟨_,h2⟩|⟨_,ak,el,_,_,h4⟩
    ·rw[h2] at hi;cases hi
    ·exact hb (Vl.db (ya (Z:=V.Z fr) (w:=w) (fun i hi=>by obtain⟨es,_,_,h6⟩:=h4 i hi;exact⟨es,h6⟩) _ hi))
   ·trivial
theorem Mj{st:St}{ts:Array Value}(r:Rel base M w0 V st ts w){b:Nat}(hb:¬V.Z false b):cU (KX b st.hp):=by
 have key:∀(l:List az),(∀ e∈l,∃ n,e.ok V st.an w n)->cU (KX b l):=by
  intro l
  induction l with
  | nil=>intro _;trivial
  | cons e l ih =>
    intro h
    obtain⟨n,hn⟩:=h e (List.mem_cons_self ..)
    exact iA (az.M5 hn hb) (ih (fun e' fG=>h e' (List.mem_cons_of_mem _ fG)))
 refine key st.hp (fun e he=>?_)
 obtain⟨n,hn,rfl⟩:=List.getElem_of_mem he
 refine⟨n,?_⟩
 have:=r.mem.cE n
 have e1:st.an n=st.hp[n]:=by
  show nth .dead st.hp n=_
  rw[cT,List.getElem?_eq_getElem hn];rfl
 rw[e1] at this
 exact this
theorem EF{b:Nat}:∀ {acc:List Nat},(∀ a∈acc,b≠a)->cU (K2 b acc)
 | [],_=>trivial
 | a::r,h=>iA (p:=some _) (h a (List.mem_cons_self ..)) (EF (fun c hc=>h c (List.mem_cons_of_mem _ hc)))
theorem SW{base m b:Nat}{hp:Nat->az}{fr:Bool}{e:Ty}{xs:List e.den}(hm:hp m = .row fr e xs)(fQ:(az.row fr e xs).ok V hp w m)(mh:fr=true->V.has m->base<=V.aF m)(hb:V.has m->b=V.aF m) :
 pn V hp w (qp m b fr e xs) (V.freeze m base) (aD (bY (qp m b fr e xs) hp) m .dead) w:=by
 have tn:=u9 (base:=base) hm fQ mh
 have ch:∀ {n a_ e'} {br:List e'.den},aD (bY (dW m fr e xs) hp) m .dead n = .row a_ e' br->aD (bY (qp m b fr e xs) hp) m .dead n = .row a_ e' br:=by
  intro n a_ e' br h
  by_cases hn:n=m
  ·simp only[aD,if_pos hn] at h;cases h
  ·simp only[aD,if_neg hn] at h ⊢
   unfold bY at h ⊢
   cases hq:hp n with
   | row a1 a2 a3=>rw[hq] at h;exact h
   | bx cs=>rw[hq] at h;cases h
   | dead=>rw[hq] at h;cases h
 have mz:∀ {n cs},aD (bY (dW m fr e xs) hp) m .dead n = .bx cs->∃ dm,aD (bY (qp m b fr e xs) hp) m .dead n = .bx dm:=by
  intro n cs h
  by_cases hn:n=m
  ·simp only[aD,if_pos hn] at h;cases h
  ·simp only[aD,if_neg hn] at h ⊢
   unfold bY at h ⊢
   cases hq:hp n with
   | row a1 a2 a3=>rw[hq] at h;cases h
   | bx cs=>exact⟨_,rfl⟩
   | dead=>rw[hq] at h;cases h
 have move:∀ {c v},C.ok (V.freeze m base) (aD (bY (dW m fr e xs) hp) m .dead) w c v->C.ok (V.freeze m base) (aD (bY (qp m b fr e xs) hp) m .dead) w c v:=by
  intro c v h
  cases c with
  | own n=>obtain⟨f1,e1,x1,h1,h2⟩:=h;exact⟨f1,e1,x1,ch h1,h2⟩
  | pre n k=>obtain⟨f1,e1,x1,h1,h3,h2⟩:=h;exact⟨f1,e1,x1,ch h1,h3,h2⟩
  | fP n e' ys=>obtain⟨⟨f1,e1,x1,h1⟩,h2⟩:=h;exact⟨⟨f1,e1,x1,ch h1⟩,h2⟩
  | box n off=>obtain⟨h1,h2,cs,h3⟩:=h;exact⟨h1,h2,mz h3⟩
  | eR n i off=>obtain⟨h0,f1,e1,x1,h1,h2⟩:=h;exact⟨h0,f1,e1,x1,ch h1,h2⟩
  | fn f ea=>exact⟨h.1,fun n hn=>⟨(h.2 n hn).1,let ⟨_,cs,h3⟩:=h.2 n hn;mz h3⟩⟩
  | _=>exact h
 intro c v h
 by_cases hc:c = .own m
 ·subst hc
  obtain⟨a_,e',br,h1,h2⟩:=h
  rw[hm] at h1
  injection h1 with e1 e2 e3
  subst e1;subst e2;cases e3
  show C.ok _ _ w (qp m b fr e xs (.own m)) v
  simp only[qp,if_true]
  have iO:=tn (.own m) v ⟨fr,e,xs,hm,h2⟩
  simp only[dW,if_true] at iO
  refine⟨iO,fun Us=>?_,fun _ Us=>?_⟩
  ·rcases h2 with ⟨_,_,h3⟩|⟨hh,cap,ak,el,h3,h4,h5,h6⟩
   ·have aeH:0<xs.length:=Us
    omega
   ·exact⟨0,_,cap,by rw[h3,hb hh]⟩
  ·rcases h2 with ⟨_,_,h3⟩|⟨hh,cap,ak,el,h3,h4,h5,h6⟩
   ·have aeH:0<xs.length:=Us
    omega
   ·exact⟨_,cap,ak,el,by rw[h3,hb hh],by rw[hb hh];exact h4,h5⟩
 ·have e1:qp m b fr e xs c=dW m fr e xs c:=by
   cases c with
   | own n =>
     have hn:n≠m:=fun e=>hc (by rw[e])
     simp only[qp,dW,if_neg hn]
   | _=>rfl
  rw[e1]
  exact move (tn c v h)
theorem Rel.sealB{st:St}{ts:Array Value}(r:Rel base M w0 V st ts w)(m:Nat){b:Nat}(hb:∀ fr e xs,st.an m = .row fr e xs->V.has m->b=V.aF m) :
 ∃ V',Rel base M w0 V' (st.sealB m b) ts w/\(∀ c,V.Z false c->V'.Z false c)/\(∀ fr e xs,st.an m = .row fr e xs->V.has m->V'.Z false (V.aF m)):=by
 unfold St.sealB
 cases hm:st.an m with
 | dead=>exact⟨V,r,fun c h=>h,fun fr e xs h=>by cases h⟩
 | bx cs=>exact⟨V,r,fun c h=>h,fun fr e xs h=>by cases h⟩
 | row fr e xs =>
   simp only
   have mm:=r.mem
   have fQ:=mm.cE m
   rw[hm] at fQ
   have mh:fr=true->V.has m->base<=V.aF m:=fun hf hh=>by subst hf;exact mm.fY m e xs hm hh
   exact⟨V.freeze m base,r.Hq hm (SW (base:=base) hm fQ mh (hb fr e xs hm)),fun c h=>Vl.fV h,fun _ _ _ _ hh=>Vl.zc hh⟩
theorem U8(l:List Nat)(n:Nat):∃ b,n<=b/\∀ a∈l,b≠a:=by
 refine⟨n+l.foldr (·+·) 0+1,by omega,?_⟩
 have key:∀(l:List Nat) a,a∈l->a<=l.foldr (·+·) 0:=by
  intro l
  induction l with
  | nil=>intro a h;cases h
  | cons c l ih =>
    intro a h
    rcases List.mem_cons.1 h with h|h
    ·subst h;simp only[List.foldr_cons];omega
    ·have:=ih a h;simp only[List.foldr_cons];omega
 intro a ha
 have:=key l a ha
 omega
theorem EL{K:St->Prop}{ts:Array Value}:∀(ms:List Nat) {acc:List Nat} {V:Vl} {st:St},Rel base M w0 V st ts w->(∀ a∈acc,V.Z false a\/w.heap.size<=a)->H5 acc ms st K->∃ V' aV,Rel base M w0 V' aV ts w/\K aV
 | [],acc,V,st,r,_,h=>⟨V,st,r,h⟩
 | m::ms,acc,V,st,r,ha,h=>by
   have mm:=r.mem
   by_cases hh:V.has m/\∃ fr e xs,st.an m = .row fr e xs
   ·obtain⟨hh,fr,e,xs,hm⟩:=hh
    obtain⟨o1,o2,o3⟩:=mm.own m (by rw[hm];rfl) hh
    obtain⟨V',r',hz,hn⟩:=r.sealB m (b:=V.aF m) (fun _ _ _ _ _=>rfl)
    have aeG:=Mj r o3
    have bo:cU (K2 (V.aF m) acc):=EF (fun a FP e=>by
     rcases ha a FP with h1|h1
     ·exact o3 (e▸h1)
     ·omega)
    refine EL ms r' (fun a FP=>?_) (h (V.aF m) (iA aeG bo))
    rcases List.mem_cons.1 FP with e2|FP
    ·rw[e2];exact .inl (hn fr e xs hm hh)
    ·rcases ha a FP with h1|h1
     ·exact .inl (hz a h1)
     ·exact .inr h1
   ·obtain⟨b,fe,jx⟩:=U8 acc w.heap.size
    obtain⟨V',r',hz,_⟩:=r.sealB m (b:=b) (fun fr e xs hm h1=>absurd ⟨h1,fr,e,xs,hm⟩ hh)
    have hnb:¬V.Z false b:=fun hz=>by have:=mm.qu hz;omega
    refine EL ms r' (fun a FP=>?_) (h b (iA (Mj r hnb) (EF jx)))
    rcases List.mem_cons.1 FP with e2|FP
    ·rw[e2];exact .inr fe
    ·rcases ha a FP with h1|h1
     ·exact .inl (hz a h1)
     ·exact .inr h1
theorem Iw(hT:cv P T)(hΓ:eI P Γ)(hR:cV P R){st:St}(hs:Sat base M w0 st a w){o:Oper}{K:St->Prop}(h:z_ T Γ R st.eval st.an o st K)
 (hK:∀ aV v w',K aV->Sat base M w0 aV (a.put o.dst v) w'->next (a.put o.dst v) w'):o.wp P a w next Q:=by
 obtain⟨hd,V,r⟩:=hs
 unfold z_ at h
 split at h
 ·rename_i q hq
  obtain⟨h1,h2⟩:=vM h
  refine VA hT hΓ r.mem (kN.cE r) r.eval hq (fun j _=>yP st j) h1 (fun v w' V' g=>?_)
  obtain⟨q1,q2⟩:=vD r g
  exact hK _ v w' (Jo h2 g.hy) ⟨by rw[put_defers];exact hd,V',uy q1 q2 _⟩
 ·split at h
  ·obtain⟨V1,dy,r1,h⟩:=EL _ r (fun a h=>by cases h) h
   split at h
   ·rename_i q hq
    obtain⟨h1,h2⟩:=vM h
    exact T0 hT r1 hq h1 (fun v w' V' q1 q2=>hK _ v w' h2 ⟨by rw[put_defers];exact hd,V',uy q1 q2 _⟩)
   ·exact h.elim
  split at h
  ·rename_i q hq
   obtain⟨h1,h2⟩:=vM h
   exact T0 hT r hq h1 (fun v w' V' q1 q2=>hK _ v w' h2 ⟨by rw[put_defers];exact hd,V',uy q1 q2 _⟩)
  ·split at h
   ·rename_i f args hc
    split at h
    ·rename_i ru Uw
     split at h
     ·exact h.elim
     rename_i L5
     obtain⟨c,x,e1,e2,e3,e4⟩:=IS hc
     obtain⟨k1,k2⟩:=hR f ru Uw (fun e=>L5 (by rw[e];rfl))
     have hx:=r.eval x
     rw[e3] at hx
     subst e4
     have:=k1 base M w0 V st a.tmps w _ (c.args.toList.map a.eval) _ r (by simp) (fun i s v hi hv=>by
      rw[List.getElem?_map] at hi hv
      cases mj:c.args.toList[i]? with
      | none=>rw[mj] at hi;cases hi
      | some y =>
        rw[mj] at hi hv
        simp only[Option.map_some,Option.some.injEq] at hi hv
        rw[<-hi,<-hv];exact r.eval y) h
     refine Iy (R:=_) e1 e2 hx k2 (by rw[show c.args.map a.eval=(c.args.toList.map a.eval).toArray from Array.ext' (by simp)];exact this) (fun e w' hr=>?_)
     obtain⟨v,rfl,V',s,aV,h1,h2,h3⟩:=hr
     exact⟨v,rfl,hK _ v w' h1 ⟨by rw[put_defers];exact hd,V',uy h2 h3 _⟩⟩
    ·exact h.elim
   ·exact h.elim
theorem ZR(hR:cV P R){st:St}(hs:Sat base M w0 st a w){o:Oper}{K:St->Prop}{f:FuncId}{args:List S}(hc:xM st o.op=some (f,args)){ru:cL}(Uw:R f=some ru)(L5:¬Nat.beq f Cr=true)(h:ru args st fun s aV=>K (aV.put o.dst s))
 (hK:∀ aV v w',K aV->Sat base M w0 aV (a.put o.dst v) w'->next (a.put o.dst v) w'):o.wp P a w next Q:=by
 obtain⟨hd,V,r⟩:=hs
 obtain⟨c,x,e1,e2,e3,e4⟩:=IS hc
 obtain⟨k1,k2⟩:=hR f ru Uw (fun e=>L5 (by rw[e];rfl))
 have hx:=r.eval x
 rw[e3] at hx
 subst e4
 have:=k1 base M w0 V st a.tmps w _ (c.args.toList.map a.eval) _ r (by simp) (fun i s v hi hv=>by
  rw[List.getElem?_map] at hi hv
  cases mj:c.args.toList[i]? with
  | none=>rw[mj] at hi;cases hi
  | some y =>
    rw[mj] at hi hv
    simp only[Option.map_some,Option.some.injEq] at hi hv
    rw[<-hi,<-hv];exact r.eval y) h
 refine Iy (R:=_) e1 e2 hx k2 (by rw[show c.args.map a.eval=(c.args.toList.map a.eval).toArray from Array.ext' (by simp)];exact this) (fun e w' hr=>?_)
 obtain⟨v,rfl,V',s,aV,h1,h2,h3⟩:=hr
 exact⟨v,rfl,hK _ v w' h1 ⟨by rw[put_defers];exact hd,V',uy h2 h3 _⟩⟩
theorem XS(hT:cv P T)(hΓ:eI P Γ)(hR:cV P R){st:St}(hs:Sat base M w0 st a w){o:Oper}{K:St->Prop}(h:C9 T Γ R st.eval st.an o st K)
 (hK:∀ aV v w',K aV->Sat base M w0 aV (a.put o.dst v) w'->next (a.put o.dst v) w'):o.wp P a w next Q:=by
 unfold C9 at h
 split at h
 ·split at h
  ·rename_i f args hc
   split at h
   ·rename_i ru Uw
    split at h
    ·exact h.elim
    ·rename_i L5
     exact ZR hR hs hc Uw L5 h hK
   ·exact h.elim
  ·exact h.elim
 ·exact Iw hT hΓ hR hs h hK
theorem ua{st:St}{ts:Array Value}(r:Rel base M w0 V st ts w){d:Nat}{v:Value}{s:S}(hv:ts[d]? = some v)(h:S.ok V st.an w s v):Rel base M w0 V (st.put (some d) s) ts w:=by
 refine⟨by show (bP st.ts d s).length=ts.size;rw[ga];simp[r.len],fun i s' v' hs cr=>?_,r.mem⟩
 have bb:(bP st.ts d s)[i]? = some s':=hs
 rw[ga,List.getElem?_set] at bb
 split at bb
 ·rename_i e
  subst e
  split at bb
  ·injection bb with bb;subst bb
   rw[hv] at cr
   injection cr with cr;subst cr
   exact h
  ·cases bb
 ·exact r.iZ i s' v' bb cr
theorem uz{st:St}{ts:Array Value}(r:Rel base M w0 V st ts w){d:Nat}{s:S}(h:nth .any st.ts d=s)(hs:s ≠ .any):∃ v,ts[d]? = some v/\S.ok V st.an w s v:=by
 rw[cT] at h
 cases he:st.ts[d]? with
 | none=>rw[he] at h;exact absurd h.symm hs
 | some s' =>
   rw[he] at h
   simp only[Option.getD_some] at h
   subst h
   have aT:=(List.getElem?_eq_some_iff.1 he).1
   have zk:d<ts.size:=by rw[<-r.len];exact aT
   have hv:ts[d]? = some (ts[d]'zk):=Array.getElem?_eq_getElem zk
   exact⟨_,hv,r.iZ d _ _ he hv⟩
theorem IX{st:St}(r:Rel base M w0 V st a.tmps w){all:Array Oper}{o:Oper} :
 match lA all o st with
 | .go=>Region.wanted o (yielded all a.tmps)=true
 | .skip=>Region.wanted o (yielded all a.tmps)=false
 | .ask d b want=>Region.wanted o (yielded all a.tmps)=(b == want)/\a.tmps[d]? = some (.bool b)
 | .bad=>True:=by
 unfold lA Region.wanted
 cases hg:o.guard with
 | none=>simp
 | some g =>
   obtain⟨j,want⟩:=g
   simp only
   rw[fa,zF]
   cases hj:(all.toList[j]?).bind (·.dst) with
   | none=>simp
   | some d =>
     have lr:(all[j]?).bind (·.dst)=some d:=by rw[<-hj];simp
     have hy:∀ v,a.tmps[d]? = some v->yielded all a.tmps j=match v with | .bool b=>some b|_=>none:=by
      intro v hv
      unfold yielded
      rw[lr]
      simp only[Option.bind_some,hv]
      cases v<;>rfl
     simp only
     split
     ·rename_i h
      split at h
      ·rename_i he
       obtain⟨v,h1,h2⟩:=uz r he (by simp)
       replace h2:v = .bool true:=h2
       rw[hy v h1,h2]
       cases want<;>simp_all
      ·rename_i he
       obtain⟨v,h1,h2⟩:=uz r he (by simp)
       replace h2:v = .bool false:=h2
       rw[hy v h1,h2]
       cases want<;>simp_all
      all_goals cases h
     ·rename_i h
      split at h
      ·rename_i he
       obtain⟨v,h1,h2⟩:=uz r he (by simp)
       replace h2:v = .bool true:=h2
       rw[hy v h1,h2]
       cases want<;>simp_all
      ·rename_i he
       obtain⟨v,h1,h2⟩:=uz r he (by simp)
       replace h2:v = .bool false:=h2
       rw[hy v h1,h2]
       cases want<;>simp_all
      ·cases h
      ·rename_i he
       obtain⟨v,h1,h2⟩:=uz r he (by simp)
       replace h2:v=undef:=h2
       rw[hy v h1,h2]
       simp[undef]
      ·cases h
     ·rename_i d' b' adp h
      split at h
      ·split at h<;>cases h
      ·split at h<;>cases h
      ·rename_i b he
       obtain⟨v,h1,h2⟩:=uz r he (by simp)
       replace h2:v = .bool b:=h2.1
       injection h with e1 e2 e3
       subst e1;subst e2;subst e3
       rw[hy v h1,h2]
       exact⟨by cases b<;>cases want<;>rfl,by rw[h1,h2]⟩
      ·cases h
      ·cases h
     ·trivial
theorem N1{st:St}(hs:Sat base M w0 st a w)(dst:Option Nat):Sat base M w0 (st.put dst .fh) (a.put dst undef) w:=by
 obtain⟨hd,V,r⟩:=hs
 exact⟨by rw[put_defers];exact hd,V,uy r (s:=.fh) (v:=undef) rfl _⟩
theorem Ab(hT:cv P T)(hΓ:eI P Γ)(hR:cV P R){all:Array Oper}{K:St->Prop}(hK:∀ aV a' w',K aV->Sat base M w0 aV a' w'->Q .normal a' w') :
 ∀(l:List Oper) (i:Nat) (_:all.toList.drop i=l) (st:St) (a:Act) (w:World),Sat base M w0 st a w->ow T Γ R all l st K->wpOps P all Q (List.range' i l.length) a w
 | [],i,_,st,a,w,hs,h=>by
   rw[List.length_nil,List.range'_zero]
   exact hK st a w h hs
 | o::l,i,hl,st,a,w,hs,h=>by
   rw[List.length_cons,List.range'_succ,wpOps_cons]
   have hi:all[i]? = some o:=by
    have:(all.toList.drop i)[0]? = some o:=by rw[hl];rfl
    rw[List.getElem?_drop] at this
    simpa using this
   have eo:all.toList.drop (i+1)=l:=by
    rw[<-List.drop_drop,hl];rfl
   unfold wpOp
   simp only[hi]
   have go:∀ st,Sat base M w0 st a w->C9 T Γ R st.eval st.an o st (fun aV=>ow T Γ R all l aV K)->o.wp P a w (wpOps P all Q (List.range' (i+1) l.length)) Q :=
    fun st hs h=>XS hT hΓ hR hs h (fun aV v w' h1 h2=>Ab hT hΓ hR hK l (i+1) eo aV _ w' h2 h1)
   have skip:∀ st,Sat base M w0 st a w->ow T Γ R all l (st.put o.dst .fh) K->wpOps P all Q (List.range' (i+1) l.length) (a.put o.dst undef) w :=
    fun st hs h=>Ab hT hΓ hR hK l (i+1) eo _ _ w (N1 hs _) h
   obtain⟨hd,V,r⟩:=hs
   have oG:=IX r (all:=all) (o:=o)
   unfold ow at h
   split at h
   ·rename_i e
    rw[e] at oG
    rw[if_pos oG]
    exact .inl (go st ⟨hd,V,r⟩ h)
   ·rename_i e
    rw[e] at oG
    rw[if_neg (by simp[oG])]
    exact skip st ⟨hd,V,r⟩ h
   ·rename_i d b want e
    rw[e] at oG
    obtain⟨hw,hv⟩:=oG
    have Mp:b=want->Region.wanted o (yielded all a.tmps)=true:=fun e=>by rw[hw,e];simp
    cases b with
    | true =>
      have h1:=h.1 rfl
      have r1:=ua (s:=.c .iB) r hv rfl
      cases want with
      | true=>rw[if_pos (Mp rfl)];exact .inl (go _ ⟨hd,V,r1⟩ h1)
      | false=>rw[if_neg (by simp[hw])];exact skip _ ⟨hd,V,r1⟩ h1
    | false =>
      have h1:=h.2 rfl
      have r1:=ua (s:=.c .iq) r hv rfl
      cases want with
      | true=>rw[if_neg (by simp[hw])];exact skip _ ⟨hd,V,r1⟩ h1
      | false=>rw[if_pos (Mp rfl)];exact .inl (go _ ⟨hd,V,r1⟩ h1)
   ·exact h.elim
theorem Wk(hT:cv P T)(hΓ:eI P Γ)(hR:cV P R){all:Array Oper}{i:Nat}{st:St}{K:St->Prop}(hs:Sat base M w0 st a w)(h:Cz T Γ R all i st K)
 (hK:∀ aV a' w',K aV->Sat base M w0 aV a' w'->next a' w'):wpOp P all Q i next a w:=by
 unfold Cz at h
 split at h
 ·rename_i o hi
  rw[fa] at hi
  have hi:all[i]? = some o:=by simpa using hi
  unfold wpOp
  simp only[hi]
  have go:∀ st,Sat base M w0 st a w->z_ T Γ R st.eval st.an o st K->o.wp P a w next Q :=
   fun st hs h=>Iw hT hΓ hR hs h (fun aV v w' h1 h2=>hK aV _ w' h1 h2)
  have skip:∀ st,Sat base M w0 st a w->K (st.put o.dst .fh)->next (a.put o.dst undef) w:=fun st hs h=>hK _ _ w h (N1 hs _)
  obtain⟨hd,V,r⟩:=hs
  have oG:=IX r (all:=all) (o:=o)
  split at h
  ·rename_i e
   rw[e] at oG
   rw[if_pos oG]
   exact .inl (go st ⟨hd,V,r⟩ h)
  ·rename_i e
   rw[e] at oG
   rw[if_neg (by simp[oG])]
   exact skip st ⟨hd,V,r⟩ h
  ·rename_i d b want e
   rw[e] at oG
   obtain⟨hw,hv⟩:=oG
   have Mp:b=want->Region.wanted o (yielded all a.tmps)=true:=fun e=>by rw[hw,e];simp
   cases b with
   | true =>
     have h1:=h.1 rfl
     have r1:=ua (s:=.c .iB) r hv rfl
     cases want with
     | true=>rw[if_pos (Mp rfl)];exact .inl (go _ ⟨hd,V,r1⟩ h1)
     | false=>rw[if_neg (by simp[hw])];exact skip _ ⟨hd,V,r1⟩ h1
   | false =>
     have h1:=h.2 rfl
     have r1:=ua (s:=.c .iq) r hv rfl
     cases want with
     | true=>rw[if_neg (by simp[hw])];exact skip _ ⟨hd,V,r1⟩ h1
     | false=>rw[if_pos (Mp rfl)];exact .inl (go _ ⟨hd,V,r1⟩ h1)
  ·exact h.elim
 ·exact h.elim
end
end Go.SX
/- A region that draws its order: what the text's order tells of each operation. No condition. -/
namespace Go.SX
open Go.RowKit
set_option linter.unusedVariables false
set_option linter.unusedSimpArgs false
section
variable {P : Program} {T : cC} {Γ : FuncId → Option PC} {R : FuncId → Option cL}
theorem Sc(acc:Array Nat)(j:Nat)(l:List Edge):∀ s:Nat,(l.foldl (fun s e=>if Region.binds .any e then s ||| 2^e.on ||| acc.getD e.on 0 else s) s).testBit j=true →
 s.testBit j=true\/∃ e∈l,Region.binds .any e=true/\(j=e.on\/(acc.getD e.on 0).testBit j=true):=by
 induction l with
 | nil=>intro s h;exact .inl h
 | cons e l ih =>
   intro s h
   rw[List.foldl_cons] at h
   rcases ih _ h with h|⟨e',h1,h2,h3⟩
   ·split at h
    ·rename_i hb
     rw[Nat.testBit_or,Nat.testBit_or,Bool.or_eq_true,Bool.or_eq_true] at h
     rcases h with (h|h)|h
     ·exact .inl h
     ·right
      refine⟨e,List.mem_cons_self ..,hb,.inl ?_⟩
      rw[Nat.testBit_two_pow] at h
      simpa using (of_decide_eq_true h).symm
     ·exact .inr ⟨e,List.mem_cons_self ..,hb,.inr h⟩
    ·exact .inl h
   ·exact .inr ⟨e',List.mem_cons_of_mem _ h1,h2,h3⟩
def XT(ops:Array Oper)(acc:Array Nat):Prop:=∀ m j,(acc.getD m 0).testBit j=true->∃ o,ops[m]? = some o/\∃ e∈o.after,Region.binds .any e=true/\(j=e.on\/(e.on<m/\(acc.getD e.on 0).testBit j=true))
theorem BN(ops:Array Oper):XT ops (Region.before ops):=by
 unfold Region.before
 have:=Array.foldl_induction (as:=ops) (motive:=fun i acc=>acc.size=i/\XT ops acc) (init := #[]) (f:=fun acc o =>
  acc.push (o.after.foldl (fun s e=>if Region.binds .any e then s ||| 2^e.on ||| acc.getD e.on 0 else s) 0)) ⟨rfl,fun m j h=>by simp at h⟩ (fun i acc ⟨h1,h2⟩=>by
  refine⟨by simp[h1],fun m j h=>?_⟩
  rcases Nat.lt_trichotomy m acc.size with hm|hm|hm
  ·rw[show (acc.push (ops[i].after.foldl (fun s e=>if Region.binds .any e then s ||| 2^e.on ||| acc.getD e.on 0 else s) 0)).getD m 0=acc.getD m 0 by
    simp[Array.getD,hm,Nat.lt_succ_of_lt hm,Array.getElem_push_lt]] at h
   obtain⟨o,k1,e,k2,k3,k4⟩:=h2 m j h
   refine⟨o,k1,e,k2,k3,k4.imp id fun⟨k5,k6⟩=>⟨k5,?_⟩⟩
   have:e.on<acc.size:=by omega
   simpa[Array.getD,this,Nat.lt_succ_of_lt this,Array.getElem_push_lt] using k6
  ·subst hm
   rw[show (acc.push (ops[i].after.foldl (fun s e=>if Region.binds .any e then s ||| 2^e.on ||| acc.getD e.on 0 else s) 0)).getD acc.size 0=ops[i].after.foldl (fun s e=>if Region.binds .any e then s ||| 2^e.on ||| acc.getD e.on 0 else s) 0 by
    simp[Array.getD]] at h
   rw[<-Array.foldl_toList] at h
   rcases Sc acc j _ 0 h with h|⟨e,k1,k2,k3⟩
   ·simp at h
   ·refine⟨ops[i],by rw[h1];exact Array.getElem?_eq_getElem _,e,by simpa using k1,k2,k3.imp id fun k4=>?_⟩
    have aT:e.on<acc.size:=by
     rcases Nat.lt_or_ge e.on acc.size with h|h
     ·exact h
     ·simp[Array.getD,Nat.not_lt.2 h] at k4
    exact⟨aT,by simpa[Array.getD,aT,Nat.lt_succ_of_lt aT,Array.getElem_push_lt] using k4⟩
  ·simp[Array.getD,show ¬m<acc.size+1 by omega] at h)
 exact this.2
def EX(all:Array Oper)(ay:Array Bool):Prop:=∀ j oj,all[j]? = some oj->ay.getD j false=true->∀ e∈oj.after,Region.binds .any e=true->ay.getD e.on false=true
theorem nS{all:Array Oper}{ay:Array Bool}(hc:EX all ay):∀ i,(ay.getD i false=true\/i∈Region.ready .any all ay)->∀ j,(ff all i).testBit j=true->ay.getD j false=true:=by
 intro i
 induction i using Nat.strongRecOn with
 | _ i ih =>
   intro hi j hj
   obtain⟨o,h1,e,h2,h3,h4⟩:=BN all i j hj
   have he:ay.getD e.on false=true:=by
    rcases hi with hi|hi
    ·exact hc i o h1 hi e h2 h3
    ·obtain⟨_,o',h5,h6⟩:=mem_ready.1 hi
     rw[h1] at h5;injection h5 with h5;subst h5
     exact h6 e h2 h3
   rcases h4 with rfl|⟨h4,h5⟩
   ·exact he
   ·exact ih e.on h4 (.inl he) j h5
structure kM where
 da:List Nat
 st:St
 r:Option QR
def jm(all:Array Oper)(st:St)(o:Oper)(dy:St)(g:Bool):Prop :=
 match lA all o st with
 | .go=>dy=st/\g=true
 | .skip=>dy=st/\g=false
 | .ask d b want=>dy=st.put (some d) (.c (if b then .iB else .iq))/\g=(b == want)
 | .bad=>False
def yG(T:cC)(Γ:FuncId->Option PC)(all:Array Oper)(k o_:Nat):Nat->List Oper->List Nat->St->List kM->List Nat->St->Prop
 | _,[],da,st,E,qt,aV=>E=[]/\qt=da/\aV=st
 | i,o::l,da,st,E,qt,aV=>∃ e E',E=e::E'/\e.da=da/\jm all st o e.st e.r.isSome ∧
    match e.r with
    | none=>yG T Γ all k o_ (i+1) l da (e.st.put o.dst .fh) E' qt aV
    | some q=>jf T Γ (Jq all i o_ da e.st) (bL e.st.hp) (LG all k i e.st) o.op=some q/\yG T Γ all k o_ (i+1) l (dX da (lmap (fun _=>i) q.new)) ((e.st.alloc q.new).put o.dst q.res) E' qt aV
def E0(E:List kM):Prop:=∀ e∈E,∀ q,e.r=some q->∀ p,q.ob=some p->p
def P9(E:List kM):Prop:=∀ e∈E,∀ q,e.r=some q->∀ p,q.hy=some p->p
theorem qq{all:Array Oper}{k o_:Nat}:∀(l:List Oper) (i:Nat) (da:List Nat) (st:St) (K:St->Prop),sQ T Γ all k o_ i l da st K →
 ∃ E qt aV,yG T Γ all k o_ i l da st E qt aV/\E0 E/\(P9 E->K aV)
 | [],i,da,st,K,h=>⟨[],da,st,⟨rfl,rfl,rfl⟩,(fun e he=>by cases he),fun _=>h⟩
 | o::l,i,da,st,K,h=>by
   have go:∀ dy,jm all st o dy true->(match jf T Γ (Jq all i o_ da dy) (bL dy.hp) (LG all k i dy) o.op with
    | some r=>Hf r.ob (sQ T Γ all k o_ (i+1) l (dX da (lmap (fun _=>i) r.new)) ((dy.alloc r.new).put o.dst r.res) fun aV=>R5 r.hy (K aV))
    | none=>False)->∃ E qt aV,yG T Γ all k o_ i (o::l) da st E qt aV/\E0 E/\(P9 E->K aV):=by
    intro dy hr h
    split at h
    ·rename_i q hq
     obtain⟨h1,h2⟩:=vM h
     obtain⟨E,qt,aV,k1,k2,k3⟩:=qq l (i+1) _ _ _ h2
     refine⟨⟨da,dy,some q⟩::E,qt,aV,⟨_,E,rfl,rfl,hr,hq,k1⟩,?_,fun hy=>?_⟩
     ·intro e he q' fH p hp
      rcases List.mem_cons.1 he with rfl|he
      ·injection fH with fH;subst fH;exact h1 p hp
      ·exact k2 e he q' fH p hp
     ·exact Jo (k3 fun e he=>hy e (List.mem_cons_of_mem _ he)) (fun p hp=>hy _ (List.mem_cons_self ..) q rfl p hp)
    ·exact h.elim
   have skip:∀ dy,jm all st o dy false->sQ T Γ all k o_ (i+1) l da (dy.put o.dst .fh) K->∃ E qt aV,yG T Γ all k o_ i (o::l) da st E qt aV/\E0 E/\(P9 E->K aV):=by
    intro dy hr h
    obtain⟨E,qt,aV,k1,k2,k3⟩:=qq l (i+1) _ _ _ h
    refine⟨⟨da,dy,none⟩::E,qt,aV,⟨_,E,rfl,rfl,hr,k1⟩,?_,fun hy=>k3 fun e he=>hy e (List.mem_cons_of_mem _ he)⟩
    intro e he q' fH p hp
    rcases List.mem_cons.1 he with rfl|he
    ·cases fH
    ·exact k2 e he q' fH p hp
   unfold sQ at h
   simp only at h
   split at h
   ·rename_i e
    exact go st (by unfold jm;rw[e];exact⟨rfl,rfl⟩) h
   ·rename_i e
    exact skip st (by unfold jm;rw[e];exact⟨rfl,rfl⟩) h
   ·rename_i d b want e
    have hr:jm all st o (st.put (some d) (.c (if b then .iB else .iq))) (b == want):=by unfold jm;rw[e];exact⟨rfl,rfl⟩
    cases b with
    | true =>
      have h1:=h.1 rfl
      cases want with
      | true=>exact go _ hr h1
      | false=>exact skip _ hr h1
    | false =>
      have h1:=h.2 rfl
      cases want with
      | true=>exact skip _ hr h1
      | false=>exact go _ hr h1
   ·exact h.elim
def Cg(E:List kM)(j:Nat):S:=match E[j]? with|some e=>(match e.r with|some q=>q.res|none=>.fh)|none=>.any
structure ie (all:Array Oper) (cd:St) (E:List kM) (i:Nat) (da:List Nat) (st:St):Prop where
 len:st.ts.length=cd.ts.length
 yj:∀ t,(∀ j o,j<i->all[j]? = some o->o.dst≠some t)->st.ts[t]? = cd.ts[t]?
 new:∀ j o d,j<i->all[j]? = some o->o.dst=some d->∀ V hp w v,S.ok V hp w (Cg E j) v->S.ok V hp w (nth .any st.ts d) v
 names:bL st.hp=bL cd.hp+da.length
 cE:∀ n,n<bL cd.hp->st.an n=cd.an n
 EW:∀(m:Nat) j,da[m]? = some j->j<i/\∃ e q x,E[j]? = some e/\e.r=some q/\bL cd.hp+m=bL e.st.hp+x/\x<q.new.length
 news:∀ j e q,j<i->E[j]? = some e->e.r=some q->bL cd.hp<=bL e.st.hp/\∀(x:Nat) y,q.new[x]? = some y->da[bL e.st.hp+x-bL cd.hp]? = some j/\st.an (bL e.st.hp+x)=y
theorem j_{all:Array Oper}{k:Nat}(h:jq all k=true){i:Nat}(hi:i<k):∃ o,all[i]? = some o/\(∀ j want,o.guard=some (j,want)->j<i/\(ff all i).testBit j=true) ∧
 ∃ d,o.dst=some d/\∀ j o',j<k->j≠i->all[j]? = some o'->o'.dst≠some d:=by
 have:=List.all_eq_true.1 h i (List.mem_range.2 hi)
 split at this
 ·rename_i o ho
  rw[Bool.and_eq_true] at this
  obtain⟨h1,h2⟩:=this
  refine⟨o,ho,fun j want hg=>?_,?_⟩
  ·rw[hg] at h1
   simp only[Bool.and_eq_true,decide_eq_true_eq] at h1
   exact h1
  ·split at h2
   ·rename_i d hd
    refine⟨d,hd,fun j o' hj bo cm he=>?_⟩
    have:=List.all_eq_true.1 h2 j (List.mem_range.2 hj)
    rw[cm] at this
    simp[bo,he] at this
   ·cases h2
 ·cases this
theorem HF{ts:List S}{d t:Nat}{s:S}:nth .any (bP ts d s) t=if t=d then (if d<ts.length then s else .any) else nth .any ts t:=by
 rw[cT,cT,ga,List.getElem?_set]
 by_cases h:d=t
 ·subst h
  simp only[if_true]
  split<;>rfl
 ·rw[if_neg h,if_neg (fun e=>h e.symm)]
theorem ie.refine{all:Array Oper}{k:Nat}{cd st:St}{E:List kM}{i:Nat}{da:List Nat}(s:ie all cd E i da st){o:Oper}{dy:St}{g:Bool}(g9:jq all k=true)(hi:i<k)(ho:all[i]? = some o)(hr:jm all st o dy g) :
 ie all cd E i da dy:=by
 unfold jm at hr
 split at hr
 ·rw[hr.1];exact s
 ·rw[hr.1];exact s
 ·rename_i d b want hd
  rw[hr.1]
  have oc:nth .any st.ts d = .c (.val (.bool b))/\∃ j oj,j<i/\all[j]? = some oj/\oj.dst=some d:=by
   unfold lA at hd
   obtain⟨o',cm,hg,_⟩:=j_ g9 hi
   rw[ho] at cm;injection cm with cm;subst cm
   split at hd
   ·cases hd
   ·rename_i j w2 Uj
    split at hd
    ·rename_i d' dR
     split at hd
     ·split at hd<;>cases hd
     ·split at hd<;>cases hd
     ·rename_i b' fO
      injection hd with e1 e2 e3
      subst e1;subst e2
      refine⟨fO,j,?_⟩
      rw[zF,fa] at dR
      cases hj:all.toList[j]? with
      | none=>rw[hj] at dR;cases dR
      | some oj=>rw[hj] at dR;exact⟨oj,(hg j w2 Uj).1,by simpa using hj,dR⟩
     ·cases hd
     ·cases hd
    ·cases hd
  obtain⟨hb,jd,od,hjd,hod,hdd⟩:=oc
  refine⟨by show (bP st.ts d _).length=_;rw[ga,List.length_set];exact s.len,fun t ht=>?_,fun j o' d' hj cm dR V hp w v hv=>?_,s.names,s.cE,s.EW,s.news⟩
  ·show (bP st.ts d _)[t]? = _
   rw[ga,List.getElem?_set]
   have bo:d≠t:=fun e=>by subst e;exact ht jd od hjd hod hdd
   rw[if_neg bo]
   exact s.yj t ht
  ·have h0:=s.new j o' d' hj cm dR V hp w v hv
   show S.ok V hp w (nth .any (bP st.ts d _) d') v
   rw[HF]
   split
   ·rename_i e
    subst e
    split
    ·rw[hb] at h0
     replace h0:v = .bool b:=h0.1
     cases b<;>exact h0
    ·trivial
   ·exact h0
 ·exact hr.elim
theorem ie.skip{all:Array Oper}{k:Nat}{cd:St}{E:List kM}{i:Nat}{e:kM}(s:ie all cd E i e.da e.st){o:Oper}(g9:jq all k=true)(hi:i<k)(ho:all[i]? = some o)(he:E[i]? = some e)(hr:e.r=none) :
 ie all cd E (i+1) e.da (e.st.put o.dst .fh):=by
 obtain⟨o',cm,_,d,hd,zg⟩:=j_ g9 hi
 rw[ho] at cm;injection cm with cm;subst cm
 rw[hd]
 refine⟨by show (bP e.st.ts d _).length=_;rw[ga,List.length_set];exact s.len,fun t ht=>?_,fun j o' d' hj cm dR V hp w v hv=>?_,s.names,s.cE,fun m j hm=>?_,fun j e' q hj fG hq=>?_⟩
 ·show (bP e.st.ts d _)[t]? = _
  rw[ga,List.getElem?_set,if_neg (fun e=>by subst e;exact ht i o (by omega) ho hd)]
  exact s.yj t fun j o hj=>ht j o (by omega)
 ·show S.ok V hp w (nth .any (bP e.st.ts d _) d') v
  rw[HF]
  by_cases iL:j=i
  ·subst iL
   rw[ho] at cm;injection cm with cm;subst cm
   rw[hd] at dR;injection dR with dR;subst dR
   rw[if_pos rfl]
   split
   ·unfold Cg at hv
    rw[he] at hv
    simp only[hr] at hv
    exact hv
   ·trivial
  ·rw[if_neg (fun e=>by subst e;exact zg j o' (by omega) iL cm dR)]
   exact s.new j o' d' (by omega) cm dR V hp w v hv
 ·obtain⟨h1,h2⟩:=s.EW m j hm
  exact⟨by omega,h2⟩
 ·by_cases iL:j=i
  ·subst iL
   rw[he] at fG;injection fG with fG;subst fG
   rw[hr] at hq;cases hq
  ·exact s.news j e' q (by omega) fG hq
theorem ie.step{all:Array Oper}{k:Nat}{cd:St}{E:List kM}{i:Nat}{e:kM}(s:ie all cd E i e.da e.st){o:Oper}(g9:jq all k=true)(hi:i<k)(ho:all[i]? = some o)(he:E[i]? = some e){q:QR}(hr:e.r=some q) :
 ie all cd E (i+1) (dX e.da (lmap (fun _=>i) q.new)) ((e.st.alloc q.new).put o.dst q.res):=by
 obtain⟨o',cm,_,d,hd,zg⟩:=j_ g9 hi
 rw[ho] at cm;injection cm with cm;subst cm
 rw[hd,cp,bS]
 have ec:((e.st.alloc q.new).put (some d) q.res).an=ey e.st.an (bL e.st.hp) q.new:=by rw[Zk,vR]
 have hn:bL cd.hp+e.da.length=bL e.st.hp:=s.names.symm
 refine⟨by show (bP e.st.ts d _).length=_;rw[ga,List.length_set];exact s.len,fun t ht=>?_,fun j o' d' hj cm dR V hp w v hv=>?_,?_,fun n aT=>?_,fun m j hm=>?_,fun j e' q' hj fG hq=>?_⟩
 ·show (bP e.st.ts d _)[t]? = _
  rw[ga,List.getElem?_set,if_neg (fun e=>by subst e;exact ht i o (by omega) ho hd)]
  exact s.yj t fun j o hj=>ht j o (by omega)
 ·show S.ok V hp w (nth .any (bP e.st.ts d _) d') v
  rw[HF]
  by_cases iL:j=i
  ·subst iL
   rw[ho] at cm;injection cm with cm;subst cm
   rw[hd] at dR;injection dR with dR;subst dR
   rw[if_pos rfl]
   split
   ·unfold Cg at hv
    rw[he] at hv
    simp only[hr] at hv
    exact hv
   ·trivial
  ·rw[if_neg (fun e=>by subst e;exact zg j o' (by omega) iL cm dR)]
   exact s.new j o' d' (by omega) cm dR V hp w v hv
 ·show bL (dX e.st.hp q.new)=_
  rw[dz,cp,List.length_append,List.length_append,List.length_map,<-dz e.st.hp]
  omega
 ·rw[ec]
  unfold ey
  rw[if_pos (by omega)]
  exact s.cE n aT
 ·rcases Nat.lt_or_ge m e.da.length with h|h
  ·rw[List.getElem?_append_left h] at hm
   obtain⟨h1,h2⟩:=s.EW m j hm
   exact⟨by omega,h2⟩
  ·rw[List.getElem?_append_right h,List.getElem?_map] at hm
   cases hq:q.new[m-e.da.length]? with
   | none=>rw[hq] at hm;cases hm
   | some y =>
     rw[hq] at hm
     simp only[Option.map_some,Option.some.injEq] at hm
     subst hm
     exact⟨by omega,e,q,m-e.da.length,he,hr,by omega,(List.getElem?_eq_some_iff.1 hq).1⟩
 ·by_cases iL:j=i
  ·subst iL
   rw[he] at fG;injection fG with fG;subst fG
   rw[hr] at hq;injection hq with hq;subst hq
   refine⟨by omega,fun x y hx=>⟨?_,?_⟩⟩
   ·rw[List.getElem?_append_right (by omega),List.getElem?_map,show bL e.st.hp+x-bL cd.hp-e.da.length=x by omega,hx]
    rfl
   ·rw[ec]
    exact sx hx
  ·obtain⟨h1,h2⟩:=s.news j e' q' (by omega) fG hq
   refine⟨h1,fun x y hx=>?_⟩
   obtain⟨h3,h4⟩:=h2 x y hx
   have aT:=(List.getElem?_eq_some_iff.1 h3).1
   refine⟨by rw[List.getElem?_append_left aT];exact h3,?_⟩
   rw[ec]
   unfold ey
   rw[if_pos (by omega)]
   exact h4
end
end Go.SX
/- A region that draws its order: whatever the order. No condition. -/
namespace Go.SX
open Go.RowKit
set_option linter.unusedVariables false
set_option linter.unusedSimpArgs false
section
variable {P : Program} {T : cC} {Γ : FuncId → Option PC} {R : FuncId → Option cL} {all : Array Oper} {k : Nat} {cd : St} {E : List kM} {dk : List Nat} {dS : St}
def La(T:cC)(Γ:FuncId->Option PC)(all:Array Oper)(k:Nat)(cd:St)(E:List kM)(i:Nat):Prop :=
 ∃ e o st,E[i]? = some e/\all[i]? = some o/\ie all cd E i e.da st/\jm all st o e.st e.r.isSome/\ie all cd E i e.da e.st ∧
  (∀ q,e.r=some q->jf T Γ (Jq all i (bL cd.hp) e.da e.st) (bL e.st.hp) (LG all k i e.st) o.op=some q)
theorem rR(g9:jq all k=true):∀(l:List Oper) (i:Nat) (da:List Nat) (st:St) (Er:List kM),(all.toList.take k).drop i=l->E.drop i=Er->i+l.length=k →
 yG T Γ all k (bL cd.hp) i l da st Er dk dS->ie all cd E i da st->(∀ j,i<=j->j<k->La T Γ all k cd E j)/\ie all cd E k dk dS
 | [],i,da,st,Er,_,_,hi,hc,s=>by
   obtain⟨_,rfl,rfl⟩:=hc
   have:i=k:=by simpa using hi
   subst this
   exact⟨fun j h1 h2=>by omega,s⟩
 | o::l,i,da,st,Er,hl,hE,hi,hc,s=>by
   obtain⟨e,E',rfl,rfl,hr,hc⟩:=hc
   have ia:i<k:=by simp only[List.length_cons] at hi;omega
   have ho:all[i]? = some o:=by
    have:((all.toList.take k).drop i)[0]? = some o:=by rw[hl];rfl
    rw[List.getElem?_drop,List.getElem?_take] at this
    simpa[ia] using this
   have eo:(all.toList.take k).drop (i+1)=l:=by rw[<-List.drop_drop,hl];rfl
   have he:E[i]? = some e:=by
    have:(E.drop i)[0]? = some e:=by rw[hE];rfl
    rw[List.getElem?_drop] at this
    simpa using this
   have hE':E.drop (i+1)=E':=by rw[<-List.drop_drop,hE];rfl
   have s1:=s.refine g9 ia ho hr
   have cF:i+1+l.length=k:=by simp only[List.length_cons] at hi;omega
   cases nO:e.r with
   | none =>
     rw[nO] at hc
     obtain⟨k1,k2⟩:=rR g9 l (i+1) _ _ E' eo hE' cF hc (s1.skip g9 ia ho he nO)
     refine⟨fun j h1 h2=>?_,k2⟩
     by_cases hj:j=i
     ·subst hj
      exact⟨e,o,st,he,ho,s,hr,s1,fun q hq=>by rw[nO] at hq;cases hq⟩
     ·exact k1 j (by omega) h2
   | some q =>
     rw[nO] at hc
     obtain⟨hq,hc⟩:=hc
     obtain⟨k1,k2⟩:=rR g9 l (i+1) _ _ E' eo hE' cF hc (s1.step g9 ia ho he nO)
     refine⟨fun j h1 h2=>?_,k2⟩
     by_cases hj:j=i
     ·subst hj
      exact⟨e,o,st,he,ho,s,hr,s1,fun q' fH=>by rw[nO] at fH;injection fH with fH;subst fH;exact hq⟩
     ·exact k1 j (by omega) h2
theorem GM(all:Array Oper)(cd:St)(E:List kM):ie all cd E 0 [] cd :=
 ⟨rfl,fun _ _=>rfl,fun _ _ _ h=>absurd h (Nat.not_lt_zero _),rfl,fun _ _=>rfl,(fun m j h=>by cases h),fun _ _ _ h=>absurd h (Nat.not_lt_zero _)⟩
def mi(cd:St)(dk:List Nat)(dS:St)(L:Nat->Bool)(n:Nat):az :=
 if n<bL cd.hp then cd.an n else match dk[n-bL cd.hp]? with|some j=>if L j then dS.an n else .dead|none=>.dead
theorem Zq{L:Nat->Bool}{n:Nat}(h:n<bL cd.hp):mi cd dk dS L n=cd.an n:=by unfold mi;rw[if_pos h]
theorem Hv{L:Nat->Bool}{n j:Nat}(h:bL cd.hp<=n)(hw:dk[n-bL cd.hp]? = some j):mi cd dk dS L n=if L j then dS.an n else .dead:=by
 unfold mi;rw[if_neg (by omega),hw]
structure Inv (base:Nat) (M:LM) (w0:World) (all:Array Oper) (k:Nat) (cd:St) (E:List kM) (dk:List Nat) (dS:St) (L:Nat->Bool) (a:Act) (w:World):Prop where
 defers:a.defers=[]
 size:cd.ts.length=a.tmps.size
 ex:∃ V,Mem base M w0 V (mi cd dk dS L) w ∧
  (∀(t:Nat) s v,(∀ j o,j<k->all[j]? = some o->o.dst≠some t)->cd.ts[t]? = some s->a.tmps[t]? = some v->S.ok V (mi cd dk dS L) w s v) ∧
  (∀ j o d v,j<k->L j=true->all[j]? = some o->o.dst=some d->a.tmps[d]? = some v->S.ok V (mi cd dk dS L) w (Cg E j) v)
 hy:∀ j e q,j<k->L j=true->E[j]? = some e->e.r=some q->∀ p,q.hy=some p->p
variable {base : Nat} {M : LM} {w0 : World} {a : Act} {w : World} {L : Nat → Bool} {next : Act → World → Prop} {Q : Exit → Act → World → Prop}
theorem sg{a:Act}{d t:Nat}{v:Value}(h:d≠t):(a.put (some d) v).tmps[t]? = a.tmps[t]? := by
 show (a.tmps.setIfInBounds d v)[t]? = _
 exact Array.getElem?_setIfInBounds_ne h
theorem D1{a:Act}{d:Nat}{v u:Value}(h:(a.put (some d) v).tmps[d]? = some u):u=v:=by
 have h':(a.tmps.setIfInBounds d v)[d]? = some u:=h
 rw[Array.getElem?_setIfInBounds] at h'
 simp only[if_true] at h'
 split at h'
 ·injection h' with h';exact h'.symm
 ·cases h'
def j8(L:Nat->Bool)(i j:Nat):Bool:=if j=i then true else L j
theorem JO{V:Vl}{hp:Nat->az}{i:Nat}{da:List Nat}{st:St}{o:Oper}{dy:St}{g:Bool}(g9:jq all k=true)(hi:i<k)(ho:all[i]? = some o)(hr:jm all st o dy g)(s:ie all cd E i da st)
 (cD:cd.ts.length=a.tmps.size) (hL:∀ j,(ff all i).testBit j=true->L j=true)
 (W3:∀ j o d v,j<k->L j=true->all[j]? = some o->o.dst=some d->a.tmps[d]? = some v->S.ok V hp w (Cg E j) v) :
 Region.wanted o (yielded all a.tmps)=g:=by
 obtain⟨o',cm,hg,_⟩:=j_ g9 hi
 rw[ho] at cm;injection cm with cm;subst cm
 unfold jm lA at hr
 unfold Region.wanted
 cases Uj:o.guard with
 | none =>
   rw[Uj] at hr
   simp only at hr
   exact hr.2.symm
 | some gw =>
   obtain⟨j,want⟩:=gw
   obtain⟨Uo,Jc⟩:=hg j want Uj
   rw[Uj] at hr
   simp only[fa,zF] at hr
   cases Up:all[j]? with
   | none =>
     have:all.toList[j]? = none:=by simpa using Up
     rw[this] at hr
     exact hr.elim
   | some oj =>
     have aeB:all.toList[j]? = some oj:=by simpa using Up
     rw[aeB,Option.bind_some] at hr
     cases hd:oj.dst with
     | none=>rw[hd] at hr;exact hr.elim
     | some d =>
       rw[hd] at hr
       simp only at hr
       have slot:∀ sl,nth .any st.ts d=sl->sl ≠ .any->∃ v,a.tmps[d]? = some v/\S.ok V hp w sl v:=by
        intro sl h1 h2
        rw[<-h1] at h2 ⊢
        have aT:d<st.ts.length:=by
         rcases Nat.lt_or_ge d st.ts.length with h|h
         ·exact h
         ·exact absurd (by rw[cT,List.getElem?_eq_none h];rfl) h2
        have zk:d<a.tmps.size:=by rw[<-cD,<-s.len];exact aT
        have hv:a.tmps[d]? = some (a.tmps[d]'zk):=Array.getElem?_eq_getElem zk
        exact⟨_,hv,s.new j oj d Uo Up hd V hp w _ (W3 j oj d _ (by omega) (hL j Jc) Up hd hv)⟩
       have hy:∀ v,a.tmps[d]? = some v->yielded all a.tmps j=match v with | .bool b=>some b|_=>none:=by
        intro v hv
        unfold yielded
        rw[Up,Option.bind_some,hd,Option.bind_some,hv]
        cases v<;>rfl
       simp only
       split at hr
       ·rename_i e
        split at e
        ·rename_i he
         obtain⟨v,h1,h2⟩:=slot _ he (by simp)
         replace h2:v = .bool true:=h2
         rw[hr.2,hy v h1,h2]
         cases want<;>simp_all
        ·rename_i he
         obtain⟨v,h1,h2⟩:=slot _ he (by simp)
         replace h2:v = .bool false:=h2
         rw[hr.2,hy v h1,h2]
         cases want<;>simp_all
        all_goals cases e
       ·rename_i e
        split at e
        ·rename_i he
         obtain⟨v,h1,h2⟩:=slot _ he (by simp)
         replace h2:v = .bool true:=h2
         rw[hr.2,hy v h1,h2]
         cases want<;>simp_all
        ·rename_i he
         obtain⟨v,h1,h2⟩:=slot _ he (by simp)
         replace h2:v = .bool false:=h2
         rw[hr.2,hy v h1,h2]
         cases want<;>simp_all
        ·cases e
        ·rename_i he
         obtain⟨v,h1,h2⟩:=slot _ he (by simp)
         replace h2:v=undef:=h2
         rw[hr.2,hy v h1,h2]
         simp[undef]
        ·cases e
       ·rename_i d' b' adp e
        split at e
        ·split at e<;>cases e
        ·split at e<;>cases e
        ·rename_i b he
         obtain⟨v,h1,h2⟩:=slot _ he (by simp)
         replace h2:v = .bool b:=h2.1
         injection e with e1 e2 e3
         subst e1;subst e2;subst e3
         rw[hr.2,hy v h1,h2]
         cases b<;>cases want<;>rfl
        ·cases e
        ·cases e
       ·exact hr.elim
theorem tu:∀ {k t j:Nat},oQ all t k=some j->j<k/\∃ o,all[j]? = some o/\o.dst=some t
 | 0,t,j,h=>by cases h
 | k+1,t,j,h=>by
   unfold oQ at h
   split at h
   ·rename_i o ho
    split at h
    ·rename_i hd
     injection h with h;subst h
     exact⟨by omega,o,ho,hd⟩
    ·obtain⟨h1,h2⟩:=tu h
     exact⟨by omega,h2⟩
   ·obtain⟨h1,h2⟩:=tu h
    exact⟨by omega,h2⟩
theorem oz:∀ {k t:Nat},oQ all t k=none->∀ j o,j<k->all[j]? = some o->o.dst≠some t
 | 0,t,_,j,o,hj,_=>absurd hj (Nat.not_lt_zero _)
 | k+1,t,h,j,o,hj,ho=>by
   unfold oQ at h
   split at h
   ·rename_i o' cm
    split at h
    ·cases h
    ·rename_i hd
     by_cases hjk:j=k
     ·subst hjk
      rw[ho] at cm;injection cm with cm;subst cm
      exact hd
     ·exact oz h j o (by omega) ho
   ·rename_i hn
    by_cases hjk:j=k
    ·subst hjk
     exact absurd ho (by rw[hn];simp)
    ·exact oz h j o (by omega) ho
theorem T3{V:Vl}{hp:Nat->az}{i:Nat}{da:List Nat}{st:St}(hi:i<=k)(s:ie all cd E i da st)(aT:∀ j,(ff all i).testBit j=true->j<i)
 (cD:cd.ts.length=a.tmps.size) (hL:∀ j,(ff all i).testBit j=true->L j=true)
 (hold:∀(t:Nat) s v,(∀ j o,j<k->all[j]? = some o->o.dst≠some t)->cd.ts[t]? = some s->a.tmps[t]? = some v->S.ok V hp w s v)
 (W3:∀ j o d v,j<k->L j=true->all[j]? = some o->o.dst=some d->a.tmps[d]? = some v->S.ok V hp w (Cg E j) v) (x:Operand) :
 S.ok V hp w (LG all k i st x) (a.eval x):=by
 have abG:∀ t,(∀ s v,st.ts[t]? = some s->a.tmps[t]? = some v->S.ok V hp w s v)->S.ok V hp w (st.eval (.tmp t)) (a.eval (.tmp t)):=by
  intro t h
  show S.ok V hp w (nth .any st.ts t) (a.tmps.getD t undef)
  rw[cT]
  cases hs:st.ts[t]? with
  | none=>trivial
  | some sl =>
    have ht:t<a.tmps.size:=by have:=(List.getElem?_eq_some_iff.1 hs).1;rw[s.len,cD] at this;exact this
    have hv:a.tmps[t]? = some a.tmps[t]:=Array.getElem?_eq_getElem ht
    have:=h sl _ hs hv
    simpa[Array.getD,ht] using this
 cases x with
 | tmp t =>
   unfold LG
   simp only
   split
   ·rename_i j hj
    obtain⟨h1,o,h2,h3⟩:=tu hj
    split
    ·rename_i hm
     refine abG t fun sl v hs hv=>?_
     have:=s.new j o t (aT j hm) h2 h3 V hp w v (W3 j o t v h1 (hL j hm) h2 h3 hv)
     rw[cT,hs] at this
     exact this
    ·trivial
   ·rename_i hn
    refine abG t fun sl v hs hv=>?_
    rw[s.yj t fun j o hj=>oz hn j o (by omega)] at hs
    exact hold t sl v (oz hn) hs hv
 | const v=>exact M8 v
 | global g=>trivial
 | func f=>exact⟨rfl,fun n hn=>by simp at hn⟩
theorem ab3{V:Vl}{i:Nat}{da:List Nat}{st:St}(hi:i<k)(s:ie all cd E i da st)(f:ie all cd E k dk dS)(hL:∀ j,(ff all i).testBit j=true->L j=true)
 (m:Mem base M w0 V (mi cd dk dS L) w):kN V (mi cd dk dS L) (Jq all i (bL cd.hp) da st) w:=by
 intro n hl
 have he:Jq all i (bL cd.hp) da st n=mi cd dk dS L n:=by
  unfold Jq at hl ⊢
  split
  ·rename_i hn
   rw[Zq hn]
   exact s.cE n hn
  ·rename_i hn
   rw[if_neg hn] at hl
   rw[fa] at hl ⊢
   cases hw:da[n-bL cd.hp]? with
   | none=>rw[hw] at hl;cases hl
   | some j =>
     rw[hw] at hl
     simp only at hl ⊢
     split at hl
     ·rename_i hm
      rw[if_pos hm]
      obtain⟨h1,e,q,x,h2,h3,h4,h5⟩:=s.EW _ j hw
      have hx:q.new[x]? = some q.new[x]:=List.getElem?_eq_getElem h5
      obtain⟨h6,h7⟩:=s.news j e q h1 h2 h3
      obtain⟨h8,h9⟩:=f.news j e q (by omega) h2 h3
      have gR:n=bL e.st.hp+x:=by omega
      rw[Hv (j:=j) (by omega) (by rw[gR];exact (h9 x _ hx).1),if_pos (hL j hm),gR,(h7 x _ hx).2,(h9 x _ hx).2]
     ·cases hl
 rw[he]
 exact⟨rfl,m.cE n⟩
theorem MD{i:Nat}{e:kM}{o:Oper}(g9:jq all k=true)(hi:i<k)(he:E[i]? = some e)(ho:all[i]? = some o)(hr:e.r=none)(f:ie all cd E k dk dS)
 (v:Inv base M w0 all k cd E dk dS L a w):Inv base M w0 all k cd E dk dS (j8 L i) (a.put o.dst undef) w:=by
 obtain⟨o',cm,_,d,hd,zg⟩:=j_ g9 hi
 rw[ho] at cm;injection cm with cm;subst cm
 have xY:mi cd dk dS (j8 L i)=mi cd dk dS L:=by
  funext n
  unfold mi
  split
  ·rfl
  ·split
   ·rename_i j hj
    obtain⟨_,e',q,x,h2,h3,_⟩:=f.EW _ j hj
    have:j≠i:=fun h=>by subst h;rw[he] at h2;injection h2 with h2;subst h2;rw[hr] at h3;cases h3
    unfold j8
    rw[if_neg this]
   ·rfl
 obtain⟨V,h1,h2,h3⟩:=v.ex
 rw[hd]
 refine⟨by rw[put_defers];exact v.defers,by rw[v.size];show _=(a.tmps.setIfInBounds d undef).size;simp,⟨V,by rw[xY];exact h1,fun t s v' cR hs hv=>?_,fun j o' d' v' hj hL cm dR hv=>?_⟩,fun j e' q hj hL fG hq=>?_⟩
 ·rw[xY]
  rw[sg (fun e=>by subst e;exact cR i o hi ho hd)] at hv
  exact h2 t s v' cR hs hv
 ·rw[xY]
  by_cases iL:j=i
  ·subst iL
   rw[ho] at cm;injection cm with cm;subst cm
   rw[hd] at dR;injection dR with dR;subst dR
   rw[D1 hv]
   unfold Cg
   rw[he]
   simp only[hr]
   rfl
  ·rw[sg (fun e=>by subst e;exact zg j o' hj iL cm dR)] at hv
   exact h3 j o' d' v' hj (by unfold j8 at hL;rw[if_neg iL] at hL;exact hL) cm dR hv
 ·by_cases iL:j=i
  ·subst iL
   rw[he] at fG;injection fG with fG;subst fG
   rw[hr] at hq;cases hq
  ·exact v.hy j e' q hj (by unfold j8 at hL;rw[if_neg iL] at hL;exact hL) fG hq
theorem UM(hT:cv P T)(hΓ:eI P Γ){i:Nat}{e:kM}{o:Oper}(g9:jq all k=true)(hi:i<k)(he:E[i]? = some e)(ho:all[i]? = some o){q:QR}(hr:e.r=some q)(ep:∀ p,q.ob=some p->p)
 (s:ie all cd E i e.da e.st) (f:ie all cd E k dk dS) (hq:jf T Γ (Jq all i (bL cd.hp) e.da e.st) (bL e.st.hp) (LG all k i e.st) o.op=some q)
 (aT:∀ j,(ff all i).testBit j=true->j<i) (hL:∀ j,(ff all i).testBit j=true->L j=true) (Jf:L i=false)
 (v:Inv base M w0 all k cd E dk dS L a w) (h:∀ u w',Inv base M w0 all k cd E dk dS (j8 L i) (a.put o.dst u) w'->next (a.put o.dst u) w'):o.wp P a w next Q:=by
 obtain⟨o',cm,_,d,hd,zg⟩:=j_ g9 hi
 rw[ho] at cm;injection cm with cm;subst cm
 obtain⟨V,h1,h2,h3⟩:=v.ex
 obtain⟨n1,n2⟩:=f.news i e q hi he hr
 have eZ:∀ j,j<q.new.length->mi cd dk dS L (bL e.st.hp+j) = .dead:=by
  intro j hj
  have hx:q.new[j]? = some q.new[j]:=List.getElem?_eq_getElem hj
  rw[Hv (j:=i) (by omega) (n2 j _ hx).1,Jf]
  rfl
 have xY:ey (mi cd dk dS L) (bL e.st.hp) q.new=mi cd dk dS (j8 L i):=by
  funext n
  rcases iv (mi cd dk dS L) (bL e.st.hp) q.new n with ⟨j,y,k1,k2,k3⟩|⟨k1,k2⟩
  ·rw[k3,Hv (j:=i) (by omega) (by rw[k1];exact (n2 j y k2).1)]
   unfold j8
   rw[if_pos rfl,k1]
   simp only[if_true]
   exact ((n2 j y k2).2).symm
  ·rw[k2]
   unfold mi
   split
   ·rfl
   ·rename_i hn
    split
    ·rename_i j hj
     have:j≠i:=fun iL=>by
      subst iL
      obtain⟨_,e',q',x,g2,g3,g4,g5⟩:=f.EW _ j hj
      rw[he] at g2;injection g2 with g2;subst g2
      rw[hr] at g3;injection g3 with g3;subst g3
      omega
     unfold j8
     rw[if_neg this]
    ·rfl
 refine VA hT hΓ h1 (ab3 hi s f hL h1) (T3 (Nat.le_of_lt hi) s aT v.size hL h2 h3) hq eZ ep (fun u w' V' g=>?_)
 refine h u w' ?_
 rw[hd]
 have gx:=g.vx
 have gm:=g.mem
 have gr:=g.res
 rw[xY] at gx gm gr
 refine⟨by rw[put_defers];exact v.defers,by rw[v.size];show _=(a.tmps.setIfInBounds d u).size;simp,⟨V',gm,fun t s' v' cR hs hv=>?_,fun j o' d' v' hj LV cm dR hv=>?_⟩,fun j e' q' hj LV fG fH=>?_⟩
 ·rw[sg (fun e=>by subst e;exact cR i o hi ho hd)] at hv
  exact S.kt gx (h2 t s' v' cR hs hv)
 ·by_cases iL:j=i
  ·subst iL
   rw[ho] at cm;injection cm with cm;subst cm
   rw[hd] at dR;injection dR with dR;subst dR
   rw[D1 hv]
   unfold Cg
   rw[he]
   simp only[hr]
   exact gr
  ·rw[sg (fun e=>by subst e;exact zg j o' hj iL cm dR)] at hv
   exact S.kt gx (h3 j o' d' v' hj (by unfold j8 at LV;rw[if_neg iL] at LV;exact LV) cm dR hv)
 ·by_cases iL:j=i
  ·subst iL
   rw[he] at fG;injection fG with fG;subst fG
   rw[hr] at fH;injection fH with fH;subst fH
   exact g.hy
  ·exact v.hy j e' q' hj (by unfold j8 at LV;rw[if_neg iL] at LV;exact LV) fG fH
theorem HA(kj:∀ j,j<k->L j=true)(hE:E.length=k)(f:ie all cd E k dk dS)(v:Inv base M w0 all k cd E dk dS L a w):Sat base M w0 dS a w/\P9 E:=by
 obtain⟨V,h1,h2,h3⟩:=v.ex
 have xY:mi cd dk dS L=dS.an:=by
  funext n
  unfold mi
  split
  ·rename_i hn;exact (f.cE n hn).symm
  ·rename_i hn
   split
   ·rename_i j hj
    rw[if_pos (kj j (f.EW _ j hj).1)]
   ·rename_i hj
    have jV:=List.getElem?_eq_none_iff.1 hj
    have gR:=f.names
    show az.dead=nth .dead dS.hp n
    rw[cT,List.getElem?_eq_none (by rw[<-dz];omega)]
    rfl
 rw[xY] at h1 h2 h3
 refine⟨⟨v.defers,V,⟨by rw[f.len];exact v.size,fun t s u hs hu=>?_,h1⟩⟩,fun e he q hq=>?_⟩
 ·by_cases hd:∃ j o,j<k/\all[j]? = some o/\o.dst=some t
  ·obtain⟨j,o,hj,ho,hd⟩:=hd
   have:=f.new j o t hj ho hd V dS.an w u (h3 j o t u hj (kj j hj) ho hd hu)
   rw[cT,hs] at this
   exact this
  ·have cR:∀ j o,j<k->all[j]? = some o->o.dst≠some t:=fun j o hj ho h=>hd ⟨j,o,hj,ho,h⟩
   rw[f.yj t cR] at hs
   exact h2 t s u cR hs hu
 ·obtain⟨j,hj,rfl⟩:=List.mem_iff_getElem.1 he
  exact v.hy j _ q (by omega) (kj j (by omega)) (List.getElem?_eq_getElem hj) hq
end
end Go.SX
