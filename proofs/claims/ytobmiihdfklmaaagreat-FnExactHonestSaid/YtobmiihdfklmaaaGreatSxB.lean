/- A verified symbolic executor and its contracts (part SxB). No condition. -/
import Derived.Test.YtobmiihdfklmaaaGreatSxA
import Derived.Orders
set_option linter.unusedVariables false
set_option linter.unusedSimpArgs false
/- What a write leaves of the symbolic values; rows that are not written any more. No condition. -/
namespace Go.SX
open Go.RowKit
set_option linter.unusedVariables false
set_option linter.unusedSimpArgs false
def bY(f:C->C)(hp:Nat->az)(n:Nat):az:=(hp n).map f
def aG(hp:Nat->az)(m:Nat)(e:az)(n:Nat):az:=if n=m then e else hp n
theorem kx(st:St)(f:C->C):(st.map f).aB=bY f st.aB:=by
 funext n
 show nth .dead (lmap (az.map f) st.hp) n=(nth .dead st.hp n).map f
 rw[cB,cB,bP,List.getElem?_map]
 cases st.hp[n]? <;> rfl
theorem oG{hp:List az}{m:Nat}(hm:m<hp.length)(e:az)(ts:List S):(St.mk ts (b9 hp m e)).aB=aG (fun n=>nth .dead hp n) m e:=by
 funext n
 show nth .dead (b9 hp m e) n=if n=m then e else nth .dead hp n
 rw[cB,cB,eI,List.getElem?_set]
 by_cases h:m=n
 ·subst h;simp[hm]
 ·rw[if_neg h,if_neg (fun h'=>h h'.symm)]
theorem ri{st:St}{n:Nat}(h:(st.aB n).live=true):n<st.hp.length:=by
 have h':(nth .dead st.hp n).live=true:=h
 rw[cB] at h'
 cases hn:st.hp[n]? with
 | none=>rw[hn] at h';cases h'
 | some e=>exact (List.getElem?_eq_some_iff.1 hn).1
section
variable {V V' : Vl} {hp aJ : Nat → az} {w w' : World} {f : C → C}
def mG(V:Vl)(hp:Nat->az)(w:World)(f:C->C)(V':Vl)(aJ:Nat->az)(w':World):Prop:=∀ c v,C.ok V hp w c v->C.ok V' aJ w' (f c) v
theorem mG.all(t:mG V hp w f V' aJ w'){cs:List C}{vs:List Value}(h:br V hp w cs vs):br V' aJ w' (lmap f cs) vs:=by
 rw[bP]
 refine⟨by simp[h.1],fun j c v hc hv=>?_⟩
 rw[List.getElem?_map] at hc
 cases hx:cs[j]? with
 | none=>rw[hx] at hc;cases hc
 | some x=>rw[hx] at hc;simp only[Option.map_some,Option.some.injEq] at hc;subst hc;exact t _ _ (h.2 j x v hx hv)
theorem mG.s(t:mG V hp w f V' aJ w'){s:S}{v:Value}(h:S.ok V hp w s v):S.ok V' aJ w' (S.map f s) v:=by
 cases s with
 | c x=>exact t _ _ h
 | agg cs=>obtain⟨vs,h1,h2⟩:=h;exact⟨vs,h1,t.all h2⟩
 | vl xs =>
   obtain⟨vs,h1,h2,h3⟩:=h
   refine⟨vs,h1,by rw[bP,List.length_map];exact h2,fun j x v hx hv=>?_⟩
   rw[bP,List.getElem?_map] at hx
   cases hy:xs[j]? with
   | none=>rw[hy] at hx;cases hx
   | some y =>
     rw[hy] at hx
     simp only[Option.map_some,Option.some.injEq] at hx
     subst hx
     have:=h3 j y v hy hv
     unfold kb at this ⊢
     simp only
     split
     ·rename_i hb;rw[if_pos hb] at this;obtain⟨us,k1,k2⟩:=this;exact⟨us,k1,t.all k2⟩
     ·rename_i hb;rw[if_neg hb] at this;exact t.all this
 | eP=>exact h
 | arr e xs=>exact S.zN h
 | any=>trivial
theorem wJ{f:C->C}{e:az}(h:(e.map f).eH):e.eH:=by
 cases e with
 | row fr e xs=>exact h
 | _=>exact h.elim
theorem eA{fr:Bool}{e:Ty}{xs:List e.den}(h:(az.row fr e xs).eH):(e.flat||e.bW)=true:=by
 cases fr with
 | false=>exact h
 | true=>exact h.elim
theorem uK{e:az}(h:e.eH):e.live=true:=by
 cases e with
 | row fr e xs=>rfl
 | _=>exact h.elim
theorem DU{f:C->C}(e:az):(e.map f).gJ=e.gJ:=by cases e<;>rfl
theorem sR{f:C->C}(e:az):(e.map f).uI=e.uI:=by cases e<;>rfl
theorem mv(e:az):(e.map f).live=e.live:=by cases e<;>rfl
def xQ(f:C->C):Prop:=∀ c,f c=c\/f c = .any
theorem C.rH(hf:xQ f){c:C}{v:Value}(h:C.ok V hp w c v):C.ok V (bY f hp) w (f c) v:=by
 rcases hf c with e|e
 ·rw[e]
  have ko:∀ {n fr e xs},hp n = .row fr e xs->bY f hp n = .row fr e xs:=fun {n fr e xs} h=>by show (hp n).map f=_;rw[h];rfl
  have jT:∀ {n cs},hp n = .bx cs->∃ cr,bY f hp n = .bx cr:=fun {n cs} h=>⟨lmap f cs,by show (hp n).map f=_;rw[h];rfl⟩
  cases c with
  | own n=>obtain⟨fr,e,xs,h1,h2⟩:=h;exact⟨fr,e,xs,ko h1,h2⟩
  | pre n k=>obtain⟨fr,e,xs,h1,h2⟩:=h;exact⟨fr,e,xs,ko h1,h2⟩
  | eK n e' ys=>obtain⟨⟨fr,e,xs,h1⟩,h2⟩:=h;exact⟨⟨fr,e,xs,ko h1⟩,h2⟩
  | box n off=>obtain⟨h1,h2,cs,h3⟩:=h;exact⟨h1,h2,jT h3⟩
  | jI n len=>obtain⟨cap,h1,h2,cs,h3⟩:=h;exact⟨cap,h1,h2,jT h3⟩
  | dR n i off=>obtain⟨h0,fr,e,xs,h1,h2⟩:=h;exact⟨h0,fr,e,xs,ko h1,h2⟩
  | fn g da=>exact⟨h.1,fun n hn=>⟨(h.2 n hn).1,let ⟨_,cs,h3⟩:=h.2 n hn;jT h3⟩⟩
  | _=>exact h
 ·rw[e];exact C.ec h
theorem az.rH(hf:xQ f){n:Nat}{e:az}(h:e.ok V hp w n):(e.map f).ok V (bY f hp) w n:=by
 cases e with
 | dead=>trivial
 | bx cs=>obtain⟨ay,el,h1,h2⟩:=h;exact⟨ay,el,h1,mG.all (fun c v hc=>C.rH hf hc) h2⟩
 | row fr e xs=>exact h
theorem Rel.kill{base:Nat}{M:LM}{w0:World}{st:St}{ts:Array Value}(hf:xQ f)(r:Rel base M w0 V st ts w):Rel base M w0 V (st.map f) ts w:=by
 have m:=r.mem
 refine⟨by show (lmap _ _).length=_;rw[bP,List.length_map];exact r.len,fun i s v hs hv=>?_,?_⟩
 ·rw[kx]
  have bw:(lmap (S.map f) st.ts)[i]? = some s:=hs
  rw[bP,List.getElem?_map] at bw
  cases hx:st.ts[i]? with
  | none=>rw[hx] at bw;cases bw
  | some x =>
    rw[hx] at bw
    simp only[Option.map_some,Option.some.injEq] at bw
    subst bw
    exact mG.s (fun c v hc=>C.rH hf hc) (r.iM i x v hx hv)
 ·rw[kx]
  refine⟨fun n=>az.rH hf (m.dx n),fun n cs h=>?_,fun n hl=>m.own n (by rw[<-mv (f:=f)];exact hl),fun n e xs h=>?_,fun n n' hl df=>m.fZ n n' (by rw[<-mv (f:=f)];exact hl) (by rw[<-mv (f:=f)];exact df),m.z0,m.z1,m.kept,fun n hl hh=>m.pz n (wJ hl) hh,fun b hb=>⟨by show ((st.aB 0).map f).uI=true;rw[sR];exact (m.oh b hb).1,(m.oh b hb).2⟩,fun n hh i hi=>m.gJ n hh i (by rw[<-DU (f:=f)];exact hi)⟩
  ·have h':(st.aB n).map f = .bx cs:=h
   cases hn:st.aB n with
   | bx cr=>exact m.box n cr hn
   | dead=>rw[hn] at h';cases h'
   | row fr e xs=>rw[hn] at h';cases h'
  ·have h':(st.aB n).map f = .row true e xs:=h
   cases hn:st.aB n with
   | row fr e' bI=>rw[hn] at h';exact m.iZ n e xs (by rw[hn];exact h')
   | dead=>rw[hn] at h';cases h'
   | bx cs=>rw[hn] at h';cases h'
theorem wI(m:Nat):xQ (bQ m):=fun c =>
 match c with
 | .val _=>.inl rfl
 | .fm =>.inl rfl
 | .fe =>.inl rfl
 | .rd _ _ _=>.inl rfl
 | .own n=>if h:n=m then .inr (if_pos h) else .inl (if_neg h)
 | .pre n _=>if h:n=m then .inr (if_pos h) else .inl (if_neg h)
 | .eK n _ _=>if h:n=m then .inr (if_pos h) else .inl (if_neg h)
 | .box _ _=>.inl rfl
 | .jI _ _=>.inl rfl
 | .at_ _ _ _ _=>.inl rfl
 | .dR n _ _=>if h:n=m then .inr (if_pos h) else .inl (if_neg h)
 | .fn _ _=>.inl rfl
 | .bS _ _ _ _=>.inl rfl
 | .rg _ _ _ _ _=>.inl rfl
 | .any =>.inl rfl
theorem FX(m:Nat):xQ (cJ m):=fun c =>
 match c with
 | .val _=>.inl rfl
 | .fm =>.inl rfl
 | .fe =>.inl rfl
 | .rd _ _ _=>.inl rfl
 | .own _=>.inl rfl
 | .pre _ _=>.inl rfl
 | .eK n _ _=>if h:n=m then .inr (if_pos h) else .inl (if_neg h)
 | .box _ _=>.inl rfl
 | .jI _ _=>.inl rfl
 | .at_ _ _ _ _=>.inl rfl
 | .dR _ _ _=>.inl rfl
 | .fn _ _=>.inl rfl
 | .bS _ _ _ _=>.inl rfl
 | .rg _ _ _ _ _=>.inl rfl
 | .any =>.inl rfl
def C.names(m:Nat):C->Bool
 | .own n=>n == m
 | .pre n _=>n == m
 | .eK n _ _=>n == m
 | .dR n _ _=>n == m
 | .box n _=>n == m
 | .jI n _=>n == m
 | .fn _ da=>da.any (· == m)
 | _=>false
def jH(hp:Nat->az)(m:Nat)(n:Nat):az:=if n=m then .dead else hp n
theorem fV{m n:Nat}(h:n≠m):jH hp m n=hp n:=by unfold jH;rw[if_neg h]
theorem C.I0{m:Nat}{c:C}{v:Value}(hn:c.names m=false)(h:C.ok V hp w c v):C.ok V (jH hp m) w c v:=by
 cases c with
 | own n=>obtain⟨fr,e,xs,h1,h2⟩:=h;exact⟨fr,e,xs,by rw[fV (by simpa[C.names] using hn)];exact h1,h2⟩
 | pre n k=>obtain⟨fr,e,xs,h1,h2⟩:=h;exact⟨fr,e,xs,by rw[fV (by simpa[C.names] using hn)];exact h1,h2⟩
 | eK n e' ys=>obtain⟨⟨fr,e,xs,h1⟩,h2⟩:=h;exact⟨⟨fr,e,xs,by rw[fV (by simpa[C.names] using hn)];exact h1⟩,h2⟩
 | box n off=>obtain⟨h1,h2,cs,h3⟩:=h;exact⟨h1,h2,cs,by rw[fV (by simpa[C.names] using hn)];exact h3⟩
 | jI n len=>obtain⟨cap,h1,h2,cs,h3⟩:=h;exact⟨cap,h1,h2,cs,by rw[fV (by simpa[C.names] using hn)];exact h3⟩
 | dR n i off=>obtain⟨h0,fr,e,xs,h1,h2⟩:=h;exact⟨h0,fr,e,xs,by rw[fV (by simpa[C.names] using hn)];exact h1,h2⟩
 | fn g da =>
   refine⟨h.1,fun n hm=>⟨(h.2 n hm).1,?_⟩⟩
   obtain⟨_,cs,h3⟩:=h.2 n hm
   have bo:n≠m:=by
    intro e;subst e
    simp[C.names] at hn
    exact hn n hm rfl
   exact⟨cs,by rw[fV bo];exact h3⟩
 | _=>exact h
def Vl.freeze(V:Vl)(m base:Nat):Vl where
 aI:=V.aI
 has:=V.has
 Z0 b:=V.Z0 b\/(V.has m/\b=V.aI m/\b<base)
 Z1 b:=V.Z1 b\/(V.has m/\b=V.aI m/\base<=b)
theorem Vl.dX{m base:Nat}{fr:Bool}{b:Nat}(h:V.Z fr b):(V.freeze m base).Z fr b:=by
 rcases h with h|⟨h,k⟩
 ·exact .inl (.inl h)
 ·exact .inr ⟨h,.inl k⟩
theorem Vl.sE{m base:Nat}(hh:V.has m):(V.freeze m base).Z false (V.aI m):=by
 rcases Nat.lt_or_ge (V.aI m) base with h|h
 ·exact .inr ⟨rfl,.inr ⟨hh,rfl,h⟩⟩
 ·exact .inl (.inr ⟨hh,rfl,h⟩)
theorem Vl.FU{m base:Nat}(hh:V.has m)(h:base<=V.aI m):(V.freeze m base).Z true (V.aI m):=.inl (.inr ⟨hh,rfl,h⟩)
theorem Vl.Dq{m base:Nat}{fr:Bool}{b:Nat}(h:(V.freeze m base).Z fr b):V.Z fr b\/(V.has m/\b=V.aI m):=by
 rcases h with (h|⟨h1,h2,_⟩)|⟨h,k|⟨h1,h2,_⟩⟩
 ·exact .inl (.inl h)
 ·exact .inr ⟨h1,h2⟩
 ·exact .inl (.inr ⟨h,k⟩)
 ·exact .inr ⟨h1,h2⟩
theorem VX.freeze(m base:Nat):VX V (jH hp m) w (V.freeze m base) (jH hp m) w :=
 ⟨fun _ _=>⟨rfl,Iff.rfl,rfl⟩,fun _ h=>.inl h,fun _ h=>.inl h,fun _ _=>rfl,fun _ _ _=>rfl⟩
theorem uv{base m:Nat}{fr:Bool}{e:Ty}{xs:List e.den}(hm:hp m = .row fr e xs)(fv:(az.row fr e xs).ok V hp w m)(j_:fr=true->V.has m->base<=V.aI m) :
 mG V hp w (db m fr e xs) (V.freeze m base) (aG (bY (db m fr e xs) hp) m .dead) w:=by
 have hz:∀ b,(V.Z fr b\/(V.has m/\b=V.aI m))->(V.freeze m base).Z fr b:=by
  intro b hb
  rcases hb with hb|⟨h1,h2⟩
  ·exact Vl.dX hb
  ·subst h2
   cases fr with
   | false=>exact Vl.sE h1
   | true=>exact Vl.FU h1 (j_ rfl h1)
 have bo:∀ {n},n≠m->∀ {aW e' bI},hp n = .row aW e' bI->aG (bY (db m fr e xs) hp) m .dead n = .row aW e' bI:=by
  intro n hn aW e' bI h
  show (if n=m then _ else (hp n).map _)=_
  rw[if_neg hn,h];rfl
 have jT:∀ {n cs},hp n = .bx cs->∃ cr,aG (bY (db m fr e xs) hp) m .dead n = .bx cr:=by
  intro n cs h
  have hn:n≠m:=fun e=>by subst e;rw[hm] at h;cases h
  exact⟨_,by show (if n=m then _ else (hp n).map _)=_;rw[if_neg hn,h];rfl⟩
 intro c v h
 cases c with
 | own n =>
   obtain⟨aW,e',bI,h1,h2⟩:=h
   by_cases hn:n=m
   ·subst hn
    rw[hm] at h1
    injection h1 with e1 e2 e3
    subst e1;subst e2;cases e3
    simp only[db,if_true]
    have:=vd fv h2 (Nat.le_refl _)
    rw[List.take_length] at this
    exact this.mono hz (fun _ _=>rfl)
   ·simp only[db,if_neg hn]
    exact⟨aW,e',bI,bo hn h1,h2⟩
 | pre n k =>
   obtain⟨aW,e',bI,h1,h3,h2⟩:=h
   by_cases hn:n=m
   ·subst hn
    rw[hm] at h1
    injection h1 with e1 e2 e3
    subst e1;subst e2;cases e3
    simp only[db,if_true]
    exact (vd fv h2 h3).mono hz (fun _ _=>rfl)
   ·simp only[db,if_neg hn]
    exact⟨aW,e',bI,bo hn h1,h3,h2⟩
 | eK n e' ys =>
   obtain⟨⟨aW,e2,bI,h1⟩,h2⟩:=h
   by_cases hn:n=m
   ·subst hn
    simp only[db,if_true]
    exact h2.mono (fun b hb=>hb.elim (fun h=>Vl.dX h) (fun⟨k1,k2⟩=>by subst k2;exact Vl.sE k1)) (fun _ _=>rfl)
   ·simp only[db,if_neg hn]
    exact⟨⟨aW,e2,bI,bo hn h1⟩,h2.mono (fun b hb=>hb.elim (fun h=>.inl (Vl.dX h)) .inr) (fun _ _=>rfl)⟩
 | dR n i off =>
   obtain⟨h0,aW,e',bI,h1,h2,h3⟩:=h
   by_cases hn:n=m
   ·subst hn
    rw[hm] at h1
    injection h1 with e1 e2 e3
    subst e1;subst e2;cases e3
    simp only[db,if_true]
    obtain⟨es,k1,k2,k3⟩:=E4 fv h0 h2
    refine⟨V.aI n,i*e.size,h3,hz _ (.inr ⟨h0,rfl⟩),es,k1,fun j hj=>k2 j _ (List.getElem?_eq_getElem hj),k3.mono (fun b hb=>hz b (.inl hb)) (fun _ _=>rfl)⟩
   ·simp only[db,if_neg hn]
    exact⟨h0,aW,e',bI,bo hn h1,h2,h3⟩
 | box n off=>obtain⟨h1,h2,cs,h3⟩:=h;exact⟨h1,h2,jT h3⟩
 | jI n len=>obtain⟨cap,h1,h2,cs,h3⟩:=h;exact⟨cap,h1,h2,jT h3⟩
 | fn g da=>exact⟨h.1,fun n hn=>⟨(h.2 n hn).1,let ⟨_,cs,h3⟩:=h.2 n hn;jT h3⟩⟩
 | rd aW e' ys =>
   have h':aH (V.Z aW) w (.sl e') [v] ys:=h
   exact h'.mono (fun b hb=>Vl.dX hb) (fun _ _=>rfl)
 | bS aW f t d =>
   have h':aH (V.Z aW) w (.bS f t) [v] d:=h
   exact h'.mono (fun b hb=>Vl.dX hb) (fun _ _=>rfl)
 | rg aW wh e' b ys =>
   have h':aH (V.Z aW) w (.gs wh e') [v] (b,ys):=h
   exact h'.mono (fun b hb=>Vl.dX hb) (fun _ _=>rfl)
 | at_ aW t d off =>
   obtain⟨b,o,h1,h2,es,h3,h4,h5⟩:=h
   exact⟨b,o,h1,Vl.dX h2,es,h3,h4,h5.mono (fun b hb=>Vl.dX hb) (fun _ _=>rfl)⟩
 | val u=>exact h
 | fm=>exact h
 | fe=>exact h
 | any=>exact h
theorem Rel.Ht{base:Nat}{M:LM}{w0:World}{st:St}{ts:Array Value}(r:Rel base M w0 V st ts w){m:Nat}{fr:Bool}{e:Ty}{xs:List e.den}(hm:st.aB m = .row fr e xs){g:C->C}
 (tn:mG V st.aB w g (V.freeze m base) (aG (bY g st.aB) m .dead) w) :
 Rel base M w0 (V.freeze m base) { (st.map g) with hp:=b9 (st.map g).hp m .dead } ts w:=by
 have mm:=r.mem
 have j_:fr=true->V.has m->base<=V.aI m:=fun hf hh=>by subst hf;exact mm.iZ m e xs hm hh
 have aK:m<st.hp.length:=ri (by rw[hm];rfl)
 have gH:(St.mk (st.map (g)).ts (b9 (st.map (g)).hp m .dead)).aB=aG (bY (g) st.aB) m .dead:=by
  rw[oG (by show m<(lmap _ _).length;rw[bP,List.length_map];exact aK)]
  congr 1
  exact kx st _
 have j9:∀ n,(aG (bY (g) st.aB) m .dead n).live=true->n≠m/\(st.aB n).live=true:=by
  intro n hl
  by_cases hn:n=m
  ·subst hn;simp[aG,az.live] at hl
  ·refine⟨hn,?_⟩
   simp only[aG,if_neg hn] at hl
   rw[<-mv (f:=g)];exact hl
 have sL:∀ n,n≠m->aG (bY (g) st.aB) m .dead n=(st.aB n).map (g):=fun n hn=>by simp only[aG,if_neg hn];rfl
 refine⟨by show (lmap _ _).length=_;rw[bP,List.length_map];exact r.len,fun i s v hs hv=>?_,?_⟩
 ·rw[gH]
  have bw:(lmap (S.map (g)) st.ts)[i]? = some s:=hs
  rw[bP,List.getElem?_map] at bw
  cases hx:st.ts[i]? with
  | none=>rw[hx] at bw;cases bw
  | some x =>
    rw[hx] at bw
    simp only[Option.map_some,Option.some.injEq] at bw
    subst bw
    exact tn.s (r.iM i x v hx hv)
 ·rw[gH]
  refine⟨fun n=>?_,fun n cs h=>?_,fun n hl hh=>?_,fun n e' bI h hh=>?_,fun n n' hl df hh nW he=>?_,fun b hb=>?_,fun b hb=>?_,mm.kept,fun n hl hh=>?_,fun b hb=>?_,fun n hh i hi=>?_⟩
  ·by_cases hn:n=m
   ·subst hn;simp only[aG,if_true];trivial
   ·rw[sL n hn]
    have h1:=mm.dx n
    cases bo:st.aB n with
    | dead=>trivial
    | bx cs =>
      rw[bo] at h1
      obtain⟨ay,el,h2,h3⟩:=h1
      exact⟨ay,el,h2,tn.all h3⟩
    | row aW e' bI =>
      rw[bo] at h1
      rcases h1 with h2|⟨h2,ay,el,h3,h4,h5⟩
      ·exact .inl h2
      ·refine .inr ⟨h2,ay,el,h3,h4,fun i hi=>?_⟩
       obtain⟨es,k1,k2,k3⟩:=h5 i hi
       exact⟨es,k1,k2,k3.mono (fun b hb=>Vl.dX hb) (fun _ _=>rfl)⟩
  ·obtain⟨hn,_⟩:=j9 n (by rw[h];rfl)
   rw[sL n hn] at h
   cases bo:st.aB n with
   | bx cr=>exact mm.box n cr bo
   | dead=>rw[bo] at h;cases h
   | row aW e' bI=>rw[bo] at h;cases h
  ·obtain⟨hn,df⟩:=j9 n hl
   obtain⟨k1,k2,k3⟩:=mm.own n df hh
   refine⟨k1,k2,fun hz=>?_⟩
   rcases Vl.Dq hz with hz|⟨h1,h2⟩
   ·exact k3 hz
   ·exact hn (mm.fZ n m df (by rw[hm];rfl) hh h1 h2)
  ·obtain⟨hn,_⟩:=j9 n (by rw[h];rfl)
   rw[sL n hn] at h
   cases bo:st.aB n with
   | row aW e2 lO=>rw[bo] at h;exact mm.iZ n e' bI (by rw[bo];exact h) hh
   | dead=>rw[bo] at h;cases h
   | bx cs=>rw[bo] at h;cases h
  ·exact mm.fZ n n' (j9 n hl).2 (j9 n' df).2 hh nW he
  ·rcases hb with hb|⟨h1,h2,hb⟩
   ·exact mm.z0 b hb
   ·refine⟨hb,?_⟩
    rcases (mm.own m (by rw[hm];rfl) h1).1 with h3|h3
    ·omega
    ·rw[h2];exact M.sub _ h3
  ·rcases hb with hb|⟨h1,h2,h3⟩
   ·exact mm.z1 b hb
   ·exact⟨h3,by rw[h2];exact (mm.own m (by rw[hm];rfl) h1).2.1⟩
  ·obtain⟨hn,_⟩:=j9 n (uK hl)
   rw[sL n hn] at hl
   exact mm.pz n (wJ hl) hh
  ·obtain⟨q1,q2⟩:=mm.oh b hb
   have hn:0≠m:=fun e=>by subst e;rw[hm] at q1;cases q1
   rw[sL 0 hn,sR]
   exact⟨q1,q2⟩
  ·by_cases hn:n=m
   ·subst hn
    simp only[aG,if_true] at hi
    cases hi
   ·rw[sL n hn,DU] at hi
    exact mm.gJ n hh i hi
theorem Rel.Hu{base:Nat}{M:LM}{w0:World}{st:St}{ts:Array Value}(r:Rel base M w0 V st ts w)(m:Nat):∃ V',Rel base M w0 V' (st.freeze m) ts w/\V'.aI=V.aI/\V'.has=V.has/\∀ fr b,V.Z fr b->V'.Z fr b:=by
 unfold St.freeze
 cases hm:st.aB m with
 | dead=>exact⟨V,r,rfl,rfl,fun _ _ h=>h⟩
 | bx cs=>exact⟨V,r,rfl,rfl,fun _ _ h=>h⟩
 | row fr e xs =>
   simp only
   have mm:=r.mem
   have fv:=mm.dx m
   rw[hm] at fv
   have j_:fr=true->V.has m->base<=V.aI m:=fun hf hh=>by subst hf;exact mm.iZ m e xs hm hh
   exact⟨V.freeze m base,r.Ht hm (uv (base:=base) hm fv j_),rfl,rfl,fun _ _ h=>Vl.dX h⟩
theorem Rel.freeze{base:Nat}{M:LM}{w0:World}{st:St}{ts:Array Value}(r:Rel base M w0 V st ts w)(m:Nat):∃ V',Rel base M w0 V' (st.freeze m) ts w:=by
 obtain⟨V',h,_⟩:=r.Hu m
 exact⟨V',h⟩
theorem Rel.Dr{base:Nat}{M:LM}{w0:World}{ts:Array Value}:∀(ns:List Nat) {V:Vl} {st:St},Rel base M w0 V st ts w->∃ V',Rel base M w0 V' (st.gF ns) ts w/\V'.aI=V.aI/\V'.has=V.has/\∀ fr b,V.Z fr b->V'.Z fr b
 | [],V,st,r=>⟨V,r,rfl,rfl,fun _ _ h=>h⟩
 | n::ns,V,st,r=>by
   obtain⟨V1,r1,h1,h2,h3⟩:=r.Hu n
   obtain⟨V2,r2,g1,g2,g3⟩:=Rel.Dr ns r1
   exact⟨V2,r2,g1.trans h1,g2.trans h2,fun fr b h=>g3 fr b (h3 fr b h)⟩
theorem Rel.gF{base:Nat}{M:LM}{w0:World}{ts:Array Value}:∀(ns:List Nat) {V:Vl} {st:St},Rel base M w0 V st ts w->∃ V',Rel base M w0 V' (st.gF ns) ts w
 | [],V,st,r=>⟨V,r⟩
 | n::ns,V,st,r=>by obtain⟨V',r'⟩:=r.freeze n;exact Rel.gF ns r'
end
end Go.SX
/- Stores and appends. No condition. -/
namespace Go.SX
open Go.RowKit
set_option linter.unusedVariables false
set_option linter.unusedSimpArgs false
section
variable {P : Program} {T : bT} {base : Nat} {M : LM} {w0 : World} {V : Vl} {hp : Nat → az} {w : World} {a : Act} {next : Act → World → Prop} {Q : Exit → Act → World → Prop}
theorem fE(w:World)(g k:Nat)(cs:Array Value)(h:k≠g):(w.setRow g cs).heap[k]? = w.heap[k]? := by
 simp only[World.setRow,Array.getElem?_modify]
 rw[if_neg (fun e=>h e.symm)]
theorem setRow_size(w:World)(g:Nat)(cs:Array Value):(w.setRow g cs).heap.size=w.heap.size:=by simp[World.setRow]
structure Wr (V:Vl) (hp:Nat->az) (w:World) (m:Nat) (aJ:Nat->az) (w':World):Prop where
 Od:∀ n,n≠m->aJ n=hp n
 aI:∀ b,b≠V.aI m->w'.heap[b]? = w.heap[b]?
 has:V.has m
 kind:(∃ cs cr,hp m = .bx cs/\aJ m = .bx cr) ∨
  (∃ fr aW e,∃ xs bI:List e.den,hp m = .row fr e xs/\aJ m = .row aW e bI/\xs.length=bI.length ∧
    ∃ ay cS el kW,w.heap[V.aI m]? = some (.cells ay el (0,0))/\w'.heap[V.aI m]? = some (.cells cS kW (0,0))/\ay.size=cS.size)
theorem Wr.z{aJ:Nat->az}{w':World}{m:Nat}(k:Wr V hp w m aJ w')(mm:Mem base M w0 V hp w){fr:Bool}{b:Nat}(h:V.Z fr b):w'.heap[b]? = w.heap[b]? := by
 have hl:(hp m).live=true:=by rcases k.kind with ⟨cs,_,h,_⟩|⟨_,_,_,_,_,h,_⟩<;>rw[h]<;>rfl
 exact k.aI b fun e=>by subst e;exact (mm.own m hl k.has).2.2 (Vl.eD h)
theorem Wr.row{aJ:Nat->az}{w':World}{m:Nat}(k:Wr V hp w m aJ w')(mm:Mem base M w0 V hp w){n h:Nat}{fr:Bool}{e:Ty}{xs:List e.den}{v:Value}(hn:hp n = .row fr e xs)(hr:dT V w n e h v) :
 ∃ aW,∃ bI:List e.den,aJ n = .row aW e bI/\bI.length=xs.length/\dT V w' n e h v:=by
 by_cases Qn:n=m
 ·subst Qn
  rcases k.kind with ⟨cs,_,h1,_⟩|⟨RZ,pV,e',SH,lO,h1,h2,h3,ay,cS,el,Tk,h4,h5,h6⟩
  ·rw[hn] at h1;cases h1
  ·rw[hn] at h1
   injection h1 with e1 e2 e3
   subst e1;subst e2;cases e3
   refine⟨pV,lO,h2,h3.symm,?_⟩
   rcases hr with ⟨q1,q2,q3⟩|⟨q1,cap,v1,Hr,q2,q3,q4,q5⟩
   ·exact .inl ⟨q1,q2,q3⟩
   ·rw[h4] at q3
    injection q3 with q3
    injection q3 with g1 g2 g3
    subst g1
    exact .inr ⟨q1,cap,cS,Tk,q2,h5,by rw[<-h6];exact q4,q5⟩
 ·refine⟨fr,xs,(k.Od n Qn).trans hn,rfl,?_⟩
  rcases hr with ⟨q1,q2,q3⟩|⟨q1,cap,v1,Hr,q2,q3,q4,q5⟩
  ·exact .inl ⟨q1,q2,q3⟩
  ·have hl:(hp m).live=true:=by rcases k.kind with ⟨cs,_,h,_⟩|⟨_,_,_,_,_,h,_⟩<;>rw[h]<;>rfl
   exact .inr ⟨q1,cap,v1,Hr,q2,by rw[k.aI _ (fun e=>Qn (mm.fZ n m (by rw[hn];rfl) hl q1 k.has e))];exact q3,q4,q5⟩
theorem Wr.ok{aJ:Nat->az}{w':World}{m:Nat}(k:Wr V hp w m aJ w')(mm:Mem base M w0 V hp w){c:C}{v:Value}(h:C.ok V hp w c v)(hb:∀ e xs,c ≠ .eK m e xs):C.ok V aJ w' c v:=by
 have hl:(hp m).live=true:=by rcases k.kind with ⟨cs,_,h,_⟩|⟨_,_,_,_,_,h,_⟩<;>rw[h]<;>rfl
 have fg:∀ {fr:Bool} {t:Ty} {cs:List Value} {d:t.den},aH (V.Z fr) w t cs d->aH (V.Z fr) w' t cs d:=fun h=>h.mono (fun _ h=>h) (fun b hb=>k.z mm hb)
 have jT:∀ {n cs},hp n = .bx cs->∃ cr,aJ n = .bx cr:=by
  intro n cs h
  by_cases hn:n=m
  ·subst hn
   rcases k.kind with ⟨_,cr,_,h2⟩|⟨_,_,_,_,_,h1,_⟩
   ·exact⟨cr,h2⟩
   ·rw[h] at h1;cases h1
  ·exact⟨cs,(k.Od n hn).trans h⟩
 cases c with
 | val u=>exact h
 | fm=>exact h
 | fe=>exact h
 | any=>exact h
 | rd fr e xs=>exact fg (t:=.sl e) h
 | bS fr f t d=>exact fg (t:=.bS f t) h
 | rg fr wh e b xs=>exact fg (t:=.gs wh e) h
 | own n =>
   obtain⟨fr,e,xs,h1,h2⟩:=h
   obtain⟨aW,bI,h3,h4,h5⟩:=k.row mm h1 h2
   exact⟨aW,e,bI,h3,by rw[h4];exact h5⟩
 | pre n j =>
   obtain⟨fr,e,xs,h1,h6,h2⟩:=h
   obtain⟨aW,bI,h3,h4,h5⟩:=k.row mm h1 h2
   exact⟨aW,e,bI,h3,by rw[h4];exact h6,h5⟩
 | eK n e xs =>
   obtain⟨⟨fr,e',ys,h1⟩,h2⟩:=h
   have hn:n≠m:=fun e'=>by subst e';exact hb e xs rfl
   refine⟨⟨fr,e',ys,(k.Od n hn).trans h1⟩,h2.mono (fun _ h=>h) (fun b fu=>?_)⟩
   rcases fu with hz|⟨q1,q2⟩
   ·exact k.z mm hz
   ·exact k.aI b fun e=>hn (mm.fZ n m (by rw[h1];rfl) hl q1 k.has (by rw[<-q2,e]))
 | box n off=>obtain⟨h1,h2,cs,h3⟩:=h;exact⟨h1,h2,jT h3⟩
 | jI n len=>obtain⟨cap,h1,h2,cs,h3⟩:=h;exact⟨cap,h1,h2,jT h3⟩
 | at_ fr t d off =>
   obtain⟨b,o,h1,h2,es,h3,h4,h5⟩:=h
   exact⟨b,o,h1,h2,es,h3,h_ (k.z mm h2) h4,fg h5⟩
 | dR n i off =>
   obtain⟨h0,fr,e,xs,h1,h2,h3⟩:=h
   by_cases hn:n=m
   ·subst hn
    rcases k.kind with ⟨cs,_,q1,_⟩|⟨RZ,pV,e',SH,lO,q1,q2,q3,_⟩
    ·rw[h1] at q1;cases q1
    ·rw[h1] at q1
     injection q1 with e1 e2 e3
     subst e1;subst e2;cases e3
     exact⟨h0,pV,e,lO,q2,by rw[<-q3];exact h2,h3⟩
   ·exact⟨h0,fr,e,xs,(k.Od n hn).trans h1,h2,h3⟩
 | fn f da=>exact⟨h.1,fun n hn=>⟨(h.2 n hn).1,let ⟨_,cs,h3⟩:=h.2 n hn;jT h3⟩⟩
def Nw(m:Nat)(c:C):Prop:=∀ e xs,c ≠ .eK m e xs
theorem sV{aJ:Nat->az}{w':World}{m:Nat}(k:Wr V hp w m aJ w')(mm:Mem base M w0 V hp w){cs:List C}{vs:List Value}(h:br V hp w cs vs)(hb:∀ c∈cs,Nw m c):br V aJ w' cs vs :=
 ⟨h.1,fun j c v hc hv=>k.ok mm (h.2 j c v hc hv) (hb c (List.mem_of_getElem? hc))⟩
theorem Ta{aJ:Nat->az}{w':World}{m:Nat}(k:Wr V hp w m aJ w')(mm:Mem base M w0 V hp w){s:S}{v:Value}(h:S.ok V hp w (S.map (cJ m) s) v):S.ok V aJ w' (S.map (cJ m) s) v:=by
 have hk:∀ c,Nw m (cJ m c):=by
  intro c e xs he
  cases c<;>simp only[cJ] at he<;>first|(cases he;done)|skip
  split at he
  ·cases he
  ·rename_i hn;injection he with h1;exact hn h1
 have iG:∀ cs:List C,∀ c∈lmap (cJ m) cs,Nw m c:=by
  intro cs c hc
  rw[bP,List.mem_map] at hc
  obtain⟨x,_,rfl⟩:=hc
  exact hk x
 cases s with
 | c x=>exact k.ok mm h (hk x)
 | agg cs=>obtain⟨vs,h1,h2⟩:=h;exact⟨vs,h1,sV k mm h2 (iG cs)⟩
 | vl xs =>
   obtain⟨vs,h1,h2,h3⟩:=h
   refine⟨vs,h1,h2,fun j y v hy hv=>?_⟩
   have h4:=h3 j y v hy hv
   rw[bP,List.getElem?_map] at hy
   cases hx:xs[j]? with
   | none=>rw[hx] at hy;cases hy
   | some x =>
     rw[hx] at hy
     simp only[Option.map_some,Option.some.injEq] at hy
     subst hy
     unfold kb at h4 ⊢
     simp only at h4 ⊢
     split
     ·rename_i hb;rw[if_pos hb] at h4;obtain⟨us,k1,k2⟩:=h4;exact⟨us,k1,sV k mm k2 (iG x.2)⟩
     ·rename_i hb;rw[if_neg hb] at h4;exact sV k mm h4 (iG x.2)
 | eP=>exact h
 | any=>trivial
 | arr e xs=>exact S.zN h
theorem Bz{st:St}{ts:Array Value}(r:Rel base M w0 V st ts w){m:Nat}{e':az}{w':World}(k:Wr V st.aB w m (aG st.aB m e') w')(j9:e'.live=true)
 (pv:Kept base M w0 w') (ck:w'.heap.size=w.heap.size) (fv:e'.ok V (aG (bY (cJ m) st.aB) m e') w' m) (j_:∀ e xs,e' = .row true e xs->base<=V.aI m) (jT:∀ cs,e' = .bx cs->V.has m) (IH:e'.eH->M.nm (V.aI m) m) (II:V.has m->∀ i∈e'.gJ,m=0->M i) :
 Rel base M w0 V { (st.map (cJ m)) with hp:=b9 (st.map (cJ m)).hp m e' } ts w':=by
 have r1:=r.kill (FX m)
 have mm:=r1.mem
 have hl:(st.aB m).live=true:=by rcases k.kind with ⟨cs,_,h,_⟩|⟨_,_,_,_,_,h,_⟩<;>rw[h]<;>rfl
 have aK:m<st.hp.length:=ri hl
 have gH:(St.mk (st.map (cJ m)).ts (b9 (st.map (cJ m)).hp m e')).aB=aG (bY (cJ m) st.aB) m e':=by
  rw[oG (by show m<(lmap _ _).length;rw[bP,List.length_map];exact aK)]
  congr 1
  exact kx st _
 rw[kx] at mm
 have k':Wr V (bY (cJ m) st.aB) w m (aG (bY (cJ m) st.aB) m e') w':=by
  refine⟨fun n hn=>by simp only[aG,if_neg hn],k.aI,k.has,?_⟩
  rcases k.kind with ⟨cs,cr,h1,h2⟩|⟨fr,aW,e,xs,bI,h1,h2,h3⟩
  ·refine .inl ⟨lmap (cJ m) cs,cr,by show (st.aB m).map _=_;rw[h1];rfl,?_⟩
   simp only[aG,if_true] at h2 ⊢;exact h2
  ·refine .inr ⟨fr,aW,e,xs,bI,by show (st.aB m).map _=_;rw[h1];rfl,?_,h3⟩
   simp only[aG,if_true] at h2 ⊢;exact h2
 have gG:∀ n,(aG (bY (cJ m) st.aB) m e' n).live=true->(bY (cJ m) st.aB n).live=true:=by
  intro n h
  by_cases hn:n=m
  ·subst hn;show ((st.aB n).map _).live=true;rw[mv];exact hl
  ·simp only[aG,if_neg hn] at h;exact h
 refine⟨r1.len,fun i s v hs hv=>?_,?_⟩
 ·rw[gH]
  have h0:=r1.iM i s v hs hv
  rw[kx] at h0
  have bw:(lmap (S.map (cJ m)) st.ts)[i]? = some s:=hs
  rw[bP,List.getElem?_map] at bw
  cases hx:st.ts[i]? with
  | none=>rw[hx] at bw;cases bw
  | some x =>
    rw[hx] at bw
    simp only[Option.map_some,Option.some.injEq] at bw
    subst bw
    exact Ta k' mm h0
 ·rw[gH]
  refine⟨fun n=>?_,fun n cs h=>?_,fun n df hh=>?_,fun n e xs h hh=>?_,fun n n' h1 h2 hh nW he=>mm.fZ n n' (gG n h1) (gG n' h2) hh nW he,mm.z0,fun b hb=>?_,pv,fun n df hh=>?_,fun b hb=>?_,fun n hh i hi=>?_⟩
  ·by_cases hn:n=m
   ·subst hn
    have:aG (bY (cJ n) st.aB) n e' n=e':=by simp only[aG,if_true]
    rw[this];exact fv
   ·have hv:aG (bY (cJ m) st.aB) m e' n=(st.aB n).map (cJ m):=by simp only[aG,if_neg hn];rfl
    have h1:=mm.dx n
    rw[hv]
    have ux:((st.aB n).map (cJ m)).ok V (bY (cJ m) st.aB) w n:=h1
    cases bo:st.aB n with
    | dead=>trivial
    | bx cs =>
      rw[bo] at ux
      obtain⟨ay,el,h2,h3⟩:=ux
      have IF:V.has n:=r.mem.box n cs bo
      refine⟨ay,el,?_,?_⟩
      ·rw[k.aI _ (fun e=>hn (r.mem.fZ n m (by rw[bo];rfl) hl IF k.has e))];exact h2
      ·refine sV k' mm h3 (fun c hc=>?_)
       rw[bP,List.mem_map] at hc
       obtain⟨x,_,rfl⟩:=hc
       intro e xs he
       cases x<;>simp only[cJ] at he<;>first|(cases he;done)|skip
       split at he
       ·cases he
       ·rename_i iU;injection he with h1;exact iU h1
    | row fr e xs =>
      rw[bo] at ux
      rcases ux with h2|⟨h2,ay,el,h3,h4,h5⟩
      ·exact .inl h2
      ·refine .inr ⟨h2,ay,el,?_,h4,fun i hi=>?_⟩
       ·rw[k.aI _ (fun e=>hn (r.mem.fZ n m (by rw[bo];rfl) hl h2 k.has e))];exact h3
       ·obtain⟨es,q1,q2,q3⟩:=h5 i hi
        exact⟨es,q1,q2,q3.mono (fun _ h=>h) (fun b hb=>k'.z mm hb)⟩
  ·by_cases hn:n=m
   ·subst hn
    have:aG (bY (cJ n) st.aB) n e' n=e':=by simp only[aG,if_true]
    rw[this] at h
    exact jT cs h
   ·simp only[aG,if_neg hn] at h
    exact mm.box n cs h
  ·rw[ck]
   exact mm.own n (gG n df) hh
  ·by_cases hn:n=m
   ·subst hn
    have:aG (bY (cJ n) st.aB) n e' n=e':=by simp only[aG,if_true]
    rw[this] at h
    exact j_ e xs h
   ·simp only[aG,if_neg hn] at h
    exact mm.iZ n e xs h hh
  ·rw[ck];exact mm.z1 b hb
  ·by_cases hn:n=m
   ·subst hn
    simp only[aG,if_true] at df
    exact IH df
   ·simp only[aG,if_neg hn] at df
    exact mm.pz n df hh
  ·obtain⟨q1,q2⟩:=mm.oh b hb
   refine⟨?_,q2⟩
   by_cases hn:0=m
   ·subst hn
    simp only[aG,if_true]
    rcases k.kind with ⟨cs,cr,h1,h2⟩|⟨fr,aW,e,xs,bI,h1,h2,h3⟩
    ·simp only[aG,if_true] at h2
     rw[h2];rfl
    ·have Ss:((st.aB 0).map (cJ 0)).uI=true:=q1
     rw[sR,h1] at Ss
     cases Ss
   ·simp only[aG,if_neg hn]
    exact q1
  ·by_cases hn:n=m
   ·subst hn
    simp only[aG,if_true] at hi
    exact II hh i hi
   ·simp only[aG,if_neg hn] at hi
    exact mm.gJ n hh i hi
theorem qO(k:Kept base M w0 w){g:Nat}(hg:base<=g\/M g)(cs:Array Value)(hs:∀ ay el,w.heap[g]? = some (.cells ay el (0,0))->cs.size=ay.size):Kept base M w0 (w.setRow g cs) where
 os:=k.os
 tape:=k.tape
 output:=k.output
 size:=by rw[setRow_size];exact k.size
 block b hb hm:=by
  rw[fE w g b cs (fun e=>by subst e;rcases hg with h|h;exact absurd hb (by omega);exact hm h)]
  exact k.block b hb hm
 shape b ay el hb hm hv:=by
  obtain⟨cS,kW,h1,h2⟩:=k.shape b ay el hb hm hv
  by_cases KB:b=g
  ·subst KB
   exact⟨cs,kW,setRow_heap w b cS cs kW (0,0) h1,by rw[hs _ _ h1,h2]⟩
  ·exact⟨cS,kW,by rw[fE w g b cs KB];exact h1,h2⟩
end
end Go.SX
/- Stores, literals of what the call owns. No condition. -/
namespace Go.SX
open Go.RowKit
set_option linter.unusedVariables false
set_option linter.unusedSimpArgs false
section
variable {P : Program} {T : bT} {base : Nat} {M : LM} {w0 : World} {V : Vl} {w : World} {a : Act} {next : Act → World → Prop} {Q : Exit → Act → World → Prop}
theorem B9{st:St}{ts:Array Value}(r:Rel base M w0 V st ts w){m:Nat}{cs cr:List C}{w':World}(hm:st.aB m = .bx cs)(pq:∀ b,b≠V.aI m->w'.heap[b]? = w.heap[b]?)
 (pv:Kept base M w0 w') (ck:w'.heap.size=w.heap.size) {ay:Array Value} {el:TypeId} (hc:w'.heap[V.aI m]? = some (.cells ay el (0,0))) (fv:br V st.aB w cr ay.toList) :
 Rel base M w0 V { st with hp:=b9 st.hp m (.bx cr) } ts w':=by
 have mm:=r.mem
 have hl:(st.aB m).live=true:=by rw[hm];rfl
 have gH:(St.mk st.ts (b9 st.hp m (.bx cr))).aB=aG st.aB m (.bx cr):=oG (ri hl) _ _
 have k:Wr V st.aB w m (aG st.aB m (.bx cr)) w':=⟨fun n hn=>by simp only[aG,if_neg hn],pq,mm.box m cs hm,.inl ⟨cs,cr,hm,by simp only[aG,if_true]⟩⟩
 have nb:∀ {c:C} {v:Value},C.ok V st.aB w c v->Nw m c:=by
  intro c v h e xs he
  subst he
  obtain⟨⟨fr,e',ys,h1⟩,_⟩:=h
  rw[hm] at h1;cases h1
 have yT:∀ {cs:List C} {vs:List Value},br V st.aB w cs vs->br V (aG st.aB m (.bx cr)) w' cs vs:=by
  intro cs vs h
  exact⟨h.1,fun j c v hc hv=>k.ok mm (h.2 j c v hc hv) (nb (h.2 j c v hc hv))⟩
 have gG:∀ n,(aG st.aB m (.bx cr) n).live=true->(st.aB n).live=true:=by
  intro n h
  by_cases hn:n=m
  ·subst hn;exact hl
  ·simp only[aG,if_neg hn] at h;exact h
 refine⟨r.len,fun i s v hs hv=>?_,?_⟩
 ·rw[gH]
  have h0:=r.iM i s v hs hv
  cases s with
  | c x=>exact k.ok mm h0 (nb h0)
  | agg cs=>obtain⟨vs,h1,h2⟩:=h0;exact⟨vs,h1,yT h2⟩
  | vl xs =>
    obtain⟨vs,h1,h2,h3⟩:=h0
    refine⟨vs,h1,h2,fun j y v hy hv=>?_⟩
    have h4:=h3 j y v hy hv
    unfold kb at h4 ⊢
    split
    ·rename_i hb;rw[if_pos hb] at h4;obtain⟨us,k1,k2⟩:=h4;exact⟨us,k1,yT k2⟩
    ·rename_i hb;rw[if_neg hb] at h4;exact yT h4
  | eP=>exact h0
  | any=>trivial
  | arr e xs=>exact S.zN h0
 ·rw[gH]
  refine⟨fun n=>?_,fun n PL h=>?_,fun n df hh=>?_,fun n e xs h hh=>?_,fun n n' h1 h2 hh nW he=>mm.fZ n n' (gG n h1) (gG n' h2) hh nW he,mm.z0,fun b hb=>?_,pv,fun n df hh=>?_,fun b hb=>?_,fun n hh i hi=>?_⟩
  ·by_cases hn:n=m
   ·subst hn
    have:aG st.aB n (.bx cr) n = .bx cr:=by simp only[aG,if_true]
    rw[this];exact⟨ay,el,hc,yT fv⟩
   ·have hv:aG st.aB m (.bx cr) n=st.aB n:=by simp only[aG,if_neg hn]
    have h1:=mm.dx n
    rw[hv]
    cases bo:st.aB n with
    | dead=>trivial
    | bx PL =>
      rw[bo] at h1
      obtain⟨iO,re,h2,h3⟩:=h1
      refine⟨iO,re,?_,yT h3⟩
      rw[pq _ (fun e=>hn (mm.fZ n m (by rw[bo];rfl) hl (mm.box n PL bo) (mm.box m cs hm) e))];exact h2
    | row fr e xs =>
      rw[bo] at h1
      rcases h1 with h2|⟨h2,iO,re,h3,h4,h5⟩
      ·exact .inl h2
      ·refine .inr ⟨h2,iO,re,?_,h4,fun i hi=>?_⟩
       ·rw[pq _ (fun e=>hn (mm.fZ n m (by rw[bo];rfl) hl h2 (mm.box m cs hm) e))];exact h3
       ·obtain⟨es,q1,q2,q3⟩:=h5 i hi
        exact⟨es,q1,q2,q3.mono (fun _ h=>h) (fun b hb=>k.z mm hb)⟩
  ·by_cases hn:n=m
   ·subst hn;exact mm.box n cs hm
   ·simp only[aG,if_neg hn] at h
    exact mm.box n PL h
  ·rw[ck]
   exact mm.own n (gG n df) hh
  ·by_cases hn:n=m
   ·subst hn
    have:aG st.aB n (.bx cr) n = .bx cr:=by simp only[aG,if_true]
    rw[this] at h;cases h
   ·simp only[aG,if_neg hn] at h
    exact mm.iZ n e xs h hh
  ·rw[ck];exact mm.z1 b hb
  ·by_cases hn:n=m
   ·subst hn
    simp only[aG,if_true] at df
    exact df.elim
   ·simp only[aG,if_neg hn] at df
    exact mm.pz n df hh
  ·obtain⟨q1,q2⟩:=mm.oh b hb
   refine⟨?_,q2⟩
   by_cases hn:0=m
   ·simp only[aG,if_pos hn];rfl
   ·simp only[aG,if_neg hn];exact q1
  ·by_cases hn:n=m
   ·subst hn
    simp only[aG,if_true] at hi
    cases hi
   ·simp only[aG,if_neg hn] at hi
    exact mm.gJ n hh i hi
theorem He{hp:Nat->az}{v:Value}(h:v.oneCell'=true):C.ok V hp w (cell v) v:=by
 unfold cell
 split
 ·exact rfl
 ·exact rfl
 ·split
  ·rename_i hk;exact⟨rfl,hk⟩
  ·exact h
 ·split
  ·rename_i hk;exact⟨rfl,hk⟩
  ·exact h
 ·exact⟨rfl,rfl,rfl,rfl⟩
 ·exact⟨rfl,trivial⟩
 ·exact h
theorem Ea{hp:Nat->az}(v:Value):S.ok V hp w (S.ofConst v) v:=by
 unfold S.ofConst
 split
 ·rename_i cs
  split
  ·rename_i hc
   rw[fa,List.all_eq_true] at hc
   refine⟨cs,rfl,?_⟩
   rw[bP]
   refine⟨by simp,fun j c v hj hv=>?_⟩
   rw[List.getElem?_map] at hj
   rw[hv] at hj
   simp only[Option.map_some,Option.some.injEq] at hj
   rw[<-hj]
   exact He (hc v (List.mem_of_getElem? hv))
  ·trivial
 ·trivial
 ·rename_i h1 h2
  refine He ?_
  cases v<;>first|rfl|exact absurd rfl (h1 _)|exact absurd rfl (h2 _)
theorem Rel.eval{st:St}(r:Rel base M w0 V st a.tmps w):∀ x,S.ok V st.aB w (st.eval x) (a.eval x):=by
 intro x
 cases x with
 | tmp t =>
   show S.ok V st.aB w (nth .any st.ts t) (a.tmps.getD t undef)
   rw[cB]
   cases hs:st.ts[t]? with
   | none=>trivial
   | some s =>
     have ht:t<a.tmps.size:=by have:=(List.getElem?_eq_some_iff.1 hs).1;rw[r.len] at this;exact this
     have hv:a.tmps[t]? = some a.tmps[t]:=Array.getElem?_eq_getElem ht
     have:=r.iM t s _ hs hv
     simpa[Array.getD,ht] using this
 | const v =>
   exact Ea v
 | global g=>trivial
 | func f=>exact⟨rfl,fun n hn=>by simp at hn⟩
end
end Go.SX
/- Operations that write: stores, literals of what the call owns. No condition. -/
namespace Go.SX
open Go.RowKit
set_option linter.unusedVariables false
set_option linter.unusedSimpArgs false
theorem pO(st:St)(es:List az):(st.alloc es).aB=cZ st.aB (bf st.hp) es:=by
 funext n
 show nth .dead (dg st.hp es) n=cZ st.aB (bf st.hp) es n
 unfold cZ
 rw[cB,bN,cx]
 split
 ·rename_i h
  rw[List.getElem?_append_left h]
  show _=nth .dead st.hp n
  rw[cB]
 ·rename_i h
  rw[List.getElem?_append_right (by omega)]
  cases he:es[n-st.hp.length]? with
  | some e=>rfl
  | none =>
    show az.dead=nth .dead st.hp n
    rw[cB,List.getElem?_eq_none (by omega)]
    rfl
theorem xi(st:St)(j:Nat):st.aB (bf st.hp+j) = .dead:=by
 show nth .dead st.hp _=_
 rw[cB,cx,List.getElem?_eq_none (by omega)]
 rfl
section
variable {P : Program} {T : bT} {base : Nat} {M : LM} {w0 : World} {V : Vl} {w : World} {a : Act} {next : Act → World → Prop} {Q : Exit → Act → World → Prop}
theorem s5{st:St}{ts:Array Value}(r:Rel base M w0 V st ts w){res:S}{es:List az}{hy:Option Prop}{v:Value}{w':World}{V':Vl}(g:Good base M w0 V st.aB w (bf st.hp) res es hy v w' V') :
 Rel base M w0 V' (st.alloc es) ts w'/\S.ok V' (st.alloc es).aB w' res v:=by
 rw[pO]
 exact⟨⟨r.len,fun i s v hs hv=>by rw[pO];exact S.ja g.vx (r.iM i s v hs hv),by rw[pO];exact g.mem⟩,g.res⟩
theorem OR(st:St)(d:Option Nat)(s:S):(st.put d s).aB=st.aB:=by
 cases d<;>rfl
theorem mz{st:St}(r:Rel base M w0 V st a.tmps w){s:S}{v:Value}(h:S.ok V st.aB w s v)(dst:Option Nat):Rel base M w0 V (st.put dst s) (a.put dst v).tmps w:=by
 cases dst with
 | none=>exact r
 | some d =>
   refine⟨by show (b9 st.ts d s).length=(a.tmps.setIfInBounds d v).size;rw[eI];simp[r.len],fun i s' v' hs hv=>?_,r.mem⟩
   have bw:(b9 st.ts d s)[i]? = some s':=hs
   have dJ:(a.tmps.setIfInBounds d v)[i]? = some v':=hv
   rw[eI,List.getElem?_set] at bw
   rw[Array.getElem?_setIfInBounds] at dJ
   split at bw
   ·rename_i hd
    rw[if_pos hd] at dJ
    split at bw
    ·rename_i aK
     rw[if_pos (by rw[<-r.len];exact aK)] at dJ
     injection bw with bw;injection dJ with dJ
     subst bw;subst dJ
     exact h
    ·cases bw
   ·rename_i hd
    rw[if_neg hd] at dJ
    exact r.iM i s' v' bw dJ
theorem iz.dx{st:St}{ts:Array Value}(r:Rel base M w0 V st ts w):iz V st.aB st.aB w:=fun n _=>⟨rfl,r.mem.dx n⟩
theorem tb(l x:List Value)(o k:Nat)(h:o+x.length<=l.length):(l.take o++x++l.drop (o+x.length))[k]? = if k<o then l[k]? else if k<o+x.length then x[k-o]? else l[k]? := by
 have ht:(l.take o).length=o:=by rw[List.length_take];omega
 rw[List.append_assoc]
 split
 ·rename_i hk
  rw[List.getElem?_append_left (by rw[ht];exact hk),List.getElem?_take,if_pos hk]
 ·rename_i hk
  rw[List.getElem?_append_right (by rw[ht];omega),ht]
  split
  ·rename_i pv
   rw[List.getElem?_append_left (by omega)]
  ·rename_i pv
   rw[List.getElem?_append_right (by omega),List.getElem?_drop]
   congr 1;omega
theorem uO{hp:Nat->az}{cs xs:List C}{vs us:List Value}{off:Nat}(h:br V hp w cs vs)(k:br V hp w xs us):br V hp w (nq cs off xs) (vs.take off++us++vs.drop (off+us.length)):=by
 unfold nq
 rw[bN,bN,iY,iX,cx,<-List.append_assoc,k.1]
 exact fi (fi (jB h off) k) (jA h _)
theorem upon_skip{o:Oper}{t:TypeId}{p x:Operand}(ho:o.op = .store t p x){w':World}(hr:(Instr.storeAt t (a.eval p) (a.eval x)).run P w = .ok () w')(h:next (a.put o.dst undef) w'):o.wp P a w next Q:=by
 unfold Oper.wp execOp
 simp only[ho,Sem.run_bind,hr,Result.andThen_ok,Sem.run_pure]
 exact h
def vv:C->List Nat
 | .rg _ wh e b xs=>ids (.gs wh e) (b,xs)
 | .rd _ e xs=>eT e xs
 | _=>[]
theorem rA:∀(t:Ty) (d:t.den),ids t.de (iN t d)=[]
 | .gs _ e,d=>by
   show (d.2.map (iN e)).flatMap (ids e.de)=[]
   rw[List.flatMap_eq_nil_iff]
   intro x hx
   obtain⟨y,_,rfl⟩:=List.mem_map.1 hx
   exact rA e y
 | .sl e,d=>by
   show (List.map (iN e) d).flatMap (ids e.de)=[]
   rw[List.flatMap_eq_nil_iff]
   intro x hx
   obtain⟨y,_,rfl⟩:=List.mem_map.1 hx
   exact rA e y
 | .st t,d=>rA t d
 | .pr a b,d=>by show ids a.de (iN a d.1)++ids b.de (iN b d.2)=[];rw[rA a,rA b];rfl
 | .int _,_=>rfl
 | .bool,_=>rfl
 | .str,_=>rfl
 | .ptr _,_=>rfl
 | .bS _ _,_=>rfl
theorem OX(e:Ty)(xs:List e.den):eT e.de (zu e xs)=[]:=rA (.sl e) xs
theorem rz:∀(t:Ty),t.bW=false->∀ d:t.den,ids t d=[]
 | .gs _ _,h,_=>by cases h
 | .sl e,h,d=>by
   show List.flatMap (ids e) d=[]
   rw[List.flatMap_eq_nil_iff]
   intro x _
   exact rz e h x
 | .st t,h,d=>rz t h d
 | .pr a b,h,d=>by
   have h':(a.bW||b.bW)=false:=h
   rw[Bool.or_eq_false_iff] at h'
   show ids a d.1++ids b d.2=[]
   rw[rz a h'.1,rz b h'.2];rfl
 | .int _,_,_=>rfl
 | .bool,_,_=>rfl
 | .str,_,_=>rfl
 | .ptr _,_,_=>rfl
 | .bS _ _,_,_=>rfl
theorem pn:∀ {t:Ty},t.flat=true->t.bW=false
 | .gs _ _,h=>by cases h
 | .sl _,h=>by cases h
 | .st t,h=>pn (t:=t) h
 | .pr a b,h=>by
   have h':(a.flat&&b.flat)=true:=h
   rw[Bool.and_eq_true] at h'
   show (a.bW||b.bW)=false
   rw[pn h'.1,pn h'.2];rfl
 | .int _,_=>rfl
 | .bool,_=>rfl
 | .str,_=>rfl
 | .ptr _,_=>rfl
 | .bS _ _,_=>rfl
theorem zR{c:C}(h:c.yV=true):vv c=[]:=by
 cases c<;>first|rfl|(cases h;done)|skip
 rename_i fr e xs
 have h':(!e.bW)=true:=h
 have h2:e.bW=false:=by simpa using h'
 exact rz (.sl e) h2 xs
theorem Hb{e' e:Ty}{xs:List e'.den}{ys:List e.den}(k:jP e' e xs=some ys):∀ i∈eT e ys,i∈eT e' xs:=by
 unfold jP at k
 split at k
 ·rename_i hk;subst hk;injection k with k;subst k;exact fun i h=>h
 ·split at k
  ·rename_i hk;subst hk;injection k with k;subst k
   intro i hi
   have dY:i∈eT e'.de (zu e' xs):=hi
   rw[OX] at dY
   cases dY
  ·cases k
theorem IN{wh ql:Bool}{e:Ty}{b:Nat}{xs:List e.den}{i:Nat}(h:i∈ids (.gs wh e) (b,xs)):i∈ids (.gs ql e) (b,xs):=by
 cases xs with
 | nil=>cases h
 | cons x xr=>exact h
theorem K2{wh:Bool}{e:Ty}{b:Nat}{xs:List e.den}{i:Nat}(h:i∈eT e xs):i∈ids (.gs wh e) (b,xs):=by
 cases xs with
 | nil=>cases h
 | cons x xr=>exact List.mem_cons_of_mem _ h
theorem qf{lk:Nat->az}:∀(t:Ty) {cs:List C} {d:t.den} {rest:List C},fp lk t cs=some (d,rest)->(∀ c∈cs,c.fQ=true) →
 (∀ i∈ids t d,∃ c∈cs,i∈vv c)/\∀ c∈rest,c∈cs
 | .int k,cs,d,rest,h,_=>by obtain⟨c,rfl,_⟩:=bC h;exact⟨fun i hi=>(nomatch hi),fun c hc=>List.mem_cons_of_mem _ hc⟩
 | .bool,cs,d,rest,h,_=>by obtain⟨c,rfl,_⟩:=bC h;exact⟨fun i hi=>(nomatch hi),fun c hc=>List.mem_cons_of_mem _ hc⟩
 | .str,cs,d,rest,h,_=>by obtain⟨c,rfl,_⟩:=bC h;exact⟨fun i hi=>(nomatch hi),fun c hc=>List.mem_cons_of_mem _ hc⟩
 | .ptr t,cs,d,rest,h,_=>by obtain⟨c,rfl,_⟩:=bC h;exact⟨fun i hi=>(nomatch hi),fun c hc=>List.mem_cons_of_mem _ hc⟩
 | .bS f t,cs,d,rest,h,_=>by obtain⟨c,rfl,_⟩:=bC h;exact⟨fun i hi=>(nomatch hi),fun c hc=>List.mem_cons_of_mem _ hc⟩
 | .sl e,cs,d,rest,h,hn=>by
   obtain⟨c,rfl,hc⟩:=bC h
   refine⟨fun i hi=>⟨c,List.mem_cons_self ..,?_⟩,fun c hc=>List.mem_cons_of_mem _ hc⟩
   have h0:=hn c (List.mem_cons_self ..)
   have hi:i∈eT e d:=hi
   unfold my at hc
   split at hc
   ·exact Hb hc i hi
   ·cases h0
   ·cases h0
   ·cases h0
   ·rename_i Rm _ _ _;exact K2 (wh:=Rm) (Hb hc i hi)
   ·injection hc with hc;subst hc;cases hi
   ·cases hc
 | .gs wh e,cs,d,rest,h,hn=>by
   obtain⟨c,rfl,hc⟩:=bC h
   refine⟨fun i hi=>⟨c,List.mem_cons_self ..,?_⟩,fun c hc=>List.mem_cons_of_mem _ hc⟩
   unfold LQ at hc
   split at hc
   ·split at hc
    ·rename_i hk
     subst hk
     split at hc
     ·cases hc
     ·rename_i Rm _ _ _ _;injection hc with hc;subst hc;exact IN (ql:=Rm) hi
    ·cases hc
   ·injection hc with hc;subst hc;cases hi
   ·cases hc
 | .st t,cs,d,rest,h,hn=>qf t h hn
 | .pr a b,cs,d,rest,h,hn=>by
   unfold fp at h
   cases ha:fp lk a cs with
   | none=>simp[ha] at h
   | some x =>
     obtain⟨x,r⟩:=x
     simp only[ha] at h
     cases hb:fp lk b r with
     | none=>simp[hb] at h
     | some y =>
       obtain⟨y,r'⟩:=y
       simp only[hb,Option.some.injEq,Prod.mk.injEq] at h
       obtain⟨rfl,rfl⟩:=h
       obtain⟨h1,h2⟩:=qf a ha hn
       obtain⟨h3,h4⟩:=qf b hb (fun c hc=>hn c (h2 c hc))
       refine⟨fun i hi=>?_,fun c hc=>h2 c (h4 c hc)⟩
       rcases List.mem_append.1 hi with hi|hi
       ·exact h1 i hi
       ·obtain⟨c,hc,Tt⟩:=h3 i hi
        exact⟨c,h2 c hc,Tt⟩
theorem Gq{lk:Nat->az}{t:Ty}{cs:List C}{d:t.den}(h:readAll lk t cs=some d)(hn:∀ c∈cs,c.fQ=true):∀ i∈ids t d,∃ c∈cs,i∈vv c:=by
 unfold readAll at h
 split at h
 ·rename_i d' hr
  injection h with h;subst h
  exact (qf t hr hn).1
 ·cases h
theorem n9(fr:Bool):∀(t:Ty) (d:t.den),∀ c∈expand fr t d,∀ i∈vv c,i∈ids t d
 | .int _,_,c,hc,i,hi=>by simp[expand] at hc;subst hc;cases hi
 | .bool,_,c,hc,i,hi=>by simp[expand] at hc;subst hc;cases hi
 | .str,_,c,hc,i,hi=>by simp[expand] at hc;subst hc;cases hi
 | .ptr _,_,c,hc,i,hi=>by simp[expand] at hc;subst hc;cases hi
 | .bS _ _,_,c,hc,i,hi=>by simp[expand] at hc;subst hc;cases hi
 | .sl e,d,c,hc,i,hi=>by simp[expand] at hc;subst hc;exact hi
 | .gs wh e,d,c,hc,i,hi=>by simp[expand] at hc;subst hc;exact hi
 | .st t,d,c,hc,i,hi=>n9 fr t d c hc i hi
 | .pr a b,d,c,hc,i,hi=>by
   have hc:c∈dg (expand fr a d.1) (expand fr b d.2):=hc
   rw[bN] at hc
   rcases List.mem_append.1 hc with hc|hc
   ·exact List.mem_append_left _ (n9 fr a d.1 c hc i hi)
   ·exact List.mem_append_right _ (n9 fr b d.2 c hc i hi)
theorem L2{lk:Nat->az}{e:Ty}{ys:List e.den}{i off:Nat}{xs:List C}{y:e.den}(hi:i<ys.length)(hy:readAll lk e (nq (expand false e (ys.getD i e.en)) off xs)=some y)
 (hn:∀ c∈xs,c.fQ=true) (ht:∀ c∈xs,c.yV=true):∀ k∈eT e (ys.set i y),k∈eT e ys:=by
 have Ql:∀ c∈nq (expand false e (ys.getD i e.en)) off xs,c∈expand false e (ys.getD i e.en)\/c∈xs:=by
  intro c hc
  unfold nq at hc
  rw[bN,bN,iY,iX,List.mem_append,List.mem_append] at hc
  rcases hc with hc|hc|hc
  ·exact .inl (List.mem_of_mem_take hc)
  ·exact .inr hc
  ·exact .inl (List.mem_of_mem_drop hc)
 have Ue:∀ k∈ids e y,k∈eT e ys:=by
  intro k hk
  obtain⟨c,hc,Qj⟩:=Gq hy (fun c hc=>by
   rcases Ql c hc with h|h
   ·exact (wz false e _ c h).1
   ·exact hn c h) k hk
  rcases Ql c hc with h|h
  ·have:=n9 false e _ c h k Qj
   rw[rl _ hi] at this
   exact List.mem_flatMap.2 ⟨_,List.getElem_mem hi,this⟩
  ·rw[zR (ht c h)] at Qj
   cases Qj
 intro k hk
 obtain⟨x,hx,Se⟩:=List.mem_flatMap.1 hk
 rcases List.mem_or_eq_of_mem_set hx with hx|rfl
 ·exact List.mem_flatMap.2 ⟨x,hx,Se⟩
 ·exact Ue k Se
theorem Kq(hT:bJ P T){st:St}(r:Rel base M w0 V st a.tmps w){o:Oper}{t:TypeId}{p x:Operand}(ho:o.op = .store t p x){er:ER}(h:yw T st t p x=some er) :
 er.ob=none/\((∀ w' V',Rel base M w0 V' er.st a.tmps w'->S.ok V' er.st.aB w' er.res undef->next (a.put o.dst undef) w')->o.wp P a w next Q):=by
 unfold yw at h
 cases hn:ta T t with
 | none=>rw[hn] at h;simp at h
 | some n =>
   have wG:∃ ti,T t=some ti/\ti.size=n:=by
    unfold ta at hn;cases R4:T t with
    | none=>rw[R4] at hn;cases hn
    | some ti=>rw[R4] at hn;simp only[omap,Option.some.injEq] at hn;exact⟨ti,rfl,hn⟩
   obtain⟨ti,ht,N6⟩:=wG
   have hb:=hT t ti ht
   rw[hn] at h
   split at h
   ·rename_i n' m off xs KO ie nf
    simp only[Option.some.injEq] at KO
    subst KO
    split at h
    ·rename_i cs hm
     split at h
     ·rename_i hc
      injection h with h;subst h
      refine⟨rfl,fun iW=>?_⟩
      have Bb:=r.eval p
      rw[ie] at Bb
      obtain⟨e1,hh,_⟩:=Bb
      have fv:=r.mem.dx m
      rw[hm] at fv
      obtain⟨ay,el,g1,g2⟩:=fv
      have pw:=r4 nf (r.eval x)
      simp only[cx] at hc
      have ck:(a.eval x).cells.size=n:=by have:=pw.1;rw[hc.1] at this;simpa using this.symm
      have KZ:ay.size=cs.length:=by have:=g2.1;simpa using this.symm
      have xv:∀ v∈(a.eval x).cells.toList,v.oneCell'=true:=by
       intro v hv
       obtain⟨j,hj,rfl⟩:=List.getElem_of_mem hv
       exact C.ec (pw.2 j (xs[j]'(by rw[pw.1];exact hj)) _ (List.getElem?_eq_getElem _) (List.getElem?_eq_getElem _))
      have dD:=qR hb w (V.aI m) off ay el (a.eval x) (by rw[ck,N6]) g1 (by omega) xv
      rw[<-e1] at dD
      have sK:=r.mem.own m (by rw[hm];rfl) hh
      refine upon_skip ho dD (iW _ V ?_ rfl)
      exact B9 r hm (fun b hb=>fE w _ b _ hb) (qO r.mem.kept sK.1 _ (fun v2 e2 h2=>by rw[g1] at h2;injection h2 with h2;injection h2 with h2 _ _;subst h2;simp only[List.size_toArray,List.length_append,List.length_take,List.length_drop,Array.length_toList,ck];omega)) (setRow_size _ _ _) (setRow_heap w _ ay _ el (0,0) g1) (by simpa using uO g2 pw)
     ·cases h
    ·cases h
   ·rename_i n' m0 i0 UL SG KO N2 Bd
    simp only[Option.some.injEq] at KO
    subst KO
    simp only at h
    obtain⟨V1,r1⟩:=r.gF (j0 SG)
    split at h
    ·rename_i m i off xs ie nf
     split at h
     ·rename_i fr e ys hm
      split at h
      ·rename_i hc
       split at h
       ·rename_i y hy
        injection h with h;subst h
        refine⟨rfl,fun iW=>?_⟩
        generalize S7:st.gF (j0 SG)=dv at *
        have Bb:=r1.eval p
        rw[ie] at Bb
        obtain⟨hh,aW,e',FO,q1,hi,e1⟩:=Bb
        rw[hm] at q1
        injection q1 with q2 q3 q4
        subst q2;subst q3;cases q4
        have fv:=r1.mem.dx m
        rw[hm] at fv
        have pw:=r4 nf (r1.eval x)
        simp only[cx,fa,List.all_eq_true] at hc
        obtain⟨c1,c2,c3,c4⟩:=hc
        have ck:(a.eval x).cells.toList.length=n:=by rw[<-pw.1,c1]
        have qN:(a.eval x).cells.size=n:=by simpa using ck
        have xv:∀ v∈(a.eval x).cells.toList,v.oneCell'=true:=by
         intro v hv
         obtain⟨j,hj,rfl⟩:=List.getElem_of_mem hv
         exact C.ec (pw.2 j (xs[j]'(by rw[pw.1];exact hj)) _ (List.getElem?_eq_getElem _) (List.getElem?_eq_getElem _))
        rcases fv with ⟨k1,_⟩|⟨_,ay,el,k2,k3,k4⟩
        ·exact absurd hh k1
        ·obtain⟨es,g1,g2,g3⟩:=k4 i hi
         have Hy:i*e.size+e.size<=ay.size:=by
          have IG:=g2 (e.size-1) (es[e.size-1]'(by have:=e.size_pos;omega)) (List.getElem?_eq_getElem _)
          have:=(Array.getElem?_eq_some_iff.1 IG).1
          have:=e.size_pos
          omega
         have dD:=qR hb w (V1.aI m) (i*e.size+off) ay el (a.eval x) (by rw[qN,N6]) k2 (by omega) xv
         rw[<-e1] at dD
         have sK:=r1.mem.own m (by rw[hm];rfl) hh
         have km:=setRow_heap w (V1.aI m) ay (ay.toList.take (i*e.size+off)++(a.eval x).cells.toList++ay.toList.drop (i*e.size+off+(a.eval x).cells.toList.length)).toArray el (0,0) k2
         have KY:(ay.toList.take (i*e.size+off)++(a.eval x).cells.toList++ay.toList.drop (i*e.size+off+(a.eval x).cells.toList.length)).length=ay.size:=by
          simp only[List.length_append,List.length_take,List.length_drop,Array.length_toList,qN];omega
         have tN:(fr&&(e.flat||dN C.ed xs))=true->fr=true:=fun h=>by simp at h;exact h.1
         have kw:Wr V1 dv.aB w m (aG dv.aB m (.row (fr&&(e.flat||dN C.ed xs)) e (ys.set i y))) (w.setRow (V1.aI m) (ay.toList.take (i*e.size+off)++(a.eval x).cells.toList++ay.toList.drop (i*e.size+off+(a.eval x).cells.toList.length)).toArray) :=
          ⟨fun n hn=>by simp only[aG,if_neg hn],fun b hb=>fE w _ b _ hb,hh,.inr ⟨fr,fr&&(e.flat||dN C.ed xs),e,ys,ys.set i y,hm,by simp only[aG,if_true],by simp,ay,_,el,el,k2,km,by simp only[List.size_toArray,KY]⟩⟩
         refine upon_skip ho dD (iW _ V1 ?_ rfl)
         refine Bz r1 kw rfl (qO r1.mem.kept sK.1 _ (fun v2 e2 h2=>by rw[k2] at h2;injection h2 with h2;injection h2 with h2 _ _;subst h2;simp only[List.size_toArray,KY])) (setRow_size _ _ _) ?_ (fun e2 lO heq=>?_) (fun cs heq=>by cases heq) (fun aK=>?_) (fun _ q hq=>?_)
         ·refine .inr ⟨hh,_,el,km,by simpa using k3,fun j hj=>?_⟩
          have nX:j<ys.length:=by simpa using hj
          by_cases ff:j=i
          ·subst ff
           have Tm:aH (V1.Z fr) w e es (ys.getD j e.en):=by rw[rl _ nX];exact g3
           have rn:=uO (off:=off) (ni (V:=V1) (hp:=dv.aB) fr e Tm) pw
           have hex:∀ c∈expand fr e (ys.getD j e.en),c.fQ=true/\(fr=true->c.ed=true):=wz fr e _
           have fg:aH (V1.Z (fr&&dN C.ed xs)) w e (es.take off++(a.eval x).cells.toList++es.drop (off+(a.eval x).cells.toList.length)) y:=by
            refine pG hy rn (fun c gT=>?_)
            unfold nq at gT
            rw[bN,bN,iY,iX,cx,List.mem_append,List.mem_append] at gT
            rcases gT with gT|gT|gT
            ·obtain⟨z1,z2⟩:=hex c (List.mem_of_mem_take gT)
             exact⟨z1,fun hf=>z2 (by simp at hf;exact hf.1)⟩
            ·exact⟨c3 c gT,fun hf=>by simp[fa] at hf;exact hf.2 c gT⟩
            ·obtain⟨z1,z2⟩:=hex c (List.mem_of_mem_drop gT)
             exact⟨z1,fun hf=>z2 (by simp at hf;exact hf.1)⟩
           have SQ:off+(a.eval x).cells.toList.length<=es.length:=by rw[ck,g1];exact c2
           refine⟨_,aH.length fg,fun q u hq=>?_,?_⟩
           ·rw[List.getElem?_toArray,tb _ _ _ _ (by simp only[Array.length_toList,qN];omega)]
            rw[tb _ _ _ _ SQ] at hq
            have TW:q<e.size:=by
             rcases Nat.lt_or_ge q e.size with h|h
             ·exact h
             ·rw[if_neg (by omega),if_neg (by rw[ck];omega),List.getElem?_eq_none (by rw[g1];exact h)] at hq;cases hq
            by_cases q1:q<off
            ·rw[if_pos q1] at hq
             rw[if_pos (by omega)]
             have:=g2 q u hq
             simpa using this
            ·rw[if_neg q1] at hq
             rw[if_neg (by omega)]
             by_cases q2:q<off+(a.eval x).cells.toList.length
             ·rw[if_pos q2] at hq
              rw[if_pos (by omega),show j*e.size+q-(j*e.size+off)=q-off by omega]
              exact hq
             ·rw[if_neg q2] at hq
              rw[if_neg (by omega)]
              have:=g2 q u hq
              simpa using this
           ·rw[List.getElem_set_self]
            cases eX:e.flat with
            | true=>exact fg.flat eX
            | false =>
              rw[Bool.false_or]
              exact fg.mono (fun _ h=>h) (fun b hb=>kw.z r1.mem hb)
          ·obtain⟨ky,q1,q2,q3⟩:=k4 j nX
           refine⟨ky,q1,fun q u hq=>?_,?_⟩
           ·have TW:q<e.size:=by rw[<-q1];exact (List.getElem?_eq_some_iff.1 hq).1
            rw[List.getElem?_toArray,tb _ _ _ _ (by simp only[Array.length_toList,qN];omega),ck]
            have bo:j*e.size+q<i*e.size+off\/i*e.size+off+n<=j*e.size+q:=by
             rcases Nat.lt_or_gt_of_ne ff with h|h
             ·left
              have:(j+1)*e.size<=i*e.size:=Nat.mul_le_mul_right _ h
              rw[Nat.add_mul,Nat.one_mul] at this;omega
             ·right
              have:(i+1)*e.size<=j*e.size:=Nat.mul_le_mul_right _ h
              rw[Nat.add_mul,Nat.one_mul] at this;omega
            have:=q2 q u hq
            rcases bo with h|h
            ·rw[if_pos h];simpa using this
            ·rw[if_neg (by omega),if_neg (by omega)];simpa using this
           ·rw[List.getElem_set_ne (fun h=>ff h.symm)]
            have hz:∀ b,V1.Z fr b->V1.Z (fr&&(e.flat||dN C.ed xs)) b\/True:=fun _ _=>.inr trivial
            cases eX:e.flat with
            | true=>exact q3.flat eX
            | false =>
              rw[Bool.false_or]
              refine q3.mono (fun b hb=>gY (fun hf=>by simp at hf;exact hf.1) hb) (fun b hb=>kw.z r1.mem hb)
         ·injection heq with h1 h2 h3
          exact r1.mem.iZ m e ys (by rw[hm,tN h1]) hh
         ·refine r1.mem.pz m ?_ hh
          rw[hm]
          cases fr with
          | false=>exact (eA aK)
          | true =>
            have h2:(e.flat||dN C.ed xs)=true:=by
             have h9:=eA aK
             cases hf:e.flat with
             | true=>rfl
             | false =>
               rw[hf,Bool.false_or] at h9
               have yh:(!e.bW||dN C.ed xs)=true:=c4
               rw[h9] at yh
               exact yh
            rw[h2] at aK
            exact aK
         ·cases R9:fr with
          | true =>
            subst R9
            exfalso
            have hg:e.bW=true/\(e.flat||dN C.ed xs)=false:=by
             cases fu:(e.flat||dN C.ed xs) with
             | true=>rw[fu] at hq;cases hq
             | false =>
               rw[fu] at hq
               have eG:q∈(if e.bW then eT e (ys.set i y) else []):=hq
               split at eG
               ·rename_i h;exact⟨h,rfl⟩
               ·cases eG
            have yh:(!e.bW||dN C.ed xs)=true:=c4
            rw[hg.1] at yh
            have h9:=hg.2
            rw[Bool.or_eq_false_iff] at h9
            rw[h9.2] at yh
            cases yh
          | false =>
            subst R9
            have eG:q∈(if e.bW then eT e (ys.set i y) else []):=hq
            split at eG
            ·rename_i hg
             intro e0
             have yh:(!e.bW||(!(Nat.beq m 0)||dN C.yV xs))=true:=c4
             rw[hg,show Nat.beq m 0=true by rw[e0];rfl,Bool.not_true,Bool.false_or,Bool.false_or,fa,List.all_eq_true] at yh
             have h9:=L2 hi hy c3 yh q eG
             refine r1.mem.gJ m hh q ?_ e0
             rw[hm]
             show q∈(if e.bW then eT e ys else [])
             rw[if_pos hg]
             exact h9
            ·cases eG
       ·cases h
      ·cases h
     ·cases h
    ·cases h
   ·cases h
theorem Iw(hT:bJ P T){st:St}(r:Rel base M w0 V st a.tmps w){o:Oper}{t:TypeId}{p x:Operand}(ho:o.op = .store t p x){er:ER}(h:zU T st t p x=some er)(cP:∀ p,er.ob=some p->p)
 (iW:∀ w' V',Rel base M w0 V' er.st a.tmps w'->S.ok V' er.st.aB w' er.res undef->next (a.put o.dst undef) w'):o.wp P a w next Q:=by
 unfold zU at h
 split at h
 case h_2=>cases h
 rename_i len te es n cF sz jJ z ty lL m e xs ht ie nf
 split at h
 case h_2=>cases h
 rename_i fr e' ys hm
 split at h
 case isFalse=>cases h
 rename_i jV
 subst jV
 injection h with h;subst h
 obtain⟨hlen,ck⟩:=cP _ rfl
 have hb:=hT t _ ht
 have Bb:=r.eval p
 rw[ie] at Bb
 obtain⟨hh,aW,e2,FO,q1,hi,e1⟩:=Bb
 rw[hm] at q1
 injection q1 with q2 q3 q4
 subst q2;subst q3;cases q4
 have DJ:=r.eval x
 rw[nf] at DJ
 obtain⟨eX,vs,hv,KZ,eE⟩:=DJ
 have fv:=r.mem.dx m
 rw[hm] at fv
 rcases fv with ⟨k1,_⟩|⟨_,ay,el,k2,k3,k4⟩
 ·exact absurd hh k1
 have lu:=e'.size_pos
 have Hy:ys.length*e'.size<=ay.size:=by
  obtain⟨ky,g1,g2,_⟩:=k4 (ys.length-1) (by omega)
  have:=g2 (e'.size-1) (ky[e'.size-1]'(by omega)) (List.getElem?_eq_getElem _)
  have h6:=(Array.getElem?_eq_some_iff.1 this).1
  have h7:ys.length*e'.size=(ys.length-1)*e'.size+e'.size:=by
   conv=>lhs;rw[show ys.length=ys.length-1+1 by omega,Nat.add_mul,Nat.one_mul]
  omega
 have iG:(a.eval x).cells=vs:=by rw[hv];rfl
 have xv:∀ v∈(a.eval x).cells.toList,v.oneCell'=true:=by
  intro v dJ
  rw[iG] at dJ
  obtain⟨j,hj,rfl⟩:=List.getElem_of_mem dJ
  have nX:j<xs.length*e'.size:=by rw[<-KZ];simpa using hj
  have hd:j/e'.size<xs.length:=(Nat.div_lt_iff_lt_mul lu).2 nX
  obtain⟨ky,g1,g2,g3⟩:=eE _ hd
  have IJ:j%e'.size<ky.length:=by rw[g1];exact Nat.mod_lt _ lu
  have:=g2 (j%e'.size) _ (List.getElem?_eq_getElem IJ)
  rw[Nat.div_add_mod' j e'.size] at this
  have h8:vs.toList[j]? = some ky[j%e'.size]:=by simpa using this
  rw[List.getElem?_eq_getElem hj] at h8
  injection h8 with h8
  rw[h8]
  exact g3.ec _ (List.getElem_mem IJ)
 have qN:(a.eval x).cells.size=sz:=by rw[iG,KZ,ck]
 have dD:=qR hb w (V.aI m) 0 ay el (a.eval x) (by rw[qN]) k2 (by rw[qN,<-ck,hlen,Nat.zero_add];exact Hy) xv
 have Km:a.eval p = .pointer (some ⟨V.aI m,0,none⟩):=by rw[e1,Nat.zero_mul]
 rw[<-Km] at dD
 have sK:=r.mem.own m (by rw[hm];rfl) hh
 have KY:(ay.toList.take 0++(a.eval x).cells.toList++ay.toList.drop (0+(a.eval x).cells.toList.length)).length=ay.size:=by
  simp only[List.length_append,List.length_take,List.length_drop,Array.length_toList,qN,List.take_zero,List.length_nil,Nat.zero_add]
  have:sz<=ay.size:=by rw[<-ck,hlen];exact Hy
  omega
 have km:=setRow_heap w (V.aI m) ay (ay.toList.take 0++(a.eval x).cells.toList++ay.toList.drop (0+(a.eval x).cells.toList.length)).toArray el (0,0) k2
 have kw:Wr V st.aB w m (aG st.aB m (.row fr e' xs)) (w.setRow (V.aI m) (ay.toList.take 0++(a.eval x).cells.toList++ay.toList.drop (0+(a.eval x).cells.toList.length)).toArray) :=
  ⟨fun n hn=>by simp only[aG,if_neg hn],fun b hb=>fE w _ b _ hb,hh,.inr ⟨fr,fr,e',ys,xs,hm,by simp only[aG,if_true],hlen.symm,ay,_,el,el,k2,km,by simp only[List.size_toArray,KY]⟩⟩
 refine upon_skip ho dD (iW _ V ?_ rfl)
 refine Bz r kw rfl (qO r.mem.kept sK.1 _ (fun v2 e2 h2=>by rw[k2] at h2;injection h2 with h2;injection h2 with h2 _ _;subst h2;simp only[List.size_toArray,KY])) (setRow_size _ _ _) ?_ (fun e2 lO heq=>?_) (fun cs heq=>by cases heq) (fun aK=>?_) (fun _ q hq=>?_)
 ·refine .inr ⟨hh,_,el,km,by rw[hlen];exact k3,fun j hj=>?_⟩
  obtain⟨ky,g1,g2,g3⟩:=eE j hj
  refine⟨ky,g1,fun q u hq=>?_,g3.flat eX⟩
  have:=g2 q u hq
  have aK:=(Array.getElem?_eq_some_iff.1 this).1
  rw[List.take_zero,List.nil_append,List.getElem?_toArray,List.getElem?_append_left (by rw[iG];simpa using aK),iG]
  simpa using this
 ·injection heq with h1 h2 h3
  exact r.mem.iZ m e' ys (by rw[hm,h1]) hh
 ·refine r.mem.pz m ?_ hh
  rw[hm]
  cases fr with
  | true=>exact aK.elim
  | false=>exact aK
 ·exfalso
  have hg:e'.bW=true:=by
   cases fr with
   | true=>cases hq
   | false =>
     have eG:q∈(if e'.bW then eT e' xs else []):=hq
     split at eG
     ·rename_i h;exact h
     ·cases eG
  rw[pn eX] at hg
  cases hg
end
end Go.SX
/- Append. No condition. -/
namespace Go.SX
open Go.RowKit
set_option linter.unusedVariables false
set_option linter.unusedSimpArgs false
section
variable {P : Program} {T : bT} {base : Nat} {M : LM} {w0 : World} {V : Vl} {hp : Nat → az} {w : World} {a : Act} {next : Act → World → Prop} {Q : Exit → Act → World → Prop}
theorem tG{g:Nat}{ay:Array Value}{el:TypeId}{fr:Nat×Nat}(h:w.heap[g]? = some (.cells ay el fr))(j:Nat):w.cell? ⟨g,j,none⟩=ay[j]? := by
 simp[World.cell?,h]
inductive Mp (w w':World) (v v':Value) (sz k:Nat) (all:List Value):Prop where
 | same (h1:v'=v) (h2:w'=w)
 | row (g cap:Nat) (ay:Array Value) (el:TypeId) (h1:v' = .slice (some ⟨g,0,none⟩) k cap) (h2:w'.heap[g]? = some (.cells ay el (0,0))) (h3:ay.size=cap*sz) (h4:k<=cap)
    (h5:ay.toList.take (k*sz)=all) (h6:(∃ l,v = .slice (some ⟨g,0,none⟩) l cap/\g<w.heap.size/\w'.heap.size=w.heap.size)\/(g=w.heap.size/\w'.heap.size=w.heap.size+1))
    (h7:∀ b,b≠g->b<w.heap.size->w'.heap[b]? = w.heap[b]?) (h8:w'.os=w.os/\w'.tape=w.tape/\w'.output=w.output)
theorem qi{t ty te:TypeId}{i:TypeInfo}(ht:P.underlying t=some (.slice te))(hi:P.info? te=some i)(bs aa:Option Addr)(h cap c:Nat)(hc:h<=cap) :
 (Builtin.append_ #[t,t] ty #[.slice bs h cap,.slice aa 0 c]).run P w = .ok (.slice bs h cap) w:=by
 cases bs<;>cases aa<;>simp[Builtin.append_,run_underlying ht,sizeOf,typeInfo,hi,Builtin.lenOf,Builtin.firstCells,loadCells,loadCellsFrom,hc,storeCells]
theorem rQ{t ty te:TypeId}{i:TypeInfo}{z:Value}(ht:P.underlying t=some (.slice te))(hi:P.info? te=some i)(hz:i.zero=some z)(px:z.cells.size=i.size)(lu:0<i.size)
 {v:Value} {h cap:Nat} {g:Nat} {ay:Array Value} {el:TypeId}
 (hv:(v = .slice none 0 0/\h=0/\ay = #[])\/(v = .slice (some ⟨g,0,none⟩) h cap/\w.heap[g]? = some (.cells ay el (0,0))/\ay.size=cap*i.size/\h<=cap))
 {aa:Option Addr} {m c:Nat} {news:List Value} (hl:news.length=m*i.size) (Ry:0<m->∃ b o,aa=some ⟨b,o,none⟩/\∀(j:Nat) u,news[j]? = some u->w.cell? ⟨b,o+j,none⟩=some u)
 (h1:∀ u∈news,u.oneCell'=true) (R2:h+m<=9223372036854775807) (hb:(h+m)*i.bytes<=140737488355328) :
 ∃ v' w',(Builtin.append_ #[t,t] ty #[v,.slice aa m c]).run P w = .ok v' w'/\Mp w w' v v' i.size (h+m) (ay.toList.take (h*i.size)++news)/\(0<m->∃ g' oS,v' = .slice (some ⟨g',0,none⟩) (h+m) oS)/\(m=0->v'=v/\w'=w):=by
 by_cases hm:m=0
 ·subst hm
  have hn:news=[]:=List.eq_nil_of_length_eq_zero (by simpa using hl)
  subst hn
  rcases hv with ⟨rfl,rfl,rfl⟩|⟨rfl,_,_,h4⟩
  ·exact⟨_,w,qi ht hi none aa 0 0 c (Nat.le_refl _),.same rfl rfl,fun h=>absurd h (by omega),fun _=>⟨rfl,rfl⟩⟩
  ·exact⟨_,w,qi ht hi _ aa h cap c h4,.same rfl rfl,fun h=>absurd h (by omega),fun _=>⟨rfl,rfl⟩⟩
 ·obtain⟨b,o,rfl,hn⟩:=Ry (by omega)
  have iU:∀(j:Nat) u,news[j]? = some u->w.cell? ((⟨b,o,none⟩:Addr).add j)=some u:=fun j u hu=>by rw[iQ];exact hn j u hu
  rcases hv with ⟨rfl,rfl,rfl⟩|⟨rfl,k2,k3,k4⟩
  ·have hr:=run_append_nil (P:=P) w t ty te i z ht hi hz ⟨b,o,none⟩ m c news hl iU (by omega) (by omega) (by simp only[Nat.zero_add] at hb;omega)
   have dU:=grownCap_ge w m 0 te
   refine⟨_,_,hr,.row w.heap.size (grownCap w m 0 te) _ te (by simp) (xp w.drew _) ?_ (by omega) ?_ (.inr ⟨rfl,by simp[World.alloc,heap_drew]⟩) (fun q hq aK=>?_) ⟨rfl,rfl,rfl⟩,fun _=>⟨w.heap.size,grownCap w m 0 te,by simp⟩,fun h=>absurd h hm⟩
   ·simp only[Array.size_append,List.size_toArray,size_zeroCells,px,hl,<-Nat.add_mul]
    congr 1;omega
   ·simp only[Array.toList_append,Nat.zero_add,Nat.zero_mul,List.take_zero,List.nil_append]
    rw[<-hl];exact List.take_left
   ·show (w.heap.push _)[q]? = _;rw[Array.getElem?_push,if_neg (by omega)]
  ·have MM:g<w.heap.size:=(Array.getElem?_eq_some_iff.1 k2).1
   by_cases IM:h+m<=cap
   ·have ML:h*i.size+news.length<=ay.size:=by rw[hl,k3,<-Nat.add_mul];exact Nat.mul_le_mul_right _ IM
    have hf:=run_firstCells_some (P:=P) w i.size m ⟨b,o,none⟩ m c news hl iU
    have fN:=run_storeCells_at P g (h*i.size) el news 0 ay w k2 (by simpa using ML) h1
    simp only[Nat.add_zero] at fN
    have hr:(Builtin.append_ #[t,t] ty #[.slice (some ⟨g,0,none⟩) h cap,.slice (some ⟨b,o,none⟩) m c]).run P w =
     .ok (.slice (some ⟨g,0,none⟩) (h+m) cap) (w.setRow g (ay.toList.take (h*i.size)++news++ay.toList.drop (h*i.size+news.length)).toArray):=by
     simp[Builtin.append_,run_underlying ht,sizeOf,typeInfo,hi,Builtin.lenOf,IM,hf,Addr.add_lit,fN]
    have hlen:(ay.toList.take (h*i.size)++news).length=(h+m)*i.size:=by
     rw[List.length_append,List.length_take,Array.length_toList,hl,Nat.add_mul];omega
    refine⟨_,_,hr,.row g cap _ el rfl (setRow_heap w g ay _ el (0,0) k2) ?_ IM ?_ (.inl ⟨h,rfl,MM,setRow_size _ _ _⟩) (fun q hq _=>fE w g q _ hq) ⟨rfl,rfl,rfl⟩,fun _=>⟨g,cap,rfl⟩,fun h=>absurd h hm⟩
    ·simp only[List.size_toArray,List.length_append,List.length_take,List.length_drop,Array.length_toList];omega
    ·rw[<-hlen];exact List.take_left
   ·have holds:∀(j:Nat) u,(ay.toList.take (h*i.size))[j]? = some u->w.cell? ((⟨g,0,none⟩:Addr).add j)=some u:=by
     intro j u hu
     rw[iQ,Nat.zero_add,tG k2]
     rw[List.getElem?_take] at hu
     split at hu
     ·simpa using hu
     ·cases hu
    have wE:(ay.toList.take (h*i.size)).length=h*i.size:=by
     rw[List.length_take,Array.length_toList,k3]
     exact Nat.min_eq_left (Nat.mul_le_mul_right _ k4)
    have hr:=run_append_grow (P:=P) w t ty te i z ht hi hz ⟨g,0,none⟩ h cap _ wE holds ⟨b,o,none⟩ m c news hl iU (by omega) (by omega) (growslice_fits (by omega) hb)
    have dU:=grownCap_ge w (h+m) cap te
    have hlen:(ay.toList.take (h*i.size)++news).length=(h+m)*i.size:=by rw[List.length_append,wE,hl,Nat.add_mul]
    refine⟨_,_,hr,.row w.heap.size (grownCap w (h+m) cap te) _ te rfl (xp w.drew _) ?_ dU ?_ (.inr ⟨rfl,by simp[World.alloc,heap_drew]⟩) (fun q hq aK=>?_) ⟨rfl,rfl,rfl⟩,fun _=>⟨_,_,rfl⟩,fun h=>absurd h hm⟩
    ·simp only[Array.size_append,List.size_toArray,size_zeroCells,px,wE,hl,<-Nat.add_mul]
     congr 1;omega
    ·simp only[Array.toList_append,List.append_assoc]
     rw[<-List.append_assoc,<-hlen]
     exact List.take_left
    ·show (w.heap.push _)[q]? = _;rw[Array.getElem?_push,if_neg (by omega)]
def kM(Z:Nat->Prop)(w:World)(e:Ty)(aa:Option Addr)(ys:List e.den):Prop :=
 ∀ i (h:i<ys.length),∃ b o,aa=some ⟨b,o,none⟩/\∃ es,es.length=e.size/\l9 w b (o+i*e.size) es/\aH Z w e es ys[i]
theorem qn{Z:Nat->Prop}{e:Ty}{v:Value}{ys:List e.den}(h:aH Z w (.sl e) [v] ys):∃ aa cap,v = .slice aa ys.length cap/\ys.length<=cap/\ys.length<=cQ/\kM Z w e aa ys:=by
 obtain⟨a,cap,hv,h2,h3,h4⟩:=h
 simp only[List.cons.injEq,and_true] at hv
 refine⟨a,cap,hv,h2,h3,fun i hi=>?_⟩
 obtain⟨ad,rfl,h5,h6,es,h7,h8,h9⟩:=h4 i hi
 obtain⟨b,o,sp⟩:=ad
 simp only at h5
 subst h5
 exact⟨b,o,rfl,es,h7,h8,h9⟩
theorem um{n h:Nat}{fr:Bool}{e:Ty}{xs:List e.den}{v:Value}(he:(az.row fr e xs).ok V hp w n)(hr:dT V w n e h v)(hh:h<=xs.length) :
 ∃ aa cap,v = .slice aa (xs.take h).length cap/\(xs.take h).length<=cap/\(xs.take h).length<=cQ/\kM (V.Z fr) w e aa (xs.take h):=by
 have hlen:(xs.take h).length=h:=by rw[List.length_take];omega
 rcases hr with ⟨h1,rfl,rfl⟩|⟨h1,cap,ay,el,rfl,h3,h4,h5⟩
 ·exact⟨none,0,by simp,by simp,by simp,fun i hi=>by simp at hi⟩
 ·rcases he with ⟨k1,_⟩|⟨_,cS,kW,k2,k3,k4⟩
  ·exact absurd h1 k1
  ·refine⟨_,cap,by rw[hlen],by omega,by omega,fun i hi=>?_⟩
   rw[hlen] at hi
   obtain⟨es,q1,q2,q3⟩:=k4 i (by omega)
   refine⟨V.aI n,0,rfl,es,q1,fun j hj=>?_,by rw[List.getElem_take];exact q3⟩
   rw[Nat.zero_add,tG k2]
   exact q2 j _ (List.getElem?_eq_getElem hj)
theorem A7{Z Z':Nat->Prop}{e:Ty}(hf:e.flat=true){aa:Option Addr}{ys:List e.den}(h:kM Z w e aa ys):kM Z' w e aa ys:=fun i hi =>
 let ⟨b,o,h1,es,h2,h3,h4⟩:=h i hi
 ⟨b,o,h1,es,h2,h3,h4.flat hf⟩
theorem kM.jP{Z:Nat->Prop}{e' e:Ty}{aa:Option Addr}{xs:List e'.den}{ys:List e.den}(h:kM Z w e' aa xs)(k:SX.jP e' e xs=some ys):kM Z w e aa ys:=by
 intro i hi
 obtain⟨b,o,h1,es,h2,h3,h4⟩:=h i (by rw[<-l8 k];exact hi)
 rw[(rY k).1] at h2 h3
 exact⟨b,o,h1,es,h2,h3,Ka k hi h4⟩
theorem E8(he:∀ n,(hp n).ok V hp w n){e:Ty}{c:C}{ys:List e.den}{f:Bool}{v:Value}(h:my hp e c=some ys)(hf:lI hp e c=some f)(ho:C.ok V hp w c v) :
 ∃ aa cap,v = .slice aa ys.length cap/\ys.length<=cQ/\kM (V.Z f) w e aa ys:=by
 have fix:∀ {fr:Bool} {aa:Option Addr} {ys:List e.den},kM (V.Z fr) w e aa ys->kM (V.Z (e.flat||fr)) w e aa ys:=by
  intro fr aa ys h
  cases eX:e.flat with
  | true=>exact A7 eX h
  | false=>rw[Bool.false_or];exact h
 unfold my at h
 split at h
 ·rename_i fr e' xs
  simp only[lI,Option.some.injEq] at hf;subst hf
  obtain⟨aa,cap,h1,_,h3,h4⟩:=qn (m4 ho h)
  exact⟨aa,cap,h1,h3,fix h4⟩
 ·rename_i n e' xs
  split at h
  ·rename_i hk;subst hk;injection h with h;subst h
   simp only[lI] at hf
   split at hf
   ·rename_i eX
    injection hf with hf;subst hf
    obtain⟨aa,cap,h1,_,h3,h4⟩:=qn ho.2
    exact⟨aa,cap,h1,h3,A7 eX h4⟩
   ·cases hf
  ·cases h
 ·rename_i n
  split at h
  ·rename_i fr e' bI hn
   simp only[lI,hn,Option.some.injEq] at hf;subst hf
   obtain⟨aW,e2,lO,h3,h4⟩:=ho
   rw[hn] at h3
   injection h3 with e1 e2 e3
   subst e1;subst e2;cases e3
   have h5:=he n
   rw[hn] at h5
   obtain⟨aa,cap,g1,_,g3,g4⟩:=um h5 h4 (Nat.le_refl _)
   rw[List.take_length] at g1 g3 g4
   exact⟨aa,cap,by rw[l8 h];exact g1,by rw[l8 h];exact g3,fix (g4.jP h)⟩
  ·cases h
 ·rename_i n mm
  split at h
  ·rename_i fr e' bI hn
   simp only[lI,hn,Option.some.injEq] at hf;subst hf
   obtain⟨aW,e2,lO,h3,h6,h4⟩:=ho
   rw[hn] at h3
   injection h3 with e1 e2 e3
   subst e1;subst e2;cases e3
   have h5:=he n
   rw[hn] at h5
   obtain⟨aa,cap,g1,_,g3,g4⟩:=um h5 h4 h6
   exact⟨aa,cap,by rw[l8 h];exact g1,by rw[l8 h];exact g3,fix (g4.jP h)⟩
  ·cases h
 ·rename_i fr wh e' b xs
  simp only[lI,Option.some.injEq] at hf;subst hf
  obtain⟨aa,cap,h1,_,h3,h4⟩:=qn (m4 (vF ho) h)
  exact⟨aa,cap,h1,h3,fix h4⟩
 ·injection h with h;subst h
  rw[ho.1]
  exact⟨none,0,rfl,Nat.zero_le _,fun i hi=>by simp at hi⟩
 ·cases h
theorem yy{Z:Nat->Prop}{e:Ty}{aa:Option Addr}{ys:List e.den}(h:kM Z w e aa ys):∃ news:List Value,news.length=ys.length*e.size ∧
 (0<ys.length->∃ b o,aa=some ⟨b,o,none⟩/\∀(j:Nat) u,news[j]? = some u->w.cell? ⟨b,o+j,none⟩=some u)/\(∀ u∈news,u.oneCell'=true) ∧
 ∀ i (h:i<ys.length),∃ es,es.length=e.size/\(∀(j:Nat) u,es[j]? = some u->news[i*e.size+j]? = some u)/\aH Z w e es ys[i]:=by
 cases ys with
 | nil=>exact⟨[],by simp,fun h=>by simp at h,fun u hu=>by simp at hu,fun i hi=>by simp at hi⟩
 | cons y0 yr =>
   generalize yM:y0::yr=ys at *
   have lu:0<ys.length:=by rw[<-yM];simp
   obtain⟨b,o,rfl,_⟩:=h 0 lu
   have ck:=e.size_pos
   have hk:∀ k,k<ys.length*e.size->∃ u,w.cell? ⟨b,o+k,none⟩=some u/\u.oneCell'=true:=by
    intro k hk
    have hi:k/e.size<ys.length:=by rw[Nat.div_lt_iff_lt_mul ck];exact hk
    obtain⟨b',o',hb,es,h1,h2,h3⟩:=h _ hi
    injection hb with hb
    injection hb with iF uA
    subst iF;subst uA
    have hj:k%e.size<es.length:=by rw[h1];exact Nat.mod_lt _ ck
    have:=h2 (k%e.size) hj
    have Tv:k/e.size*e.size+k%e.size=k:=by rw[Nat.mul_comm];exact Nat.div_add_mod k e.size
    rw[Nat.add_assoc,Tv] at this
    exact⟨_,this,aH.ec h3 _ (List.getElem_mem _)⟩
   refine⟨(List.range (ys.length*e.size)).map (fun k=>(w.cell? ⟨b,o+k,none⟩).getD undef),by simp,fun _=>⟨b,o,rfl,fun j u hu=>?_⟩,fun u hu=>?_,fun i hi=>?_⟩
   ·rw[List.getElem?_map] at hu
    cases hj:(List.range (ys.length*e.size))[j]? with
    | none=>rw[hj] at hu;cases hu
    | some k =>
      rw[hj] at hu
      have HA:=(List.getElem?_eq_some_iff.1 hj).1
      have TJ:k=j:=by have:=(List.getElem?_eq_some_iff.1 hj).2;simpa using this.symm
      subst TJ
      simp only[List.length_range] at HA
      simp only[Option.map_some,Option.some.injEq] at hu
      obtain⟨u',h1,_⟩:=hk k HA
      rw[h1] at hu ⊢
      simpa using hu
   ·rw[List.mem_map] at hu
    obtain⟨k,pv,rfl⟩:=hu
    obtain⟨u',h1,h2⟩:=hk k (List.mem_range.1 pv)
    rw[h1];exact h2
   ·obtain⟨b',o',hb,es,h1,h2,h3⟩:=h i hi
    injection hb with hb
    injection hb with iF uA
    subst iF;subst uA
    refine⟨es,h1,fun j u hu=>?_,h3⟩
    have hj:=(List.getElem?_eq_some_iff.1 hu).1
    have aK:i*e.size+j<ys.length*e.size:=by
     have:(i+1)*e.size<=ys.length*e.size:=Nat.mul_le_mul_right _ hi
     rw[Nat.add_mul,Nat.one_mul] at this;omega
    rw[List.getElem?_map,List.getElem?_range aK]
    have h5:=h2 j hj
    rw[Nat.add_assoc] at h5
    simp only[Option.map_some,h5,Option.getD_some]
    rw[List.getElem?_eq_getElem hj] at hu
    exact hu
end
end Go.SX
/- Append, in the words of the state. No condition. -/
namespace Go.SX
open Go.RowKit
set_option linter.unusedVariables false
set_option linter.unusedSimpArgs false
section
variable {P : Program} {T : bT} {base : Nat} {M : LM} {w0 : World} {V : Vl} {w : World} {a : Act} {next : Act → World → Prop} {Q : Exit → Act → World → Prop}
def Vl.move(V:Vl)(m g:Nat):Vl where
 aI n:=if n=m then g else V.aI n
 has n:=if n=m then True else V.has n
 Z0:=V.Z0
 Z1:=V.Z1
theorem u_{Z Z':Nat->Prop}{w':World}{e:Ty}{ay cS:Array Value}{xs ys:List e.den}{news:List Value}(h1:vt Z w e ay xs)(h2:news.length=ys.length*e.size)
 (h3:∀ i (h:i<ys.length),∃ es,es.length=e.size/\(∀(j:Nat) u,es[j]? = some u->news[i*e.size+j]? = some u)/\aH Z' w e es ys[i])
 (h4:cS.toList.take ((xs.length+ys.length)*e.size)=ay.toList.take (xs.length*e.size)++news) (h5:xs.length*e.size<=ay.size) {Z2:Nat->Prop}
 (g1:∀ {cs:List Value} {d:e.den},aH Z w e cs d->aH Z2 w' e cs d) (g2:∀ {cs:List Value} {d:e.den},aH Z' w e cs d->aH Z2 w' e cs d):vt Z2 w' e cS (xs++ys):=by
 have Qb:∀ k u,k<(xs.length+ys.length)*e.size->(ay.toList.take (xs.length*e.size)++news)[k]? = some u->cS[k]? = some u:=by
  intro k u hk hu
  rw[<-h4,List.getElem?_take,if_pos hk] at hu
  simpa using hu
 have hl:(ay.toList.take (xs.length*e.size)).length=xs.length*e.size:=by
  have hv:ay.toList.length=ay.size:=Array.length_toList
  rw[List.length_take,hv];exact Nat.min_eq_left h5
 intro i hi
 rw[List.length_append] at hi
 rcases Nat.lt_or_ge i xs.length with h|h
 ·obtain⟨es,q1,q2,q3⟩:=h1 i h
  refine⟨es,q1,fun j u hu=>?_,by rw[List.getElem_append_left h];exact g1 q3⟩
  have hj:j<e.size:=by rw[<-q1];exact (List.getElem?_eq_some_iff.1 hu).1
  have aK:i*e.size+j<xs.length*e.size:=by
   have:(i+1)*e.size<=xs.length*e.size:=Nat.mul_le_mul_right _ h
   rw[Nat.add_mul,Nat.one_mul] at this;omega
  refine Qb _ u (by rw[Nat.add_mul];omega) ?_
  rw[List.getElem?_append_left (by rw[hl];exact aK),List.getElem?_take,if_pos aK]
  have:=q2 j u hu
  simpa using this
 ·obtain⟨es,q1,q2,q3⟩:=h3 (i-xs.length) (by omega)
  refine⟨es,q1,fun j u hu=>?_,by rw[List.getElem_append_right h];exact g2 q3⟩
  have hj:j<e.size:=by rw[<-q1];exact (List.getElem?_eq_some_iff.1 hu).1
  have hmul:i*e.size=xs.length*e.size+(i-xs.length)*e.size:=by rw[<-Nat.add_mul];congr 1;omega
  have aK:i*e.size+j<(xs.length+ys.length)*e.size:=by
   have:(i+1)*e.size<=(xs.length+ys.length)*e.size:=Nat.mul_le_mul_right _ (by omega)
   rw[Nat.add_mul,Nat.one_mul] at this;omega
  refine Qb _ u aK ?_
  rw[List.getElem?_append_right (by rw[hl];omega),hl,show i*e.size+j-xs.length*e.size=(i-xs.length)*e.size+j by omega]
  exact q2 j u hu
theorem Am{st:St}{ts:Array Value}(r:Rel base M w0 V st ts w){m:Nat}{fr aW:Bool}{e:Ty}{xs bI:List e.den}(hm:st.aB m = .row fr e xs){w':World}{V':Vl}
 (pv:Kept base M w0 w') (ck:w.heap.size<=w'.heap.size) (pq:∀ b,b<w.heap.size->(V.has m->b≠V.aI m)->w'.heap[b]? = w.heap[b]?)
 (hV:∀ n,n≠m->V'.aI n=V.aI n/\(V'.has n↔V.has n)) (yN:V'.Z0=V.Z0) (Oa:V'.Z1=V.Z1)
 (fv:∀ aJ,aJ m = .row aW e bI->(az.row aW e bI).ok V' aJ w' m) (sK:V'.has m->(base<=V'.aI m\/M (V'.aI m))/\V'.aI m<w'.heap.size/\(w.heap.size<=V'.aI m\/(V.has m/\V'.aI m=V.aI m)))
 (j_:aW=true->V'.has m->base<=V'.aI m) (IH:(az.row aW e bI).eH->V'.has m->M.nm (V'.aI m) m) (II:V'.has m->∀ i∈(az.row aW e bI).gJ,m=0->M i) :
 Rel base M w0 V' { (st.map (bQ m)) with hp:=b9 (st.map (bQ m)).hp m (.row aW e bI) } ts w':=by
 have r1:=r.kill (wI m)
 have mm:=r1.mem
 have hl:(st.aB m).live=true:=by rw[hm];rfl
 have aK:m<st.hp.length:=ri hl
 have gH:(St.mk (st.map (bQ m)).ts (b9 (st.map (bQ m)).hp m (.row aW e bI))).aB=aG (bY (bQ m) st.aB) m (.row aW e bI):=by
  rw[oG (by show m<(lmap _ _).length;rw[bP,List.length_map];exact aK)]
  congr 1
  exact kx st _
 rw[kx] at mm
 have yJ:bY (bQ m) st.aB m = .row fr e xs:=by show (st.aB m).map _=_;rw[hm];rfl
 have hZ:∀ {f:Bool} {b:Nat},V.Z f b->V'.Z f b:=by
  intro f b h
  unfold Vl.Z at *
  rw[yN,Oa];exact h
 have P7:∀ {f:Bool} {b:Nat},V'.Z f b->V.Z f b:=by
  intro f b h
  unfold Vl.Z at *
  rw[yN,Oa] at h;exact h
 have x:VX V (jH (bY (bQ m) st.aB) m) w V' (aG (bY (bQ m) st.aB) m (.row aW e bI)) w':=by
  refine⟨fun n hn=>?_,fun b h=>by rw[yN];exact h,fun b h=>by rw[Oa];exact h,fun b h=>?_,fun n hn hh=>?_⟩
  ·have bo:n≠m:=fun e=>by subst e;simp[jH,az.live] at hn
   exact⟨(hV n bo).1,(hV n bo).2,by simp only[aG,jH,if_neg bo]⟩
  ·exact pq b (mm.AI h) (fun hh e=>by subst e;exact (r.mem.own m hl hh).2.2 (Vl.eD h))
  ·have bo:n≠m:=fun e=>by subst e;simp[jH,az.live] at hn
   rw[fV bo] at hn
   refine pq _ (mm.own n hn hh).2.1 (fun KJ e=>bo (mm.fZ n m hn (by rw[yJ];rfl) hh KJ e))
 have nn:∀ {c:C} {v:Value},C.ok V (bY (bQ m) st.aB) w c v->c ≠ .own m->(∀ h,c ≠ .pre m h)->(∀ e xs,c ≠ .eK m e xs)->(∀ i o,c ≠ .dR m i o)->c.names m=false:=by
  intro c v h h1 h2 h3 h4
  cases c with
  | own n=>simp only[C.names,beq_eq_false_iff_ne];exact fun e=>h1 (by rw[e])
  | pre n k=>simp only[C.names,beq_eq_false_iff_ne];exact fun e=>h2 k (by rw[e])
  | eK n e' ys=>simp only[C.names,beq_eq_false_iff_ne];exact fun e=>h3 e' ys (by rw[e])
  | dR n i o=>simp only[C.names,beq_eq_false_iff_ne];exact fun e=>h4 i o (by rw[e])
  | box n o =>
    simp only[C.names,beq_eq_false_iff_ne]
    intro e;subst e
    obtain⟨_,_,cs,h5⟩:=h
    rw[yJ] at h5;cases h5
  | jI n o =>
    simp only[C.names,beq_eq_false_iff_ne]
    intro e;subst e
    obtain⟨_,_,_,cs,h5⟩:=h
    rw[yJ] at h5;cases h5
  | fn f da =>
    simp only[C.names,List.any_eq_false,beq_iff_eq]
    intro n hn e;subst e
    obtain⟨_,cs,h5⟩:=h.2 n hn
    rw[yJ] at h5;cases h5
  | _=>rfl
 have hk:∀ c,bQ m c ≠ .own m/\(∀ h,bQ m c ≠ .pre m h)/\(∀ e xs,bQ m c ≠ .eK m e xs)/\(∀ i o,bQ m c ≠ .dR m i o):=by
  intro c
  cases c<;>simp only[bQ]<;>(try split)<;>simp_all
 have tn:mG V st.aB w (bQ m) V' (aG (bY (bQ m) st.aB) m (.row aW e bI)) w':=by
  intro c v h
  have h1:=C.rH (wI m) h
  obtain⟨k1,k2,k3,k4⟩:=hk c
  exact C.ja x (C.I0 (nn h1 k1 k2 k3 k4) h1)
 have gG:∀ n,n≠m->(aG (bY (bQ m) st.aB) m (.row aW e bI) n).live=true->(st.aB n).live=true:=by
  intro n hn h
  simp only[aG,if_neg hn] at h
  rw[<-mv (f:=bQ m)];exact h
 refine⟨r1.len,fun i s v hs hv=>?_,?_⟩
 ·rw[gH]
  have bw:(lmap (S.map (bQ m)) st.ts)[i]? = some s:=hs
  rw[bP,List.getElem?_map] at bw
  cases hx:st.ts[i]? with
  | none=>rw[hx] at bw;cases bw
  | some y =>
    rw[hx] at bw
    simp only[Option.map_some,Option.some.injEq] at bw
    subst bw
    exact tn.s (r.iM i y v hx hv)
 ·rw[gH]
  refine⟨fun n=>?_,fun n cs h=>?_,fun n df hh=>?_,fun n e2 lO h hh=>?_,fun n n' h1 h2 hh nW he=>?_,fun b hb=>by rw[yN] at hb;exact mm.z0 b hb,fun b hb=>?_,pv,fun n df hh=>?_,fun b hb=>?_,fun n hh i hi=>?_⟩
  ·by_cases hn:n=m
   ·subst hn
    have hv:aG (bY (bQ n) st.aB) n (.row aW e bI) n = .row aW e bI:=by simp only[aG,if_true]
    rw[hv]
    exact fv _ hv
   ·have hv:aG (bY (bQ m) st.aB) m (.row aW e bI) n=(st.aB n).map (bQ m):=by simp only[aG,if_neg hn];rfl
    have h0:=r.mem.dx n
    have N9:=hV n hn
    rw[hv]
    cases bo:st.aB n with
    | dead=>trivial
    | bx cs =>
      rw[bo] at h0
      obtain⟨ay,el,h2,h3⟩:=h0
      have IF:=r.mem.box n cs bo
      refine⟨ay,el,?_,tn.all h3⟩
      rw[N9.1,pq _ (r.mem.own n (by rw[bo];rfl) IF).2.1 (fun KJ e=>hn (r.mem.fZ n m (by rw[bo];rfl) hl IF KJ e))]
      exact h2
    | row pV e2 lO =>
      rw[bo] at h0
      rcases h0 with ⟨h2,tK⟩|⟨h2,ay,el,h3,h4,h5⟩
      ·exact .inl ⟨fun h=>h2 (N9.2.1 h),tK⟩
      ·refine .inr ⟨N9.2.2 h2,ay,el,?_,h4,fun i hi=>?_⟩
       ·rw[N9.1,pq _ (r.mem.own n (by rw[bo];rfl) h2).2.1 (fun KJ e=>hn (r.mem.fZ n m (by rw[bo];rfl) hl h2 KJ e))]
        exact h3
       ·obtain⟨es,q1,q2,q3⟩:=h5 i hi
        exact⟨es,q1,q2,q3.mono (fun b hb=>hZ hb) (fun b hb=>x.J8 b (Vl.eD hb))⟩
  ·have hn:n≠m:=fun e=>by subst e;simp[aG] at h
   simp only[aG,if_neg hn] at h
   exact (hV n hn).2.2 (mm.box n cs h)
  ·by_cases hn:n=m
   ·subst hn
    obtain⟨k1,k2,k3⟩:=sK hh
    refine⟨k1,k2,fun hz=>?_⟩
    rcases k3 with k3|⟨k3,k4⟩
    ·have:=mm.AI (P7 hz);omega
    ·exact (r.mem.own n hl k3).2.2 (by rw[<-k4];exact P7 hz)
   ·have na:=gG n hn df
    have Dy:=(hV n hn).2.1 hh
    obtain⟨k1,k2,k3⟩:=r.mem.own n na Dy
    rw[(hV n hn).1]
    exact⟨k1,by omega,fun hz=>k3 (P7 hz)⟩
  ·by_cases hn:n=m
   ·subst hn
    have hv:aG (bY (bQ n) st.aB) n (.row aW e bI) n = .row aW e bI:=by simp only[aG,if_true]
    rw[hv] at h
    injection h with h1 h2 h3
    exact j_ h1 hh
   ·simp only[aG,if_neg hn] at h
    rw[(hV n hn).1]
    exact mm.iZ n e2 lO h ((hV n hn).2.1 hh)
  ·by_cases hn:n=m
   ·by_cases iU:n'=m
    ·rw[hn,iU]
    ·subst hn
     exfalso
     have na:=gG n' iU h2
     have Dy:=(hV n' iU).2.1 nW
     rw[(hV n' iU).1] at he
     rcases (sK hh).2.2 with k3|⟨k3,k4⟩
     ·have:=(r.mem.own n' na Dy).2.1;omega
     ·exact iU (r.mem.fZ n' n na hl Dy k3 (by rw[<-he,k4]))
   ·by_cases iU:n'=m
    ·subst iU
     exfalso
     have na:=gG n hn h1
     have Dy:=(hV n hn).2.1 hh
     rw[(hV n hn).1] at he
     rcases (sK nW).2.2 with k3|⟨k3,k4⟩
     ·have:=(r.mem.own n na Dy).2.1;omega
     ·exact hn (r.mem.fZ n n' na hl Dy k3 (by rw[he,k4]))
    ·rw[(hV n hn).1,(hV n' iU).1] at he
     exact r.mem.fZ n n' (gG n hn h1) (gG n' iU h2) ((hV n hn).2.1 hh) ((hV n' iU).2.1 nW) he
  ·rw[Oa] at hb;have:=mm.z1 b hb;omega
  ·by_cases hn:n=m
   ·subst hn
    simp only[aG,if_true] at df
    exact IH df hh
   ·simp only[aG,if_neg hn] at df
    rw[(hV n hn).1]
    exact mm.pz n df ((hV n hn).2.1 hh)
  ·obtain⟨q1,q2⟩:=r.mem.oh b hb
   have hn:0≠m:=fun e=>by subst e;rw[hm] at q1;cases q1
   refine⟨?_,by rw[(hV 0 hn).1];exact q2⟩
   simp only[aG,if_neg hn]
   show ((st.aB 0).map (bQ m)).uI=true
   rw[sR];exact q1
  ·by_cases hn:n=m
   ·subst hn
    simp only[aG,if_true] at hi
    exact II hh i hi
   ·simp only[aG,if_neg hn] at hi
    exact mm.gJ n ((hV n hn).2.1 hh) i hi
end
end Go.SX
/- The operations that write, all. No condition. -/
namespace Go.SX
open Go.RowKit
set_option linter.unusedVariables false
set_option linter.unusedSimpArgs false
section
variable {P : Program} {T : bT} {base : Nat} {M : LM} {w0 : World} {V : Vl} {hp : Nat → az} {w : World} {a : Act} {next : Act → World → Prop} {Q : Exit → Act → World → Prop}
theorem BH{o:Oper}{t:TypeId}{s x:Operand}(ho:o.op = .call { callee:=.builtin .append,args := #[s,x],argTypes := #[t,t] }){v':Value}{w':World}
 (hr:(Builtin.append_ #[t,t] o.type #[a.eval s,a.eval x]).run P w = .ok v' w') (h:next (a.put o.dst v') w'):o.wp P a w next Q:=by
 unfold Oper.wp execOp
 simp only[ho,resolve,invoke,builtin,Sem.run_bind,Sem.run_pure,Result.andThen_ok,List.map_toArray,List.map_cons,List.map_nil,hr]
 exact h
theorem kept_refl(w:World):Kept w.heap.size tP w w:=⟨rfl,rfl,rfl,Nat.le_refl _,fun _ _ _=>rfl,fun _ _ _ _ h _=>h.elim⟩
theorem pC(V:Vl)(m g:Nat):(V.move m g).aI m=g:=by simp[Vl.move]
theorem D4(V:Vl)(m g:Nat):(V.move m g).has m:=by simp[Vl.move]
theorem O3{V:Vl}{m g n:Nat}(h:n≠m):(V.move m g).aI n=V.aI n/\((V.move m g).has n↔V.has n):=by simp[Vl.move,h]
theorem s9{lk:Nat->az}{e:Ty}{c:C}{f:Bool}(h:lI lk e c=some f)(hf:e.flat=true):f=true:=by
 unfold lI at h
 split at h
 ·injection h with h;subst h;simp[hf]
 ·split at h
  ·injection h with h;subst h;simp[hf]
  ·cases h
 ·split at h
  ·injection h with h;subst h;simp[hf]
  ·cases h
 ·rw[if_pos hf] at h;injection h with h;exact h.symm
 ·injection h with h;subst h;simp[hf]
 ·injection h with h;exact h.symm
 ·cases h
theorem Bi{e:az}{i:Nat}(h:i∈e.gJ):e.eH:=Classical.byContradiction fun hn=>by rw[DV hn] at h;cases h
theorem Jx(lk:Nat->az)(e:Ty)(c:C):(CI lk e c).size=e.size:=by
 have one:∀ e':Ty,(if e'.de=e then e' else e).size=e.size:=fun e'=>by
  split
  ·rename_i h;rw[<-cK e',h]
  ·rfl
 unfold CI
 split
 ·split
  ·exact one _
  ·rfl
 ·split
  ·exact one _
  ·rfl
 ·exact one _
 ·rfl
theorem Im(lk:Nat->az)(e:Ty)(s x:C):(Cr lk e s x).size=e.size:=by
 unfold Cr
 split<;>exact Jx _ _ _
theorem yg (hT : bJ P T) {st : St} (r : Rel base M w0 V st a.tmps w) {o : Oper} {t te : TypeId} {es eb sz jJ : Nat} {e e0 : Ty} (yL : e.size = e0.size) {z0 : List Value} {ty : Option Ty} {lL : Option (List Bool)} {s x : Operand}
    (ho : o.op = .call { callee := .builtin .append, args := #[s, x], argTypes := #[t, t] }) (ht : T t = some { k := .sl te es eb e0, size := sz, bytes := jJ, zero := z0, ty := ty, eq := lL }) (ic : eb ≠ 0)
    {m n : Nat} {fr f : Bool} {xs ys : List e.den} (hm : st.aB m = .row fr e xs) (hn : n ≤ xs.length) (hs : dT V w m e n (a.eval s)) {c : C} (hc : C.ok V st.aB w c (a.eval x)) (yM : my st.aB e c = some ys) (hf : lI st.aB e c = some f)
    (cP : (n + ys.length) * eb ≤ 140737488355328) (uF : (e.flat || e.bW) = true → (fr && f) = true)
    (iW : ∀ v w' V', Rel base M w0 V' { (st.map (bQ m)) with hp := b9 (st.map (bQ m)).hp m (.row (fr && f) e (xs.take n ++ ys)) } a.tmps w' →
      S.ok V' (St.mk (st.map (bQ m)).ts (b9 (st.map (bQ m)).hp m (.row (fr && f) e (xs.take n ++ ys)))).aB w' (.c (.own m)) v → next (a.put o.dst v) w') : o.wp P a w next Q := by
  obtain ⟨g1, g2, i, z, g3, g4, g5, g6, g7⟩ := mA (d_ (hT t _ ht)).2.2
  obtain ⟨aa, cap, hx, hlen, iH⟩ := E8 r.mem.dx yM hf hc
  obtain ⟨news, n1, n2, n3, n4⟩ := yy iH
  have px : z.cells.size = i.size := by rw [g4, g7]; simpa using cW e0
  rw [← yL] at g4
  have ko := r.mem.dx m
  rw [hm] at ko
  have hl : (st.aB m).live = true := by rw [hm]; rfl
  have aK : m < st.hp.length := ri hl
  have gH : (St.mk (st.map (bQ m)).ts (b9 (st.map (bQ m)).hp m (.row (fr && f) e (xs.take n ++ ys)))).aB m = .row (fr && f) e (xs.take n ++ ys) := by
    rw [oG (by show m < (lmap _ _).length; rw [bP, List.length_map]; exact aK)]
    simp only [aG, if_true]
  have sJ : (xs.take n).length = n := by rw [List.length_take]; omega
  have km : n + ys.length ≤ 140737488355328 := by
    have h1 : 1 ≤ eb := Nat.pos_of_ne_zero ic
    have h2 : (n + ys.length) * 1 ≤ (n + ys.length) * eb := Nat.mul_le_mul_left _ h1
    omega
  -- the row that was
  obtain ⟨ay, g, C1, el, hv, Sq⟩ : ∃ (ay : Array Value) (g C1 : Nat) (el : TypeId), ((a.eval s = .slice none 0 0 ∧ n = 0 ∧ ay = #[]) ∨ (a.eval s = .slice (some ⟨g, 0, none⟩) n C1 ∧ w.heap[g]? = some (.cells ay el (0, 0)) ∧ ay.size = C1 * i.size ∧ n ≤ C1)) ∧
      ((¬ V.has m ∧ xs = []) ∨ (V.has m ∧ g = V.aI m ∧ w.heap[V.aI m]? = some (.cells ay el (0, 0)) ∧ vt (V.Z fr) w e ay xs ∧ xs.length * e.size ≤ ay.size ∨ False)) := by
    rcases ko with ⟨k1, k2⟩ | ⟨k1, ay, el, k2, k3, k4⟩
    · rcases hs with ⟨h1, h2, h3⟩ | ⟨h1, _⟩
      · exact ⟨#[], 0, 0, 0, .inl ⟨h2, h3, rfl⟩, .inl ⟨k1, k2⟩⟩
      · exact absurd h1 k1
    · rcases hs with ⟨h1, _⟩ | ⟨h1, oS, cS, kW, h2, h3, h4, h5⟩
      · exact absurd k1 h1
      · rw [k2] at h3
        injection h3 with h3
        injection h3 with q1 q2 q3
        subst q1
        refine ⟨ay, V.aI m, oS, el, .inr ⟨h2, k2, by rw [g4]; exact h4, h5⟩, .inr (.inl ⟨k1, rfl, k2, k4, ?_⟩)⟩
        rcases Nat.eq_zero_or_pos xs.length with h0 | h0
        · rw [h0]; simp
        · obtain ⟨ky, p1, p2, _⟩ := k4 (xs.length - 1) (by omega)
          have hp := e.size_pos
          have := p2 (e.size - 1) (ky[e.size - 1]'(by omega)) (List.getElem?_eq_getElem _)
          have h6 := (Array.getElem?_eq_some_iff.1 this).1
          have h7 : xs.length * e.size = (xs.length - 1) * e.size + e.size := by
            conv => lhs; rw [show xs.length = xs.length - 1 + 1 by omega, Nat.add_mul, Nat.one_mul]
          omega
  obtain ⟨v', w', dD, MJ, lu, hzero⟩ := rQ (ty := o.type) (z := z) g1 g3 g6 px (by rw [g4]; exact e.size_pos) (h := n) (cap := C1) (g := g) (ay := ay) (el := el) hv (aa := aa) (m := ys.length) (c := cap) (news := news) (by rw [g4]; exact n1) n2 n3 (by unfold cQ at hlen; omega) (by rw [g5]; exact cP)
  rw [← hx] at dD
  refine BH ho dD ?_
  by_cases zY : ys.length = 0
  · obtain ⟨rfl, rfl⟩ := hzero zY
    have MT : ys = [] := List.length_eq_zero_iff.1 zY
    have NQ : xs.take n ++ ys = xs.take n := by rw [MT, List.append_nil]
    refine iW _ _ V ?_ ⟨fr && f, e, _, gH, by rw [NQ, sJ]; exact hs⟩
    refine Am r hm r.mem.kept (Nat.le_refl _) (fun _ _ _ => rfl) (fun _ _ => ⟨rfl, Iff.rfl⟩) rfl rfl (fun aJ _ => ?_) (fun hh => ?_) (fun h1 hh => ?_) (fun aK hh => ?_) (fun hh q hq => ?_)
    · rw [NQ]
      rcases ko with ⟨k1, k2⟩ | ⟨k1, iO, re, k2, k3, k4⟩
      · exact .inl ⟨k1, by rw [k2]; simp⟩
      · refine .inr ⟨k1, iO, re, k2, by rw [sJ]; omega, fun j hj => ?_⟩
        rw [sJ] at hj
        obtain ⟨ky, p1, p2, p3⟩ := k4 j (by omega)
        refine ⟨ky, p1, p2, ?_⟩
        rw [List.getElem_take]
        exact p3.mono (fun b hb => gY (fun h => by simp at h; exact h.1) hb) (fun _ _ => rfl)
    · obtain ⟨q1, q2, _⟩ := r.mem.own m hl hh
      exact ⟨q1, q2, .inr ⟨hh, rfl⟩⟩
    · exact r.mem.iZ m e xs (by simp at h1; rw [hm, h1.1]) hh
    · exfalso
      have eX := eA aK
      rw [uF eX] at aK
      exact aK
    · exfalso
      have aK := Bi hq
      have eX := eA aK
      rw [uF eX] at aK
      exact aK
  · obtain ⟨g', oS, dJ⟩ := lu (by omega)
    subst dJ
    cases MJ with
    | same h1 h2 =>
      exfalso
      rcases hv with ⟨h3, _, _⟩ | ⟨h3, _⟩
      · rw [h3] at h1; cases h1
      · rw [h3] at h1; injection h1 with _ h4 _; omega
    | row Tl SJ iO re h1 h2 h3 h4 h5 h6 h7 h8 =>
      injection h1 with uy Tn P0
      injection uy with uy
      injection uy with uy
      subst uy; subst P0
      -- in place or moved
      have rq : (V.has m ∧ g' = V.aI m ∧ w'.heap.size = w.heap.size) ∨ (g' = w.heap.size ∧ w'.heap.size = w.heap.size + 1) := by
        rcases h6 with ⟨l0, e1, e2, e3⟩ | h6
        · left
          rcases hv with ⟨h9, _, _⟩ | ⟨h9, _⟩
          · rw [h9] at e1; cases e1
          · rw [h9] at e1
            injection e1 with e1 _ _
            injection e1 with e1
            injection e1 with e1
            rcases Sq with ⟨q1, q2⟩ | (⟨q1, q2, _⟩ | hF)
            · rcases hs with ⟨_, q3, _⟩ | ⟨q3, _⟩
              · rw [h9] at q3; cases q3
              · exact absurd q3 q1
            · exact ⟨q1, by rw [← e1, q2], e3⟩
            · exact hF.elim
        · exact .inr h6
      have MM : g' < w'.heap.size := (Array.getElem?_eq_some_iff.1 h2).1
      have ck : w.heap.size ≤ w'.heap.size := by rcases rq with ⟨_, _, h⟩ | ⟨_, h⟩ <;> omega
      have pq : ∀ b, b < w.heap.size → (V.has m → b ≠ V.aI m) → w'.heap[b]? = w.heap[b]? := by
        intro b hb bo
        refine h7 b (fun e => ?_) hb
        rcases rq with ⟨q1, q2, _⟩ | ⟨q1, _⟩
        · exact bo q1 (by rw [e, q2])
        · omega
      have N1 : base ≤ g' ∨ M g' := by
        rcases rq with ⟨q1, q2, _⟩ | ⟨q1, _⟩
        · rw [q2]; exact (r.mem.own m hl q1).1
        · left; have := r.mem.kept.size; omega
      have Rx : Kept base M w0 w' := by
        refine ⟨h8.1.trans r.mem.kept.os, h8.2.1.trans r.mem.kept.tape, h8.2.2.trans r.mem.kept.output, Nat.le_trans r.mem.kept.size ck, fun b hb hM => ?_, fun b Oo RX hb hM N8 => ?_⟩
        · rw [h7 b (fun e => by subst e; rcases N1 with h | h; omega; exact hM h) (by have := r.mem.kept.size; omega)]
          exact r.mem.kept.block b hb hM
        · by_cases KB : b = g'
          · subst KB
            obtain ⟨Oq, Hr, j1, j2⟩ := r.mem.kept.shape b Oo RX hb hM N8
            rcases h6 with ⟨l0, e1, _, _⟩ | ⟨h6, _⟩
            · rcases hv with ⟨h9, _, _⟩ | ⟨h9, k9, Uk, _⟩
              · rw [h9] at e1; cases e1
              · rw [h9] at e1
                injection e1 with e1 _ e2
                injection e1 with e1
                injection e1 with e1
                subst e1; subst e2
                rw [k9] at j1
                injection j1 with j1
                injection j1 with j1 _ _
                subst j1
                exact ⟨iO, re, h2, by rw [h3, ← Uk]; exact j2⟩
            · exfalso; have := r.mem.kept.size; omega
          · obtain ⟨Oq, Hr, j1, j2⟩ := r.mem.kept.shape b Oo RX hb hM N8
            exact ⟨Oq, Hr, by rw [h7 b KB (by have := r.mem.kept.size; omega)]; exact j1, j2⟩
      have NP : ∀ {f : Bool} {b : Nat}, V.Z f b → w'.heap[b]? = w.heap[b]? := by
        intro f b hb
        exact pq b (r.mem.AI hb) (fun hh e => by subst e; exact (r.mem.own m hl hh).2.2 (Vl.eD hb))
      have QA : vt ((V.move m g').Z (fr && f)) w' e iO (xs.take n ++ ys) := by
        have NA : vt (V.Z fr) w e ay (xs.take n) ∧ (xs.take n).length * e.size ≤ ay.size := by
          rcases Sq with ⟨q1, q2⟩ | (⟨q1, q2, q3, q4, q5⟩ | hF)
          · refine ⟨fun j hj => ?_, ?_⟩
            · rw [q2] at hj; simp at hj
            · rw [q2]; simp
          · refine ⟨fun j hj => ?_, ?_⟩
            · rw [sJ] at hj
              obtain ⟨ky, p1, p2, p3⟩ := q4 j (by omega)
              exact ⟨ky, p1, p2, by rw [List.getElem_take]; exact p3⟩
            · rw [sJ]
              have : n * e.size ≤ xs.length * e.size := Nat.mul_le_mul_right _ hn
              omega
          · exact hF.elim
        refine u_ NA.1 n1 n4 (by rw [sJ, ← g4]; exact h5) NA.2 (fun fg => ?_) (fun fg => ?_)
        · exact fg.mono (fun b hb => gY (fun h => by simp at h; exact h.1) hb) (fun b hb => NP hb)
        · exact fg.mono (fun b hb => gY (fun h => by simp at h; exact h.2) hb) (fun b hb => NP hb)
      have P8 : (xs.take n ++ ys).length = n + ys.length := by rw [List.length_append, sJ]
      refine iW _ _ (V.move m g') ?_ ⟨fr && f, e, _, gH, .inr ⟨D4 V m g', oS, iO, re, by rw [pC, P8], by rw [pC]; exact h2, by rw [← g4]; exact h3, by rw [P8]; exact h4⟩⟩
      refine Am r hm Rx ck pq (fun n hn => O3 hn) rfl rfl (fun aJ _ => ?_) (fun _ => ?_) (fun h9 _ => ?_) (fun aK _ => ?_) (fun _ q hq => ?_)
      · exact .inr ⟨D4 V m g', iO, re, by rw [pC]; exact h2, by rw [P8]; unfold cQ; omega, QA⟩
      · rw [pC]
        refine ⟨N1, MM, ?_⟩
        rcases rq with ⟨q1, q2, _⟩ | ⟨q1, _⟩
        · exact .inr ⟨q1, q2⟩
        · exact .inl (by omega)
      · rw [pC]
        rcases rq with ⟨q1, q2, _⟩ | ⟨q1, _⟩
        · rw [q2]; exact r.mem.iZ m e xs (by simp at h9; rw [hm, h9.1]) q1
        · have := r.mem.kept.size; omega
      · exfalso
        have eX := eA aK
        rw [uF eX] at aK
        exact aK
      · exfalso
        have aK := Bi hq
        have eX := eA aK
        rw [uF eX] at aK
        exact aK
theorem Ds(m:Mem base M w0 V hp w){w':World}(k:Kept w.heap.size tP w w'){nx:Nat}(hd:hp nx = .dead)(b:Option Nat)(hb:∀ g,b=some g->w.heap.size<=g/\g<w'.heap.size)(e:az)(jT:∀ cs,e = .bx cs->b.isSome=true)(res:S)(v:Value)(yK:¬e.eH)
 (he:∀ V' aJ,VX V hp w V' aJ w'->(V'.has nx↔b.isSome=true)->(∀ g,b=some g->V'.aI nx=g)->aJ nx=e->e.ok V' aJ w' nx/\S.ok V' aJ w' res v) :
 ∃ V',Good base M w0 V hp w nx res [e] none v w' V':=by
 have cG:∀ j,j<[e].length->hp (nx+j) = .dead:=fun j hj=>by
  have:j=0:=by simp at hj;omega
  subst this;exact hd
 have x:=VX.rG m k (nx:=nx) (es:=[e]) (bs:=[b]) (Z:=fun _=>False) rfl cG
 have h1:(V.ext nx [b] (fun _=>False)).has nx↔b.isSome=true:=Vl.jQ (V:=V) (nx:=nx) (bs:=[b]) (Z:=fun _=>False) (j:=0) (b:=b) rfl
 have h2:∀ g,b=some g->(V.ext nx [b] (fun _=>False)).aI nx=g:=fun g hg=>Vl.mL (nx:=nx) (j:=0) (by simp[hg])
 have h3:cZ hp nx [e] nx=e:=p7 (nx:=nx) (j:=0) rfl
 obtain⟨g1,g2⟩:=he _ _ x h1 h2 h3
 refine⟨_,⟨m.grow k rfl cG (by cases b<;>simp) (fun g hg=>?_) (fun b hb=>hb.elim) (fun j cs hj=>?_) (fun j e' hj=>?_) (fun e' eF=>by rw[List.mem_singleton.1 eF];exact yK),x,g2,fun p h=>by cases h⟩⟩
 ·simp only[List.mem_singleton] at hg
  obtain⟨k1,k2⟩:=hb g hg.symm
  exact⟨k1,k2,fun h=>h⟩
 ·have:j=0:=by have:=(List.getElem?_eq_some_iff.1 hj).1;simp at this;omega
  subst this
  simp only[List.getElem?_cons_zero,Option.some.injEq] at hj
  obtain⟨g,hg⟩:=Option.isSome_iff_exists.1 (jT cs hj)
  exact⟨g,by simp[hg]⟩
 ·have:j=0:=by have:=(List.getElem?_eq_some_iff.1 hj).1;simp at this;omega
  subst this
  simp only[List.getElem?_cons_zero,Option.some.injEq] at hj;subst hj
  exact g1
theorem append_nil(hT:bJ P T){st:St}(r:Rel base M w0 V st a.tmps w){o:Oper}{t te:TypeId}{es eb sz jJ:Nat}{e e0:Ty}(yL:e.size=e0.size){z0:List Value}{ty:Option Ty}{lL:Option (List Bool)}{s x:Operand}
 (ho:o.op = .call { callee:=.builtin .append,args := #[s,x],argTypes := #[t,t] }) (ht:T t=some { k:=.sl te es eb e0,size:=sz,bytes:=jJ,zero:=z0,ty:=ty,eq:=lL }) (ic:eb≠0)
 {f:Bool} {ys:List e.den} (hs:a.eval s = .slice none 0 0) {c:C} (hc:C.ok V st.aB w c (a.eval x)) (yM:my st.aB e c=some ys) (hf:lI st.aB e c=some f)
 (cP:ys.length*eb<=140737488355328) (TB:e.bW=true->f=true)
 (iW:∀ v w' V',Rel base M w0 V' (st.alloc [.row f e ys]) a.tmps w'->S.ok V' (st.alloc [.row f e ys]).aB w' (.c (.own (bf st.hp))) v->next (a.put o.dst v) w'):o.wp P a w next Q:=by
 obtain⟨g1,g2,i,z,g3,g4,g5,g6,g7⟩:=mA (d_ (hT t _ ht)).2.2
 obtain⟨aa,cap,hx,hlen,iH⟩:=E8 r.mem.dx yM hf hc
 obtain⟨news,n1,n2,n3,n4⟩:=yy iH
 have px:z.cells.size=i.size:=by rw[g4,g7];simpa using cW e0
 rw[<-yL] at g4
 have uF:(e.flat||e.bW)=true->f=true:=fun h=>by
  cases pt:e.flat with
  | true=>exact s9 hf pt
  | false=>rw[pt,Bool.false_or] at h;exact TB h
 obtain⟨v',w',dD,MJ,lu,hzero⟩:=rQ (ty:=o.type) (z:=z) g1 g3 g6 px (by rw[g4];exact e.size_pos) (h:=0) (cap:=0) (g:=0) (ay := #[]) (el:=0) (.inl ⟨hs,rfl,rfl⟩) (aa:=aa) (m:=ys.length) (c:=cap) (news:=news) (by rw[g4];exact n1) n2 n3 (by unfold cQ at hlen;omega) (by rw[g5,Nat.zero_add];exact cP)
 rw[<-hx] at dD
 refine BH ho dD ?_
 have hd:st.aB (bf st.hp) = .dead:=xi st 0
 by_cases zY:ys.length=0
 ·obtain⟨rfl,rfl⟩:=hzero zY
  have MT:ys=[]:=List.length_eq_zero_iff.1 zY
  obtain⟨V',hg⟩:=Ds r.mem (kept_refl w') hd none (fun g hg=>by cases hg) (.row f e ys) (fun cs h=>by cases h) (.c (.own (bf st.hp))) (a.eval s) (fun aK=>by rw[uF (eA aK)] at aK;exact aK)
   (fun V' aJ _ k1 _ k3=>by
     have Si:¬V'.has (bf st.hp):=fun h=>by have:=k1.1 h;cases this
     exact⟨.inl ⟨Si,MT⟩,f,e,ys,k3,.inl ⟨Si,hs,zY⟩⟩)
  obtain⟨q1,q2⟩:=s5 r hg
  exact iW _ _ V' q1 q2
 ·obtain⟨g',oS,dJ⟩:=lu (by omega)
  subst dJ
  cases MJ with
  | same h1 h2=>rw[hs] at h1;cases h1
  | row Tl SJ iO re h1 h2 h3 h4 h5 h6 h7 h8 =>
    injection h1 with uy Tn P0
    injection uy with uy
    injection uy with uy
    subst uy;subst P0
    have rq:g'=w.heap.size/\w'.heap.size=w.heap.size+1:=by
     rcases h6 with ⟨l0,e1,_,_⟩|h6
     ·rw[hs] at e1;cases e1
     ·exact h6
    have hk:Kept w.heap.size tP w w':=⟨h8.1,h8.2.1,h8.2.2,by omega,fun b hb _=>h7 b (by omega) hb,fun _ _ _ _ h _=>h.elim⟩
    have km:ys.length<=140737488355328:=by
     have h1:1<=eb:=Nat.pos_of_ne_zero ic
     have h2:ys.length*1<=ys.length*eb:=Nat.mul_le_mul_left _ h1
     omega
    obtain⟨V',hg⟩:=Ds r.mem hk hd (some g') (fun g hg=>by injection hg with hg;subst hg;omega) (.row f e ys) (fun cs h=>by cases h) (.c (.own (bf st.hp))) (.slice (some ⟨g',0,none⟩) (0+ys.length) oS) (fun aK=>by rw[uF (eA aK)] at aK;exact aK)
     (fun V' aJ x k1 k2 k3=>by
       have hh:V'.has (bf st.hp):=k1.2 rfl
       have hb:=k2 g' rfl
       refine⟨.inr ⟨hh,iO,re,by rw[hb];exact h2,by unfold cQ;omega,?_⟩,f,e,ys,k3,.inr ⟨hh,oS,iO,re,by rw[hb,Nat.zero_add],by rw[hb];exact h2,by rw[<-g4];exact h3,by rw[Nat.zero_add] at h4;exact h4⟩⟩
       have:=u_ (Z:=V.Z f) (Z':=V.Z f) (Z2:=V'.Z f) (w:=w) (w':=w') (e:=e) (ay := #[]) (cS:=iO) (xs:=[]) (ys:=ys) (news:=news) (fun j hj=>by simp at hj) n1 n4 (by simpa[g4] using h5) (by simp) (fun fg=>x.rd fg) (fun fg=>x.rd fg)
       rw[List.nil_append] at this
       exact this)
    obtain⟨q1,q2⟩:=s5 r hg
    exact iW _ _ V' q1 q2
theorem Ko(hT:bJ P T){st:St}(r:Rel base M w0 V st a.tmps w){o:Oper}{er:ER}(h:NK T st o.op=some er)(cP:∀ p,er.ob=some p->p)
 (iW:∀ v w' V',Rel base M w0 V' er.st a.tmps w'->S.ok V' er.st.aB w' er.res v->next (a.put o.dst v) w'):o.wp P a w next Q:=by
 unfold NK at h
 split at h
 ·rename_i t p x ho
  cases he:yw T st t p x with
  | some r0 =>
    rw[he] at h
    injection h with h;subst h
    exact (Kq hT r ho he).2 (fun w' V' h1 h2=>iW _ w' V' h1 h2)
  | none =>
    rw[he] at h
    exact Iw hT r ho h cP (fun w' V' h1 h2=>iW _ w' V' h1 h2)
 ·rename_i t n parts ho
  unfold wy at h
  simp only at h
  generalize UY:uQ st parts.toList=ns at h
  obtain⟨V1,r1⟩:=r.gF ns
  generalize S7:st.gF ns=dv at *
  rw[bP] at h
  cases hq:ix T dv.aB (bf dv.hp) t n (parts.toList.map fun p=>(p.1,dv.eval p.2)) with
  | none=>rw[hq] at h;cases h
  | some qr =>
    rw[hq] at h
    injection h with h;subst h
    have lS:=mX (V:=V1) (hp:=dv.aB) (w:=w) (f:=dv.eval) (g:=a.eval) r1.eval parts.toList
    obtain⟨v,w',V',h1,h2⟩:=qd (qs:=parts.map fun (i,x)=>(i,a.eval x)) hT r1.mem (xi dv 0) hq (by simpa using lS)
    obtain⟨q1,q2⟩:=s5 r1 h2
    refine cw (v:=v) (w':=w') ?_ (iW v w' V' q1 q2)
    simp only[ho,execOp,Sem.run_bind,h1,Result.andThen_ok,Sem.run_pure]
 ·rename_i c0 ho
  split at h
  case isFalse=>cases h
  case isTrue hb =>
  unfold Dg at h
  split at h
  case h_2=>cases h
  case h_1 s x t t' hargs hats =>
  split at h
  ·rename_i Sm
   subst Sm
   replace ho:o.op = .call { callee:=.builtin .append,args := #[s,x],argTypes := #[t,t] }:=by
    rw[ho]
    rcases c0 with ⟨cl,⟨as⟩,⟨Nz⟩⟩
    simp only at hb hargs hats
    subst hargs;subst hats
    unfold DR at hb
    split at hb
    ·rfl
    ·cases hb
   unfold Hq at h
   split at h
   ·rename_i te es eb e0 sz jJ z0 ty lL sc xc ht hs hx
    have ck:=Im st.aB e0 sc xc
    generalize Cr st.aB e0 sc xc=e at h ck
    unfold A3 at h
    split at h
    ·cases h
    ·rename_i ic
     have N5:=r.eval s
     rw[hs] at N5
     have DJ:=r.eval x
     rw[hx] at DJ
     split at h
     ·rename_i ys f yM hf
      split at h
      ·rename_i m
       split at h
       ·rename_i fr e' xs hm
        split at h
        ·rename_i he
         subst he
         split at h
         ·cases h
         rename_i xq
         have uF:(e'.flat||e'.bW)=true->(fr&&f)=true:=fun h=>by
          cases pt:e'.flat with
          | true =>
            rw[s9 hf pt,Bool.and_true]
            rw[pt] at xq
            cases fr<;>simp_all
          | false =>
            rw[pt,Bool.false_or] at h
            rw[pt,h] at xq
            simpa using xq
         split at h
         ·cases h
         ·injection h with h;subst h
          obtain⟨pV,e2,lO,q1,q2⟩:=N5
          rw[hm] at q1
          injection q1 with q3 q4 q5
          subst q3;subst q4;cases q5
          refine yg hT r ck ho ht ic hm (Nat.le_refl _) q2 DJ yM hf (cP _ rfl) uF (fun v w' V' h1 h2=>iW v w' V' ?_ ?_)
          ·rw[List.take_length] at h1;exact h1
          ·rw[List.take_length] at h2;exact h2
        ·cases h
       ·cases h
      ·rename_i m n
       split at h
       ·rename_i fr e' xs hm
        split at h
        ·rename_i he
         subst he
         split at h
         ·cases h
         rename_i xq
         have uF:(e'.flat||e'.bW)=true->(fr&&f)=true:=fun h=>by
          cases pt:e'.flat with
          | true =>
            rw[s9 hf pt,Bool.and_true]
            rw[pt] at xq
            cases fr<;>simp_all
          | false =>
            rw[pt,Bool.false_or] at h
            rw[pt,h] at xq
            simpa using xq
         split at h
         ·cases h
         ·injection h with h;subst h
          obtain⟨pV,e2,lO,q1,q6,q2⟩:=N5
          rw[hm] at q1
          injection q1 with q3 q4 q5
          subst q3;subst q4;cases q5
          exact yg hT r ck ho ht ic hm q6 q2 DJ yM hf (cP _ rfl) uF (fun v w' V' h1 h2=>iW v w' V' h1 h2)
        ·cases h
       ·cases h
      ·split at h
       ·cases h
       rename_i Qc
       injection h with h;subst h
       exact append_nil hT r ck ho ht ic N5.1 DJ yM hf (cP _ rfl) (fun h=>by rw[h] at Qc;simpa using Qc) (fun v w' V' h1 h2=>iW v w' V' h1 h2)
      ·cases h
     ·cases h
   ·cases h
  ·cases h
 ·cases h
end
end Go.SX
/- Operations in the order of the text. No condition. -/
namespace Go.SX
open Go.RowKit
set_option linter.unusedVariables false
set_option linter.unusedSimpArgs false
def tV(P:Program)(f:FuncId)(r:dk):Prop :=
 ∀(base:Nat) (M:LM) (w0:World) (V:Vl) (st:St) (ts:Array Value) (w:World) (ss:List S) (vs:List Value) (K:S->St->Prop),
  Rel base M w0 V st ts w->ss.length=vs.length->(∀(i:Nat) s v,ss[i]? = some s->vs[i]? = some v->S.ok V st.aB w s v)->r ss st K →
  Calls P f vs.toArray w fun e w'=>∃ v,e = .returned v/\∃ V' s aP,K s aP/\Rel base M w0 V' aP ts w'/\S.ok V' aP.aB w' s v
def dP(P:Program)(R:FuncId->Option dk):Prop:=∀ f r,R f=some r->f≠vi->tV P f r/\iP P f
def Sat(base:Nat)(M:LM)(w0:World)(st:St)(a:Act)(w:World):Prop:=a.defers=[]/\∃ V,Rel base M w0 V st a.tmps w
section
variable {P : Program} {T : bT} {Γ : FuncId → Option PC} {R : FuncId → Option dk} {base : Nat} {M : LM} {w0 : World} {V : Vl} {w : World} {a : Act} {next : Act → World → Prop} {Q : Exit → Act → World → Prop}
theorem put_defers(a:Act)(d:Option Nat)(v:Value):(a.put d v).defers=a.defers:=by cases d<;>rfl
theorem pL{p:Option Prop}{q:Prop}(h:zM p q):(∀ x,p=some x->x)/\q:=by
 cases p with
 | none=>exact⟨fun _ h=>(nomatch h),h⟩
 | some p=>exact⟨fun x hx=>by injection hx with hx;subst hx;exact (show p/\q from h).1,(show p/\q from h).2⟩
theorem Bf{p:Option Prop}{q:Prop}(h:IQ p q)(hp:∀ x,p=some x->x):q:=by
 cases p with
 | none=>exact h
 | some p=>exact h (hp p rfl)
theorem AX{st:St}{o:Op}{f:FuncId}{args:List S}(h:q9 st o=some (f,args)):∃ c x,o = .call c/\c.callee = .value x/\st.eval x = .c (.fn f [])/\args=c.args.toList.map st.eval:=by
 unfold q9 at h
 split at h
 ·rename_i c
  split at h
  ·rename_i x hx
   split at h
   ·rename_i g hg
    injection h with h
    injection h with h1 h2
    subst h1;subst h2
    exact⟨c,x,rfl,hx,hg,bP _ _⟩
   ·cases h
  ·cases h
 ·cases h
theorem nr{p q:Option Prop}(h1:gP p)(h2:gP q):gP (jN p q):=by
 cases p with
 | none=>exact h2
 | some p =>
   cases q with
   | none=>exact h1
   | some q=>exact⟨h1,h2⟩
theorem HI{Z:Nat->Prop}{e:Ty}{xs:List e.den}{w:World}(h:∀ i (hi:i<xs.length),∃ es,aH Z w e es xs[i]):∀ i∈eT e xs,Z i:=by
 intro i hi
 unfold eT at hi
 rw[List.mem_flatMap] at hi
 obtain⟨x,hx,Hz⟩:=hi
 obtain⟨j,hj,rfl⟩:=List.getElem_of_mem hx
 obtain⟨es,h1⟩:=h j hj
 exact aH.ng e h1 i Hz
theorem C.D8{hp:Nat->az}{c:C}{v:Value}{b:Nat}(h:C.ok V hp w c v)(hb:¬V.Z false b):gP (c.D7 b):=by
 unfold C.D7
 split
 ·rename_i fr wh e b' xs
  intro hi
  have h':aH (V.Z fr) w (.gs wh e) [v] (b',xs):=h
  exact hb (Vl.eD (aH.ng _ h' _ hi))
 ·rename_i fr e xs
  split
  ·intro hi
   have h':aH (V.Z fr) w (.sl e) [v] xs:=h
   obtain⟨a,cap,_,_,_,h4⟩:=h'
   exact hb (Vl.eD (HI (Z:=V.Z fr) (w:=w) (fun i hi=>by obtain⟨ad,_,_,_,es,_,_,h6⟩:=h4 i hi;exact⟨es,h6⟩) _ hi))
  ·trivial
 ·rename_i fr t d off
  split
  ·intro hi
   obtain⟨b2,o,_,_,es,_,_,h5⟩:=h
   exact hb (Vl.eD (aH.ng t h5 _ hi))
  ·trivial
 ·trivial
theorem C3{hp:Nat->az}{b:Nat}(hb:¬V.Z false b):∀ {cs:List C} {vs:List Value},br V hp w cs vs->gP (Is b cs)
 | [],_,_=>trivial
 | c::r,vs,h=>by
   obtain⟨v,cg,rfl,h1,h2⟩:=cj h
   exact nr (C.D8 h1 hb) (C3 hb h2)
theorem az.D8{hp:Nat->az}{e:az}{n b:Nat}(h:e.ok V hp w n)(hb:¬V.Z false b):gP (e.D7 b):=by
 cases e with
 | dead=>trivial
 | bx cs=>obtain⟨ay,el,_,h2⟩:=h;exact C3 hb h2
 | row fr e xs =>
   unfold az.D7
   simp only
   split
   ·intro hi
    rcases h with ⟨_,h2⟩|⟨_,ay,el,_,_,h4⟩
    ·rw[h2] at hi;cases hi
    ·exact hb (Vl.eD (HI (Z:=V.Z fr) (w:=w) (fun i hi=>by obtain⟨es,_,_,h6⟩:=h4 i hi;exact⟨es,h6⟩) _ hi))
   ·trivial
theorem DG{st:St}{ts:Array Value}(r:Rel base M w0 V st ts w){b:Nat}(hb:¬V.Z false b):gP (Cw b st.hp):=by
 have key:∀(l:List az),(∀ e∈l,∃ n,e.ok V st.aB w n)->gP (Cw b l):=by
  intro l
  induction l with
  | nil=>intro _;trivial
  | cons e l ih =>
    intro h
    obtain⟨n,hn⟩:=h e (List.mem_cons_self ..)
    exact nr (az.D8 hn hb) (ih (fun e' eF=>h e' (List.mem_cons_of_mem _ eF)))
 refine key st.hp (fun e he=>?_)
 obtain⟨n,hn,rfl⟩:=List.getElem_of_mem he
 refine⟨n,?_⟩
 have:=r.mem.dx n
 have e1:st.aB n=st.hp[n]:=by
  show nth .dead st.hp n=_
  rw[cB,List.getElem?_eq_getElem hn];rfl
 rw[e1] at this
 exact this
theorem xA{b:Nat}:∀ {acc:List Nat},(∀ a∈acc,b≠a)->gP (CA b acc)
 | [],_=>trivial
 | a::r,h=>nr (p:=some _) (h a (List.mem_cons_self ..)) (xA (fun c hc=>h c (List.mem_cons_of_mem _ hc)))
theorem Jz{base m b:Nat}{hp:Nat->az}{fr:Bool}{e:Ty}{xs:List e.den}(hm:hp m = .row fr e xs)(fv:(az.row fr e xs).ok V hp w m)(j_:fr=true->V.has m->base<=V.aI m)(hb:V.has m->b=V.aI m) :
 mG V hp w (lK m b fr e xs) (V.freeze m base) (aG (bY (lK m b fr e xs) hp) m .dead) w:=by
 have tn:=uv (base:=base) hm fv j_
 have ko:∀ {n aW e'} {bI:List e'.den},aG (bY (db m fr e xs) hp) m .dead n = .row aW e' bI->aG (bY (lK m b fr e xs) hp) m .dead n = .row aW e' bI:=by
  intro n aW e' bI h
  by_cases hn:n=m
  ·simp only[aG,if_pos hn] at h;cases h
  ·simp only[aG,if_neg hn] at h ⊢
   unfold bY at h ⊢
   cases hq:hp n with
   | row a1 a2 a3=>rw[hq] at h;exact h
   | bx cs=>rw[hq] at h;cases h
   | dead=>rw[hq] at h;cases h
 have jT:∀ {n cs},aG (bY (db m fr e xs) hp) m .dead n = .bx cs->∃ cr,aG (bY (lK m b fr e xs) hp) m .dead n = .bx cr:=by
  intro n cs h
  by_cases hn:n=m
  ·simp only[aG,if_pos hn] at h;cases h
  ·simp only[aG,if_neg hn] at h ⊢
   unfold bY at h ⊢
   cases hq:hp n with
   | row a1 a2 a3=>rw[hq] at h;cases h
   | bx cs=>exact⟨_,rfl⟩
   | dead=>rw[hq] at h;cases h
 have move:∀ {c v},C.ok (V.freeze m base) (aG (bY (db m fr e xs) hp) m .dead) w c v->C.ok (V.freeze m base) (aG (bY (lK m b fr e xs) hp) m .dead) w c v:=by
  intro c v h
  cases c with
  | own n=>obtain⟨f1,e1,x1,h1,h2⟩:=h;exact⟨f1,e1,x1,ko h1,h2⟩
  | pre n k=>obtain⟨f1,e1,x1,h1,h3,h2⟩:=h;exact⟨f1,e1,x1,ko h1,h3,h2⟩
  | eK n e' ys=>obtain⟨⟨f1,e1,x1,h1⟩,h2⟩:=h;exact⟨⟨f1,e1,x1,ko h1⟩,h2⟩
  | box n off=>obtain⟨h1,h2,cs,h3⟩:=h;exact⟨h1,h2,jT h3⟩
  | jI n len=>obtain⟨cap,h1,h2,cs,h3⟩:=h;exact⟨cap,h1,h2,jT h3⟩
  | dR n i off=>obtain⟨h0,f1,e1,x1,h1,h2⟩:=h;exact⟨h0,f1,e1,x1,ko h1,h2⟩
  | fn f da=>exact⟨h.1,fun n hn=>⟨(h.2 n hn).1,let ⟨_,cs,h3⟩:=h.2 n hn;jT h3⟩⟩
  | _=>exact h
 intro c v h
 by_cases hc:c = .own m
 ·subst hc
  obtain⟨aW,e',bI,h1,h2⟩:=h
  rw[hm] at h1
  injection h1 with e1 e2 e3
  subst e1;subst e2;cases e3
  show C.ok _ _ w (lK m b fr e xs (.own m)) v
  simp only[lK,if_true]
  have fg:=tn (.own m) v ⟨fr,e,xs,hm,h2⟩
  simp only[db,if_true] at fg
  refine⟨fg,fun N2=>?_,fun _ N2=>?_⟩
  ·rcases h2 with ⟨_,_,h3⟩|⟨hh,cap,ay,el,h3,h4,h5,h6⟩
   ·have S2:0<xs.length:=N2
    omega
   ·exact⟨0,_,cap,by rw[h3,hb hh]⟩
  ·rcases h2 with ⟨_,_,h3⟩|⟨hh,cap,ay,el,h3,h4,h5,h6⟩
   ·have S2:0<xs.length:=N2
    omega
   ·exact⟨_,cap,ay,el,by rw[h3,hb hh],by rw[hb hh];exact h4,h5⟩
 ·have e1:lK m b fr e xs c=db m fr e xs c:=by
   cases c with
   | own n =>
     have hn:n≠m:=fun e=>hc (by rw[e])
     simp only[lK,db,if_neg hn]
   | _=>rfl
  rw[e1]
  exact move (tn c v h)
theorem Rel.sealB{st:St}{ts:Array Value}(r:Rel base M w0 V st ts w)(m:Nat){b:Nat}(hb:∀ fr e xs,st.aB m = .row fr e xs->V.has m->b=V.aI m) :
 ∃ V',Rel base M w0 V' (st.sealB m b) ts w/\(∀ c,V.Z false c->V'.Z false c)/\(∀ fr e xs,st.aB m = .row fr e xs->V.has m->V'.Z false (V.aI m)):=by
 unfold St.sealB
 cases hm:st.aB m with
 | dead=>exact⟨V,r,fun c h=>h,fun fr e xs h=>by cases h⟩
 | bx cs=>exact⟨V,r,fun c h=>h,fun fr e xs h=>by cases h⟩
 | row fr e xs =>
   simp only
   have mm:=r.mem
   have fv:=mm.dx m
   rw[hm] at fv
   have j_:fr=true->V.has m->base<=V.aI m:=fun hf hh=>by subst hf;exact mm.iZ m e xs hm hh
   exact⟨V.freeze m base,r.Ht hm (Jz (base:=base) hm fv j_ (hb fr e xs hm)),fun c h=>Vl.dX h,fun _ _ _ _ hh=>Vl.sE hh⟩
theorem Lq(l:List Nat)(n:Nat):∃ b,n<=b/\∀ a∈l,b≠a:=by
 refine⟨n+l.foldr (·+·) 0+1,by omega,?_⟩
 have key:∀(l:List Nat) a,a∈l->a<=l.foldr (·+·) 0:=by
  intro l
  induction l with
  | nil=>intro a h;cases h
  | cons c l ih =>
    intro a h
    rcases List.mem_cons.1 h with h|h
    ·subst h;simp only[List.foldr_cons];omega
    ·have:=ih a h;simp only[List.foldr_cons];omega
 intro a ha
 have:=key l a ha
 omega
theorem xE{K:St->Prop}{ts:Array Value}:∀(ms:List Nat) {acc:List Nat} {V:Vl} {st:St},Rel base M w0 V st ts w->(∀ a∈acc,V.Z false a\/w.heap.size<=a)->Ao acc ms st K->∃ V' aP,Rel base M w0 V' aP ts w/\K aP
 | [],acc,V,st,r,_,h=>⟨V,st,r,h⟩
 | m::ms,acc,V,st,r,ha,h=>by
   have mm:=r.mem
   by_cases hh:V.has m/\∃ fr e xs,st.aB m = .row fr e xs
   ·obtain⟨hh,fr,e,xs,hm⟩:=hh
    obtain⟨o1,o2,o3⟩:=mm.own m (by rw[hm];rfl) hh
    obtain⟨V',r',hz,hn⟩:=r.sealB m (b:=V.aI m) (fun _ _ _ _ _=>rfl)
    have S0:=DG r o3
    have bo:gP (CA (V.aI m) acc):=xA (fun a yC e=>by
     rcases ha a yC with h1|h1
     ·exact o3 (e▸h1)
     ·omega)
    refine xE ms r' (fun a yC=>?_) (h (V.aI m) (nr S0 bo))
    rcases List.mem_cons.1 yC with e2|yC
    ·rw[e2];exact .inl (hn fr e xs hm hh)
    ·rcases ha a yC with h1|h1
     ·exact .inl (hz a h1)
     ·exact .inr h1
   ·obtain⟨b,iF,uA⟩:=Lq acc w.heap.size
    obtain⟨V',r',hz,_⟩:=r.sealB m (b:=b) (fun fr e xs hm h1=>absurd ⟨h1,fr,e,xs,hm⟩ hh)
    have Sh:¬V.Z false b:=fun hz=>by have:=mm.AI hz;omega
    refine xE ms r' (fun a yC=>?_) (h b (nr (DG r Sh) (xA uA)))
    rcases List.mem_cons.1 yC with e2|yC
    ·rw[e2];exact .inr iF
    ·rcases ha a yC with h1|h1
     ·exact .inl (hz a h1)
     ·exact .inr h1
theorem DL{f:Nat->Prop}:∀(l k:Nat) {n:Int},IP l k n f->∀ j,k<=j->j<k+l->n=(j:Int)->f j
 | 0,k,n,h,j,h1,h2,_=>by omega
 | 1,k,n,h,j,h1,h2,h3=>by
   have:j=k:=by omega
   subst this
   exact h h3
 | l+2,k,n,h,j,h1,h2,h3=>by
   by_cases hj:j=k
   ·subst hj;exact h.1 h3
   ·exact DL (l+1) (k+1) h.2 j (by omega) (by omega) h3
theorem Nt(hT:bJ P T){st:St}(hs:Sat base M w0 st a w){o:Oper}{K:St->Prop}(h:J3 T st o.op o.dst K)
 (hK:∀ aP v w',K aP->Sat base M w0 aP (a.put o.dst v) w'->next (a.put o.dst v) w'):o.wp P a w next Q:=by
 obtain⟨hd,V,r⟩:=hs
 unfold J3 at h
 split at h
 ·rename_i t x i lr
  split at h
  ·rename_i e sz jJ z ty lL m l k n heq hx hi
   obtain⟨⟨n0,n1⟩,h⟩:=h
   have hX:=r.eval x
   rw[hx] at hX
   obtain⟨cap,⟨e1,_⟩,hh,cs,hc⟩:=hX
   have hI:=r.eval i
   rw[hi] at hI
   obtain⟨e2,_⟩:=hI
   obtain⟨hu,ti,zv,h3,h4,_⟩:=uT (d_ (hT t _ heq)).2.2
   have hB:S.ok V st.aB w (.c (.box m n.toNat)) (.pointer (some ⟨V.aI m,n.toNat,none⟩)):=⟨rfl,hh,cs,hc⟩
   refine cw (v:=.pointer (some ⟨V.aI m,n.toNat,none⟩)) (w':=w) ?_ (hK _ _ w (DL l 0 h n.toNat (by omega) (by omega) (by omega)) ⟨by rw[put_defers];exact hd,V,mz r hB _⟩)
   unfold execOp
   simp only[lr,e1,e2]
   simp[Instr.indexAt,run_underlying hu,asIntOf,n0,n1,run_sizeOf h3,h4,iQ]
  ·exact h.elim
 ·exact h.elim
theorem AG(hT:bJ P T)(hΓ:eQ P Γ)(hR:dP P R){st:St}(hs:Sat base M w0 st a w){o:Oper}{K:St->Prop}(h:tk T Γ R st.eval st.aB o st K)
 (hK:∀ aP v w',K aP->Sat base M w0 aP (a.put o.dst v) w'->next (a.put o.dst v) w'):o.wp P a w next Q:=by
 obtain⟨hd,V,r⟩:=hs
 unfold tk at h
 split at h
 ·rename_i q hq
  obtain⟨h1,h2⟩:=pL h
  refine LL hT hΓ r.mem (iz.dx r) r.eval hq (fun j _=>xi st j) h1 (fun v w' V' g=>?_)
  obtain⟨q1,q2⟩:=s5 r g
  exact hK _ v w' (Bf h2 g.hy) ⟨by rw[put_defers];exact hd,V',mz q1 q2 _⟩
 ·split at h
  ·obtain⟨V1,dv,r1,h⟩:=xE _ r (fun a h=>by cases h) h
   split at h
   ·rename_i q hq
    obtain⟨h1,h2⟩:=pL h
    exact Ko hT r1 hq h1 (fun v w' V' q1 q2=>hK _ v w' h2 ⟨by rw[put_defers];exact hd,V',mz q1 q2 _⟩)
   ·exact h.elim
  split at h
  ·rename_i q hq
   obtain⟨h1,h2⟩:=pL h
   exact Ko hT r hq h1 (fun v w' V' q1 q2=>hK _ v w' h2 ⟨by rw[put_defers];exact hd,V',mz q1 q2 _⟩)
  ·split at h
   ·rename_i f args hc
    split at h
    ·rename_i ru KT
     split at h
     ·exact h.elim
     rename_i KG
     obtain⟨c,x,e1,e2,e3,e4⟩:=AX hc
     obtain⟨k1,k2⟩:=hR f ru KT (fun e=>KG (by rw[e];rfl))
     have hx:=r.eval x
     rw[e3] at hx
     subst e4
     have:=k1 base M w0 V st a.tmps w _ (c.args.toList.map a.eval) _ r (by simp) (fun i s v hi hv=>by
      rw[List.getElem?_map] at hi hv
      cases jX:c.args.toList[i]? with
      | none=>rw[jX] at hi;cases hi
      | some y =>
        rw[jX] at hi hv
        simp only[Option.map_some,Option.some.injEq] at hi hv
        rw[<-hi,<-hv];exact r.eval y) h
     refine AH (R:=_) e1 e2 hx k2 (by rw[show c.args.map a.eval=(c.args.toList.map a.eval).toArray from Array.ext' (by simp)];exact this) (fun e w' hr=>?_)
     obtain⟨v,rfl,V',s,aP,h1,h2,h3⟩:=hr
     exact⟨v,rfl,hK _ v w' h1 ⟨by rw[put_defers];exact hd,V',mz h2 h3 _⟩⟩
    ·exact h.elim
   ·exact Nt hT ⟨hd,V,r⟩ h hK
theorem Ph(hR:dP P R){st:St}(hs:Sat base M w0 st a w){o:Oper}{K:St->Prop}{f:FuncId}{args:List S}(hc:q9 st o.op=some (f,args)){ru:dk}(KT:R f=some ru)(KG:¬Nat.beq f vi=true)(h:ru args st fun s aP=>K (aP.put o.dst s))
 (hK:∀ aP v w',K aP->Sat base M w0 aP (a.put o.dst v) w'->next (a.put o.dst v) w'):o.wp P a w next Q:=by
 obtain⟨hd,V,r⟩:=hs
 obtain⟨c,x,e1,e2,e3,e4⟩:=AX hc
 obtain⟨k1,k2⟩:=hR f ru KT (fun e=>KG (by rw[e];rfl))
 have hx:=r.eval x
 rw[e3] at hx
 subst e4
 have:=k1 base M w0 V st a.tmps w _ (c.args.toList.map a.eval) _ r (by simp) (fun i s v hi hv=>by
  rw[List.getElem?_map] at hi hv
  cases jX:c.args.toList[i]? with
  | none=>rw[jX] at hi;cases hi
  | some y =>
    rw[jX] at hi hv
    simp only[Option.map_some,Option.some.injEq] at hi hv
    rw[<-hi,<-hv];exact r.eval y) h
 refine AH (R:=_) e1 e2 hx k2 (by rw[show c.args.map a.eval=(c.args.toList.map a.eval).toArray from Array.ext' (by simp)];exact this) (fun e w' hr=>?_)
 obtain⟨v,rfl,V',s,aP,h1,h2,h3⟩:=hr
 exact⟨v,rfl,hK _ v w' h1 ⟨by rw[put_defers];exact hd,V',mz h2 h3 _⟩⟩
theorem Nu(hT:bJ P T)(hΓ:eQ P Γ)(hR:dP P R){st:St}(hs:Sat base M w0 st a w){o:Oper}{K:St->Prop}(h:vR T Γ R st.eval st.aB o st K)
 (hK:∀ aP v w',K aP->Sat base M w0 aP (a.put o.dst v) w'->next (a.put o.dst v) w'):o.wp P a w next Q:=by
 unfold vR at h
 split at h
 ·split at h
  ·rename_i f args hc
   split at h
   ·rename_i ru KT
    split at h
    ·exact h.elim
    ·rename_i KG
     exact Ph hR hs hc KT KG h hK
   ·exact h.elim
  ·exact h.elim
 ·exact AG hT hΓ hR hs h hK
theorem oz{st:St}{ts:Array Value}(r:Rel base M w0 V st ts w){d:Nat}{v:Value}{s:S}(hv:ts[d]? = some v)(h:S.ok V st.aB w s v):Rel base M w0 V (st.put (some d) s) ts w:=by
 refine⟨by show (b9 st.ts d s).length=ts.size;rw[eI];simp[r.len],fun i s' v' hs dJ=>?_,r.mem⟩
 have bw:(b9 st.ts d s)[i]? = some s':=hs
 rw[eI,List.getElem?_set] at bw
 split at bw
 ·rename_i e
  subst e
  split at bw
  ·injection bw with bw;subst bw
   rw[hv] at dJ
   injection dJ with dJ;subst dJ
   exact h
  ·cases bw
 ·exact r.iM i s' v' bw dJ
theorem oN{st:St}{ts:Array Value}(r:Rel base M w0 V st ts w){d:Nat}{s:S}(h:nth .any st.ts d=s)(hs:s ≠ .any):∃ v,ts[d]? = some v/\S.ok V st.aB w s v:=by
 rw[cB] at h
 cases he:st.ts[d]? with
 | none=>rw[he] at h;exact absurd h.symm hs
 | some s' =>
   rw[he] at h
   simp only[Option.getD_some] at h
   subst h
   have aK:=(List.getElem?_eq_some_iff.1 he).1
   have xu:d<ts.size:=by rw[<-r.len];exact aK
   have hv:ts[d]? = some (ts[d]'xu):=Array.getElem?_eq_getElem xu
   exact⟨_,hv,r.iM d _ _ he hv⟩
theorem A2{st:St}(r:Rel base M w0 V st a.tmps w){all:Array Oper}{o:Oper} :
 match im all o st with
 | .go=>Region.wanted o (yielded all a.tmps)=true
 | .skip=>Region.wanted o (yielded all a.tmps)=false
 | .ask d b want=>Region.wanted o (yielded all a.tmps)=(b == want)/\a.tmps[d]? = some (.bool b)
 | .bad=>True:=by
 unfold im Region.wanted
 cases hg:o.guard with
 | none=>simp
 | some g =>
   obtain⟨j,want⟩:=g
   simp only
   rw[dc,sU]
   cases hj:(all.toList[j]?).bind (·.dst) with
   | none=>simp
   | some d =>
     have nX:(all[j]?).bind (·.dst)=some d:=by rw[<-hj];simp
     have hy:∀ v,a.tmps[d]? = some v->yielded all a.tmps j=match v with | .bool b=>some b|_=>none:=by
      intro v hv
      unfold yielded
      rw[nX]
      simp only[Option.bind_some,hv]
      cases v<;>rfl
     simp only
     split
     ·rename_i h
      split at h
      ·rename_i he
       obtain⟨v,h1,h2⟩:=oN r he (by simp)
       replace h2:v = .bool true:=h2
       rw[hy v h1,h2]
       cases want<;>simp_all
      ·rename_i he
       obtain⟨v,h1,h2⟩:=oN r he (by simp)
       replace h2:v = .bool false:=h2
       rw[hy v h1,h2]
       cases want<;>simp_all
      all_goals cases h
     ·rename_i h
      split at h
      ·rename_i he
       obtain⟨v,h1,h2⟩:=oN r he (by simp)
       replace h2:v = .bool true:=h2
       rw[hy v h1,h2]
       cases want<;>simp_all
      ·rename_i he
       obtain⟨v,h1,h2⟩:=oN r he (by simp)
       replace h2:v = .bool false:=h2
       rw[hy v h1,h2]
       cases want<;>simp_all
      ·cases h
      ·rename_i he
       obtain⟨v,h1,h2⟩:=oN r he (by simp)
       replace h2:v=undef:=h2
       rw[hy v h1,h2]
       simp[undef]
      ·cases h
     ·rename_i d' b' RS h
      split at h
      ·split at h<;>cases h
      ·split at h<;>cases h
      ·rename_i b he
       obtain⟨v,h1,h2⟩:=oN r he (by simp)
       replace h2:v = .bool b:=h2.1
       injection h with e1 e2 e3
       subst e1;subst e2;subst e3
       rw[hy v h1,h2]
       exact⟨by cases b<;>cases want<;>rfl,by rw[h1,h2]⟩
      ·cases h
      ·cases h
     ·trivial
theorem E6{st:St}(hs:Sat base M w0 st a w)(dst:Option Nat):Sat base M w0 (st.put dst .eP) (a.put dst undef) w:=by
 obtain⟨hd,V,r⟩:=hs
 exact⟨by rw[put_defers];exact hd,V,mz r (s:=.eP) (v:=undef) rfl _⟩
theorem tp(hT:bJ P T)(hΓ:eQ P Γ)(hR:dP P R){all:Array Oper}{K:St->Prop}(hK:∀ aP a' w',K aP->Sat base M w0 aP a' w'->Q .normal a' w') :
 ∀(l:List Oper) (i:Nat) (_:all.toList.drop i=l) (st:St) (a:Act) (w:World),Sat base M w0 st a w->kd T Γ R all l st K->wpOps P all Q (List.range' i l.length) a w
 | [],i,_,st,a,w,hs,h=>by
   rw[List.length_nil,List.range'_zero]
   exact hK st a w h hs
 | o::l,i,hl,st,a,w,hs,h=>by
   rw[List.length_cons,List.range'_succ,wpOps_cons]
   have hi:all[i]? = some o:=by
    have:(all.toList.drop i)[0]? = some o:=by rw[hl];rfl
    rw[List.getElem?_drop] at this
    simpa using this
   have df:all.toList.drop (i+1)=l:=by
    rw[<-List.drop_drop,hl];rfl
   unfold wpOp
   simp only[hi]
   have go:∀ st,Sat base M w0 st a w->vR T Γ R st.eval st.aB o st (fun aP=>kd T Γ R all l aP K)->o.wp P a w (wpOps P all Q (List.range' (i+1) l.length)) Q :=
    fun st hs h=>Nu hT hΓ hR hs h (fun aP v w' h1 h2=>tp hT hΓ hR hK l (i+1) df aP _ w' h2 h1)
   have skip:∀ st,Sat base M w0 st a w->kd T Γ R all l (st.put o.dst .eP) K->wpOps P all Q (List.range' (i+1) l.length) (a.put o.dst undef) w :=
    fun st hs h=>tp hT hΓ hR hK l (i+1) df _ _ w (E6 hs _) h
   obtain⟨hd,V,r⟩:=hs
   have kj:=A2 r (all:=all) (o:=o)
   unfold kd at h
   split at h
   ·rename_i e
    rw[e] at kj
    rw[if_pos kj]
    exact .inl (go st ⟨hd,V,r⟩ h)
   ·rename_i e
    rw[e] at kj
    rw[if_neg (by simp[kj])]
    exact skip st ⟨hd,V,r⟩ h
   ·rename_i d b want e
    rw[e] at kj
    obtain⟨hw,hv⟩:=kj
    have HH:b=want->Region.wanted o (yielded all a.tmps)=true:=fun e=>by rw[hw,e];simp
    cases b with
    | true =>
      have h1:=h.1 rfl
      have r1:=oz (s:=.c .fm) r hv rfl
      cases want with
      | true=>rw[if_pos (HH rfl)];exact .inl (go _ ⟨hd,V,r1⟩ h1)
      | false=>rw[if_neg (by simp[hw])];exact skip _ ⟨hd,V,r1⟩ h1
    | false =>
      have h1:=h.2 rfl
      have r1:=oz (s:=.c .fe) r hv rfl
      cases want with
      | true=>rw[if_neg (by simp[hw])];exact skip _ ⟨hd,V,r1⟩ h1
      | false=>rw[if_pos (HH rfl)];exact .inl (go _ ⟨hd,V,r1⟩ h1)
   ·exact h.elim
theorem Mo(hT:bJ P T)(hΓ:eQ P Γ)(hR:dP P R){all:Array Oper}{i:Nat}{st:St}{K:St->Prop}(hs:Sat base M w0 st a w)(h:vo T Γ R all i st K)
 (hK:∀ aP a' w',K aP->Sat base M w0 aP a' w'->next a' w'):wpOp P all Q i next a w:=by
 unfold vo at h
 split at h
 ·rename_i o hi
  rw[dc] at hi
  have hi:all[i]? = some o:=by simpa using hi
  unfold wpOp
  simp only[hi]
  have go:∀ st,Sat base M w0 st a w->tk T Γ R st.eval st.aB o st K->o.wp P a w next Q :=
   fun st hs h=>AG hT hΓ hR hs h (fun aP v w' h1 h2=>hK aP _ w' h1 h2)
  have skip:∀ st,Sat base M w0 st a w->K (st.put o.dst .eP)->next (a.put o.dst undef) w:=fun st hs h=>hK _ _ w h (E6 hs _)
  obtain⟨hd,V,r⟩:=hs
  have kj:=A2 r (all:=all) (o:=o)
  split at h
  ·rename_i e
   rw[e] at kj
   rw[if_pos kj]
   exact .inl (go st ⟨hd,V,r⟩ h)
  ·rename_i e
   rw[e] at kj
   rw[if_neg (by simp[kj])]
   exact skip st ⟨hd,V,r⟩ h
  ·rename_i d b want e
   rw[e] at kj
   obtain⟨hw,hv⟩:=kj
   have HH:b=want->Region.wanted o (yielded all a.tmps)=true:=fun e=>by rw[hw,e];simp
   cases b with
   | true =>
     have h1:=h.1 rfl
     have r1:=oz (s:=.c .fm) r hv rfl
     cases want with
     | true=>rw[if_pos (HH rfl)];exact .inl (go _ ⟨hd,V,r1⟩ h1)
     | false=>rw[if_neg (by simp[hw])];exact skip _ ⟨hd,V,r1⟩ h1
   | false =>
     have h1:=h.2 rfl
     have r1:=oz (s:=.c .fe) r hv rfl
     cases want with
     | true=>rw[if_neg (by simp[hw])];exact skip _ ⟨hd,V,r1⟩ h1
     | false=>rw[if_pos (HH rfl)];exact .inl (go _ ⟨hd,V,r1⟩ h1)
  ·exact h.elim
 ·exact h.elim
end
end Go.SX
/- A region that draws its order: what the text's order tells of each operation. No condition. -/
namespace Go.SX
open Go.RowKit
set_option linter.unusedVariables false
set_option linter.unusedSimpArgs false
section
variable {P : Program} {T : bT} {Γ : FuncId → Option PC} {R : FuncId → Option dk}
theorem IW(acc:Array Nat)(j:Nat)(l:List Edge):∀ s:Nat,(l.foldl (fun s e=>if Region.binds .any e then s ||| 2^e.on ||| acc.getD e.on 0 else s) s).testBit j=true →
 s.testBit j=true\/∃ e∈l,Region.binds .any e=true/\(j=e.on\/(acc.getD e.on 0).testBit j=true):=by
 induction l with
 | nil=>intro s h;exact .inl h
 | cons e l ih =>
   intro s h
   rw[List.foldl_cons] at h
   rcases ih _ h with h|⟨e',h1,h2,h3⟩
   ·split at h
    ·rename_i hb
     rw[Nat.testBit_or,Nat.testBit_or,Bool.or_eq_true,Bool.or_eq_true] at h
     rcases h with (h|h)|h
     ·exact .inl h
     ·right
      refine⟨e,List.mem_cons_self ..,hb,.inl ?_⟩
      rw[Nat.testBit_two_pow] at h
      simpa using (of_decide_eq_true h).symm
     ·exact .inr ⟨e,List.mem_cons_self ..,hb,.inr h⟩
    ·exact .inl h
   ·exact .inr ⟨e',List.mem_cons_of_mem _ h1,h2,h3⟩
def Nv(ops:Array Oper)(acc:Array Nat):Prop:=∀ m j,(acc.getD m 0).testBit j=true->∃ o,ops[m]? = some o/\∃ e∈o.after,Region.binds .any e=true/\(j=e.on\/(e.on<m/\(acc.getD e.on 0).testBit j=true))
theorem uM(ops:Array Oper):Nv ops (Region.before ops):=by
 unfold Region.before
 have:=Array.foldl_induction (as:=ops) (motive:=fun i acc=>acc.size=i/\Nv ops acc) (init := #[]) (f:=fun acc o =>
  acc.push (o.after.foldl (fun s e=>if Region.binds .any e then s ||| 2^e.on ||| acc.getD e.on 0 else s) 0)) ⟨rfl,fun m j h=>by simp at h⟩ (fun i acc ⟨h1,h2⟩=>by
  refine⟨by simp[h1],fun m j h=>?_⟩
  rcases Nat.lt_trichotomy m acc.size with hm|hm|hm
  ·rw[show (acc.push (ops[i].after.foldl (fun s e=>if Region.binds .any e then s ||| 2^e.on ||| acc.getD e.on 0 else s) 0)).getD m 0=acc.getD m 0 by
    simp[Array.getD,hm,Nat.lt_succ_of_lt hm,Array.getElem_push_lt]] at h
   obtain⟨o,k1,e,k2,k3,k4⟩:=h2 m j h
   refine⟨o,k1,e,k2,k3,k4.imp id fun⟨k5,k6⟩=>⟨k5,?_⟩⟩
   have:e.on<acc.size:=by omega
   simpa[Array.getD,this,Nat.lt_succ_of_lt this,Array.getElem_push_lt] using k6
  ·subst hm
   rw[show (acc.push (ops[i].after.foldl (fun s e=>if Region.binds .any e then s ||| 2^e.on ||| acc.getD e.on 0 else s) 0)).getD acc.size 0=ops[i].after.foldl (fun s e=>if Region.binds .any e then s ||| 2^e.on ||| acc.getD e.on 0 else s) 0 by
    simp[Array.getD]] at h
   rw[<-Array.foldl_toList] at h
   rcases IW acc j _ 0 h with h|⟨e,k1,k2,k3⟩
   ·simp at h
   ·refine⟨ops[i],by rw[h1];exact Array.getElem?_eq_getElem _,e,by simpa using k1,k2,k3.imp id fun k4=>?_⟩
    have aK:e.on<acc.size:=by
     rcases Nat.lt_or_ge e.on acc.size with h|h
     ·exact h
     ·simp[Array.getD,Nat.not_lt.2 h] at k4
    exact⟨aK,by simpa[Array.getD,aK,Nat.lt_succ_of_lt aK,Array.getElem_push_lt] using k4⟩
  ·simp[Array.getD,show ¬m<acc.size+1 by omega] at h)
 exact this.2
def xO(all:Array Oper)(aq:Array Bool):Prop:=∀ j oj,all[j]? = some oj->aq.getD j false=true->∀ e∈oj.after,Region.binds .any e=true->aq.getD e.on false=true
theorem jZ{all:Array Oper}{aq:Array Bool}(hc:xO all aq):∀ i,(aq.getD i false=true\/i∈Region.ready .any all aq)->∀ j,(du all i).testBit j=true->aq.getD j false=true:=by
 intro i
 induction i using Nat.strongRecOn with
 | _ i ih =>
   intro hi j hj
   obtain⟨o,h1,e,h2,h3,h4⟩:=uM all i j hj
   have he:aq.getD e.on false=true:=by
    rcases hi with hi|hi
    ·exact hc i o h1 hi e h2 h3
    ·obtain⟨_,o',h5,h6⟩:=mem_ready.1 hi
     rw[h1] at h5;injection h5 with h5;subst h5
     exact h6 e h2 h3
   rcases h4 with rfl|⟨h4,h5⟩
   ·exact he
   ·exact ih e.on h4 (.inl he) j h5
structure gV where
 b8:List Nat
 st:St
 r:Option QR
def fC(all:Array Oper)(st:St)(o:Oper)(dv:St)(g:Bool):Prop :=
 match im all o st with
 | .go=>dv=st/\g=true
 | .skip=>dv=st/\g=false
 | .ask d b want=>dv=st.put (some d) (.c (if b then .fm else .fe))/\g=(b == want)
 | .bad=>False
def rW(T:bT)(Γ:FuncId->Option PC)(all:Array Oper)(k kF:Nat):Nat->List Oper->List Nat->St->List gV->List Nat->St->Prop
 | _,[],b8,st,E,lN,aP=>E=[]/\lN=b8/\aP=st
 | i,o::l,b8,st,E,lN,aP=>∃ e E',E=e::E'/\e.b8=b8/\fC all st o e.st e.r.isSome ∧
    match e.r with
    | none=>rW T Γ all k kF (i+1) l b8 (e.st.put o.dst .eP) E' lN aP
    | some q=>fw T Γ (Bj all i kF b8 e.st) (bf e.st.hp) (Di all k i e.st) o.op=some q/\rW T Γ all k kF (i+1) l (dg b8 (lmap (fun _=>i) q.new)) ((e.st.alloc q.new).put o.dst q.res) E' lN aP
def xR(E:List gV):Prop:=∀ e∈E,∀ q,e.r=some q->∀ p,q.ob=some p->p
def G8(E:List gV):Prop:=∀ e∈E,∀ q,e.r=some q->∀ p,q.hy=some p->p
theorem lM{all:Array Oper}{k kF:Nat}:∀(l:List Oper) (i:Nat) (b8:List Nat) (st:St) (K:St->Prop),nt T Γ all k kF i l b8 st K →
 ∃ E lN aP,rW T Γ all k kF i l b8 st E lN aP/\xR E/\(G8 E->K aP)
 | [],i,b8,st,K,h=>⟨[],b8,st,⟨rfl,rfl,rfl⟩,(fun e he=>by cases he),fun _=>h⟩
 | o::l,i,b8,st,K,h=>by
   have go:∀ dv,fC all st o dv true->(match fw T Γ (Bj all i kF b8 dv) (bf dv.hp) (Di all k i dv) o.op with
    | some r=>zM r.ob (nt T Γ all k kF (i+1) l (dg b8 (lmap (fun _=>i) r.new)) ((dv.alloc r.new).put o.dst r.res) fun aP=>IQ r.hy (K aP))
    | none=>False)->∃ E lN aP,rW T Γ all k kF i (o::l) b8 st E lN aP/\xR E/\(G8 E->K aP):=by
    intro dv hr h
    split at h
    ·rename_i q hq
     obtain⟨h1,h2⟩:=pL h
     obtain⟨E,lN,aP,k1,k2,k3⟩:=lM l (i+1) _ _ _ h2
     refine⟨⟨b8,dv,some q⟩::E,lN,aP,⟨_,E,rfl,rfl,hr,hq,k1⟩,?_,fun hy=>?_⟩
     ·intro e he q' eG p hp
      rcases List.mem_cons.1 he with rfl|he
      ·injection eG with eG;subst eG;exact h1 p hp
      ·exact k2 e he q' eG p hp
     ·exact Bf (k3 fun e he=>hy e (List.mem_cons_of_mem _ he)) (fun p hp=>hy _ (List.mem_cons_self ..) q rfl p hp)
    ·exact h.elim
   have skip:∀ dv,fC all st o dv false->nt T Γ all k kF (i+1) l b8 (dv.put o.dst .eP) K->∃ E lN aP,rW T Γ all k kF i (o::l) b8 st E lN aP/\xR E/\(G8 E->K aP):=by
    intro dv hr h
    obtain⟨E,lN,aP,k1,k2,k3⟩:=lM l (i+1) _ _ _ h
    refine⟨⟨b8,dv,none⟩::E,lN,aP,⟨_,E,rfl,rfl,hr,k1⟩,?_,fun hy=>k3 fun e he=>hy e (List.mem_cons_of_mem _ he)⟩
    intro e he q' eG p hp
    rcases List.mem_cons.1 he with rfl|he
    ·cases eG
    ·exact k2 e he q' eG p hp
   unfold nt at h
   simp only at h
   split at h
   ·rename_i e
    exact go st (by unfold fC;rw[e];exact⟨rfl,rfl⟩) h
   ·rename_i e
    exact skip st (by unfold fC;rw[e];exact⟨rfl,rfl⟩) h
   ·rename_i d b want e
    have hr:fC all st o (st.put (some d) (.c (if b then .fm else .fe))) (b == want):=by unfold fC;rw[e];exact⟨rfl,rfl⟩
    cases b with
    | true =>
      have h1:=h.1 rfl
      cases want with
      | true=>exact go _ hr h1
      | false=>exact skip _ hr h1
    | false =>
      have h1:=h.2 rfl
      cases want with
      | true=>exact skip _ hr h1
      | false=>exact go _ hr h1
   ·exact h.elim
def u6(E:List gV)(j:Nat):S:=match E[j]? with|some e=>(match e.r with|some q=>q.res|none=>.eP)|none=>.any
structure eR (all:Array Oper) (bA:St) (E:List gV) (i:Nat) (b8:List Nat) (st:St):Prop where
 len:st.ts.length=bA.ts.length
 y2:∀ t,(∀ j o,j<i->all[j]? = some o->o.dst≠some t)->st.ts[t]? = bA.ts[t]?
 new:∀ j o d,j<i->all[j]? = some o->o.dst=some d->∀ V hp w v,S.ok V hp w (u6 E j) v->S.ok V hp w (nth .any st.ts d) v
 names:bf st.hp=bf bA.hp+b8.length
 dx:∀ n,n<bf bA.hp->st.aB n=bA.aB n
 xN:∀(m:Nat) j,b8[m]? = some j->j<i/\∃ e q x,E[j]? = some e/\e.r=some q/\bf bA.hp+m=bf e.st.hp+x/\x<q.new.length
 news:∀ j e q,j<i->E[j]? = some e->e.r=some q->bf bA.hp<=bf e.st.hp/\∀(x:Nat) y,q.new[x]? = some y->b8[bf e.st.hp+x-bf bA.hp]? = some j/\st.aB (bf e.st.hp+x)=y
theorem gz{all:Array Oper}{k:Nat}(h:fD all k=true){i:Nat}(hi:i<k):∃ o,all[i]? = some o/\(∀ j want,o.guard=some (j,want)->j<i/\(du all i).testBit j=true) ∧
 ∃ d,o.dst=some d/\∀ j o',j<k->j≠i->all[j]? = some o'->o'.dst≠some d:=by
 have:=List.all_eq_true.1 h i (List.mem_range.2 hi)
 split at this
 ·rename_i o ho
  rw[Bool.and_eq_true] at this
  obtain⟨h1,h2⟩:=this
  refine⟨o,ho,fun j want hg=>?_,?_⟩
  ·rw[hg] at h1
   simp only[Bool.and_eq_true,decide_eq_true_eq] at h1
   exact h1
  ·split at h2
   ·rename_i d hd
    refine⟨d,hd,fun j o' hj bo bF he=>?_⟩
    have:=List.all_eq_true.1 h2 j (List.mem_range.2 hj)
    rw[bF] at this
    simp[bo,he] at this
   ·cases h2
 ·cases this
theorem z6{ts:List S}{d t:Nat}{s:S}:nth .any (b9 ts d s) t=if t=d then (if d<ts.length then s else .any) else nth .any ts t:=by
 rw[cB,cB,eI,List.getElem?_set]
 by_cases h:d=t
 ·subst h
  simp only[if_true]
  split<;>rfl
 ·rw[if_neg h,if_neg (fun e=>h e.symm)]
theorem eR.refine{all:Array Oper}{k:Nat}{bA st:St}{E:List gV}{i:Nat}{b8:List Nat}(s:eR all bA E i b8 st){o:Oper}{dv:St}{g:Bool}(eE:fD all k=true)(hi:i<k)(ho:all[i]? = some o)(hr:fC all st o dv g) :
 eR all bA E i b8 dv:=by
 unfold fC at hr
 split at hr
 ·rw[hr.1];exact s
 ·rw[hr.1];exact s
 ·rename_i d b want hd
  rw[hr.1]
  have RC:nth .any st.ts d = .c (.val (.bool b))/\∃ j oj,j<i/\all[j]? = some oj/\oj.dst=some d:=by
   unfold im at hd
   obtain⟨o',bF,hg,_⟩:=gz eE hi
   rw[ho] at bF;injection bF with bF;subst bF
   split at hd
   ·cases hd
   ·rename_i j w2 Dx
    split at hd
    ·rename_i d' cG
     split at hd
     ·split at hd<;>cases hd
     ·split at hd<;>cases hd
     ·rename_i b' fu
      injection hd with e1 e2 e3
      subst e1;subst e2
      refine⟨fu,j,?_⟩
      rw[sU,dc] at cG
      cases hj:all.toList[j]? with
      | none=>rw[hj] at cG;cases cG
      | some oj=>rw[hj] at cG;exact⟨oj,(hg j w2 Dx).1,by simpa using hj,cG⟩
     ·cases hd
     ·cases hd
    ·cases hd
  obtain⟨hb,jd,od,TF,TS,Tu⟩:=RC
  refine⟨by show (b9 st.ts d _).length=_;rw[eI,List.length_set];exact s.len,fun t ht=>?_,fun j o' d' hj bF cG V hp w v hv=>?_,s.names,s.dx,s.xN,s.news⟩
  ·show (b9 st.ts d _)[t]? = _
   rw[eI,List.getElem?_set]
   have bo:d≠t:=fun e=>by subst e;exact ht jd od TF TS Tu
   rw[if_neg bo]
   exact s.y2 t ht
  ·have h0:=s.new j o' d' hj bF cG V hp w v hv
   show S.ok V hp w (nth .any (b9 st.ts d _) d') v
   rw[z6]
   split
   ·rename_i e
    subst e
    split
    ·rw[hb] at h0
     replace h0:v = .bool b:=h0.1
     cases b<;>exact h0
    ·trivial
   ·exact h0
 ·exact hr.elim
theorem eR.skip{all:Array Oper}{k:Nat}{bA:St}{E:List gV}{i:Nat}{e:gV}(s:eR all bA E i e.b8 e.st){o:Oper}(eE:fD all k=true)(hi:i<k)(ho:all[i]? = some o)(he:E[i]? = some e)(hr:e.r=none) :
 eR all bA E (i+1) e.b8 (e.st.put o.dst .eP):=by
 obtain⟨o',bF,_,d,hd,sH⟩:=gz eE hi
 rw[ho] at bF;injection bF with bF;subst bF
 rw[hd]
 refine⟨by show (b9 e.st.ts d _).length=_;rw[eI,List.length_set];exact s.len,fun t ht=>?_,fun j o' d' hj bF cG V hp w v hv=>?_,s.names,s.dx,fun m j hm=>?_,fun j e' q hj eF hq=>?_⟩
 ·show (b9 e.st.ts d _)[t]? = _
  rw[eI,List.getElem?_set,if_neg (fun e=>by subst e;exact ht i o (by omega) ho hd)]
  exact s.y2 t fun j o hj=>ht j o (by omega)
 ·show S.ok V hp w (nth .any (b9 e.st.ts d _) d') v
  rw[z6]
  by_cases ff:j=i
  ·subst ff
   rw[ho] at bF;injection bF with bF;subst bF
   rw[hd] at cG;injection cG with cG;subst cG
   rw[if_pos rfl]
   split
   ·unfold u6 at hv
    rw[he] at hv
    simp only[hr] at hv
    exact hv
   ·trivial
  ·rw[if_neg (fun e=>by subst e;exact sH j o' (by omega) ff bF cG)]
   exact s.new j o' d' (by omega) bF cG V hp w v hv
 ·obtain⟨h1,h2⟩:=s.xN m j hm
  exact⟨by omega,h2⟩
 ·by_cases ff:j=i
  ·subst ff
   rw[he] at eF;injection eF with eF;subst eF
   rw[hr] at hq;cases hq
  ·exact s.news j e' q (by omega) eF hq
theorem eR.step{all:Array Oper}{k:Nat}{bA:St}{E:List gV}{i:Nat}{e:gV}(s:eR all bA E i e.b8 e.st){o:Oper}(eE:fD all k=true)(hi:i<k)(ho:all[i]? = some o)(he:E[i]? = some e){q:QR}(hr:e.r=some q) :
 eR all bA E (i+1) (dg e.b8 (lmap (fun _=>i) q.new)) ((e.st.alloc q.new).put o.dst q.res):=by
 obtain⟨o',bF,_,d,hd,sH⟩:=gz eE hi
 rw[ho] at bF;injection bF with bF;subst bF
 rw[hd,bN,bP]
 have gH:((e.st.alloc q.new).put (some d) q.res).aB=cZ e.st.aB (bf e.st.hp) q.new:=by rw[OR,pO]
 have hn:bf bA.hp+e.b8.length=bf e.st.hp:=s.names.symm
 refine⟨by show (b9 e.st.ts d _).length=_;rw[eI,List.length_set];exact s.len,fun t ht=>?_,fun j o' d' hj bF cG V hp w v hv=>?_,?_,fun n aK=>?_,fun m j hm=>?_,fun j e' q' hj eF hq=>?_⟩
 ·show (b9 e.st.ts d _)[t]? = _
  rw[eI,List.getElem?_set,if_neg (fun e=>by subst e;exact ht i o (by omega) ho hd)]
  exact s.y2 t fun j o hj=>ht j o (by omega)
 ·show S.ok V hp w (nth .any (b9 e.st.ts d _) d') v
  rw[z6]
  by_cases ff:j=i
  ·subst ff
   rw[ho] at bF;injection bF with bF;subst bF
   rw[hd] at cG;injection cG with cG;subst cG
   rw[if_pos rfl]
   split
   ·unfold u6 at hv
    rw[he] at hv
    simp only[hr] at hv
    exact hv
   ·trivial
  ·rw[if_neg (fun e=>by subst e;exact sH j o' (by omega) ff bF cG)]
   exact s.new j o' d' (by omega) bF cG V hp w v hv
 ·show bf (dg e.st.hp q.new)=_
  rw[cx,bN,List.length_append,List.length_append,List.length_map,<-cx e.st.hp]
  omega
 ·rw[gH]
  unfold cZ
  rw[if_pos (by omega)]
  exact s.dx n aK
 ·rcases Nat.lt_or_ge m e.b8.length with h|h
  ·rw[List.getElem?_append_left h] at hm
   obtain⟨h1,h2⟩:=s.xN m j hm
   exact⟨by omega,h2⟩
  ·rw[List.getElem?_append_right h,List.getElem?_map] at hm
   cases hq:q.new[m-e.b8.length]? with
   | none=>rw[hq] at hm;cases hm
   | some y =>
     rw[hq] at hm
     simp only[Option.map_some,Option.some.injEq] at hm
     subst hm
     exact⟨by omega,e,q,m-e.b8.length,he,hr,by omega,(List.getElem?_eq_some_iff.1 hq).1⟩
 ·by_cases ff:j=i
  ·subst ff
   rw[he] at eF;injection eF with eF;subst eF
   rw[hr] at hq;injection hq with hq;subst hq
   refine⟨by omega,fun x y hx=>⟨?_,?_⟩⟩
   ·rw[List.getElem?_append_right (by omega),List.getElem?_map,show bf e.st.hp+x-bf bA.hp-e.b8.length=x by omega,hx]
    rfl
   ·rw[gH]
    exact p7 hx
  ·obtain⟨h1,h2⟩:=s.news j e' q' (by omega) eF hq
   refine⟨h1,fun x y hx=>?_⟩
   obtain⟨h3,h4⟩:=h2 x y hx
   have aK:=(List.getElem?_eq_some_iff.1 h3).1
   refine⟨by rw[List.getElem?_append_left aK];exact h3,?_⟩
   rw[gH]
   unfold cZ
   rw[if_pos (by omega)]
   exact h4
end
end Go.SX
/- A region that draws its order: whatever the order. No condition. -/
namespace Go.SX
open Go.RowKit
set_option linter.unusedVariables false
set_option linter.unusedSimpArgs false
section
variable {P : Program} {T : bT} {Γ : FuncId → Option PC} {R : FuncId → Option dk} {all : Array Oper} {k : Nat} {bA : St} {E : List gV} {cf : List Nat} {cH : St}
def CM(T:bT)(Γ:FuncId->Option PC)(all:Array Oper)(k:Nat)(bA:St)(E:List gV)(i:Nat):Prop :=
 ∃ e o st,E[i]? = some e/\all[i]? = some o/\eR all bA E i e.b8 st/\fC all st o e.st e.r.isSome/\eR all bA E i e.b8 e.st ∧
  (∀ q,e.r=some q->fw T Γ (Bj all i (bf bA.hp) e.b8 e.st) (bf e.st.hp) (Di all k i e.st) o.op=some q)
theorem mJ(eE:fD all k=true):∀(l:List Oper) (i:Nat) (b8:List Nat) (st:St) (Er:List gV),(all.toList.take k).drop i=l->E.drop i=Er->i+l.length=k →
 rW T Γ all k (bf bA.hp) i l b8 st Er cf cH->eR all bA E i b8 st->(∀ j,i<=j->j<k->CM T Γ all k bA E j)/\eR all bA E k cf cH
 | [],i,b8,st,Er,_,_,hi,hc,s=>by
   obtain⟨_,rfl,rfl⟩:=hc
   have:i=k:=by simpa using hi
   subst this
   exact⟨fun j h1 h2=>by omega,s⟩
 | o::l,i,b8,st,Er,hl,hE,hi,hc,s=>by
   obtain⟨e,E',rfl,rfl,hr,hc⟩:=hc
   have fL:i<k:=by simp only[List.length_cons] at hi;omega
   have ho:all[i]? = some o:=by
    have:((all.toList.take k).drop i)[0]? = some o:=by rw[hl];rfl
    rw[List.getElem?_drop,List.getElem?_take] at this
    simpa[fL] using this
   have df:(all.toList.take k).drop (i+1)=l:=by rw[<-List.drop_drop,hl];rfl
   have he:E[i]? = some e:=by
    have:(E.drop i)[0]? = some e:=by rw[hE];rfl
    rw[List.getElem?_drop] at this
    simpa using this
   have R3:E.drop (i+1)=E':=by rw[<-List.drop_drop,hE];rfl
   have s1:=s.refine eE fL ho hr
   have dY:i+1+l.length=k:=by simp only[List.length_cons] at hi;omega
   cases jW:e.r with
   | none =>
     rw[jW] at hc
     obtain⟨k1,k2⟩:=mJ eE l (i+1) _ _ E' df R3 dY hc (s1.skip eE fL ho he jW)
     refine⟨fun j h1 h2=>?_,k2⟩
     by_cases hj:j=i
     ·subst hj
      exact⟨e,o,st,he,ho,s,hr,s1,fun q hq=>by rw[jW] at hq;cases hq⟩
     ·exact k1 j (by omega) h2
   | some q =>
     rw[jW] at hc
     obtain⟨hq,hc⟩:=hc
     obtain⟨k1,k2⟩:=mJ eE l (i+1) _ _ E' df R3 dY hc (s1.step eE fL ho he jW)
     refine⟨fun j h1 h2=>?_,k2⟩
     by_cases hj:j=i
     ·subst hj
      exact⟨e,o,st,he,ho,s,hr,s1,fun q' eG=>by rw[jW] at eG;injection eG with eG;subst eG;exact hq⟩
     ·exact k1 j (by omega) h2
theorem zo(all:Array Oper)(bA:St)(E:List gV):eR all bA E 0 [] bA :=
 ⟨rfl,fun _ _=>rfl,fun _ _ _ h=>absurd h (Nat.not_lt_zero _),rfl,fun _ _=>rfl,(fun m j h=>by cases h),fun _ _ _ h=>absurd h (Nat.not_lt_zero _)⟩
def iI(bA:St)(cf:List Nat)(cH:St)(L:Nat->Bool)(n:Nat):az :=
 if n<bf bA.hp then bA.aB n else match cf[n-bf bA.hp]? with|some j=>if L j then cH.aB n else .dead|none=>.dead
theorem OW{L:Nat->Bool}{n:Nat}(h:n<bf bA.hp):iI bA cf cH L n=bA.aB n:=by unfold iI;rw[if_pos h]
theorem zX{L:Nat->Bool}{n j:Nat}(h:bf bA.hp<=n)(hw:cf[n-bf bA.hp]? = some j):iI bA cf cH L n=if L j then cH.aB n else .dead:=by
 unfold iI;rw[if_neg (by omega),hw]
structure Inv (base:Nat) (M:LM) (w0:World) (all:Array Oper) (k:Nat) (bA:St) (E:List gV) (cf:List Nat) (cH:St) (L:Nat->Bool) (a:Act) (w:World):Prop where
 defers:a.defers=[]
 size:bA.ts.length=a.tmps.size
 ex:∃ V,Mem base M w0 V (iI bA cf cH L) w ∧
  (∀(t:Nat) s v,(∀ j o,j<k->all[j]? = some o->o.dst≠some t)->bA.ts[t]? = some s->a.tmps[t]? = some v->S.ok V (iI bA cf cH L) w s v) ∧
  (∀ j o d v,j<k->L j=true->all[j]? = some o->o.dst=some d->a.tmps[d]? = some v->S.ok V (iI bA cf cH L) w (u6 E j) v)
 hy:∀ j e q,j<k->L j=true->E[j]? = some e->e.r=some q->∀ p,q.hy=some p->p
variable {base : Nat} {M : LM} {w0 : World} {a : Act} {w : World} {L : Nat → Bool} {next : Act → World → Prop} {Q : Exit → Act → World → Prop}
theorem m3{a:Act}{d t:Nat}{v:Value}(h:d≠t):(a.put (some d) v).tmps[t]? = a.tmps[t]? := by
 show (a.tmps.setIfInBounds d v)[t]? = _
 exact Array.getElem?_setIfInBounds_ne h
theorem wY{a:Act}{d:Nat}{v u:Value}(h:(a.put (some d) v).tmps[d]? = some u):u=v:=by
 have h':(a.tmps.setIfInBounds d v)[d]? = some u:=h
 rw[Array.getElem?_setIfInBounds] at h'
 simp only[if_true] at h'
 split at h'
 ·injection h' with h';exact h'.symm
 ·cases h'
def gy(L:Nat->Bool)(i j:Nat):Bool:=if j=i then true else L j
theorem BG{V:Vl}{hp:Nat->az}{i:Nat}{b8:List Nat}{st:St}{o:Oper}{dv:St}{g:Bool}(eE:fD all k=true)(hi:i<k)(ho:all[i]? = some o)(hr:fC all st o dv g)(s:eR all bA E i b8 st)
 (ck:bA.ts.length=a.tmps.size) (hL:∀ j,(du all i).testBit j=true->L j=true)
 (MS:∀ j o d v,j<k->L j=true->all[j]? = some o->o.dst=some d->a.tmps[d]? = some v->S.ok V hp w (u6 E j) v) :
 Region.wanted o (yielded all a.tmps)=g:=by
 obtain⟨o',bF,hg,_⟩:=gz eE hi
 rw[ho] at bF;injection bF with bF;subst bF
 unfold fC im at hr
 unfold Region.wanted
 cases Dx:o.guard with
 | none =>
   rw[Dx] at hr
   simp only at hr
   exact hr.2.symm
 | some gw =>
   obtain⟨j,want⟩:=gw
   obtain⟨KL,A9⟩:=hg j want Dx
   rw[Dx] at hr
   simp only[dc,sU] at hr
   cases KM:all[j]? with
   | none =>
     have:all.toList[j]? = none:=by simpa using KM
     rw[this] at hr
     exact hr.elim
   | some oj =>
     have SS:all.toList[j]? = some oj:=by simpa using KM
     rw[SS,Option.bind_some] at hr
     cases hd:oj.dst with
     | none=>rw[hd] at hr;exact hr.elim
     | some d =>
       rw[hd] at hr
       simp only at hr
       have slot:∀ sl,nth .any st.ts d=sl->sl ≠ .any->∃ v,a.tmps[d]? = some v/\S.ok V hp w sl v:=by
        intro sl h1 h2
        rw[<-h1] at h2 ⊢
        have aK:d<st.ts.length:=by
         rcases Nat.lt_or_ge d st.ts.length with h|h
         ·exact h
         ·exact absurd (by rw[cB,List.getElem?_eq_none h];rfl) h2
        have xu:d<a.tmps.size:=by rw[<-ck,<-s.len];exact aK
        have hv:a.tmps[d]? = some (a.tmps[d]'xu):=Array.getElem?_eq_getElem xu
        exact⟨_,hv,s.new j oj d KL KM hd V hp w _ (MS j oj d _ (by omega) (hL j A9) KM hd hv)⟩
       have hy:∀ v,a.tmps[d]? = some v->yielded all a.tmps j=match v with | .bool b=>some b|_=>none:=by
        intro v hv
        unfold yielded
        rw[KM,Option.bind_some,hd,Option.bind_some,hv]
        cases v<;>rfl
       simp only
       split at hr
       ·rename_i e
        split at e
        ·rename_i he
         obtain⟨v,h1,h2⟩:=slot _ he (by simp)
         replace h2:v = .bool true:=h2
         rw[hr.2,hy v h1,h2]
         cases want<;>simp_all
        ·rename_i he
         obtain⟨v,h1,h2⟩:=slot _ he (by simp)
         replace h2:v = .bool false:=h2
         rw[hr.2,hy v h1,h2]
         cases want<;>simp_all
        all_goals cases e
       ·rename_i e
        split at e
        ·rename_i he
         obtain⟨v,h1,h2⟩:=slot _ he (by simp)
         replace h2:v = .bool true:=h2
         rw[hr.2,hy v h1,h2]
         cases want<;>simp_all
        ·rename_i he
         obtain⟨v,h1,h2⟩:=slot _ he (by simp)
         replace h2:v = .bool false:=h2
         rw[hr.2,hy v h1,h2]
         cases want<;>simp_all
        ·cases e
        ·rename_i he
         obtain⟨v,h1,h2⟩:=slot _ he (by simp)
         replace h2:v=undef:=h2
         rw[hr.2,hy v h1,h2]
         simp[undef]
        ·cases e
       ·rename_i d' b' RS e
        split at e
        ·split at e<;>cases e
        ·split at e<;>cases e
        ·rename_i b he
         obtain⟨v,h1,h2⟩:=slot _ he (by simp)
         replace h2:v = .bool b:=h2.1
         injection e with e1 e2 e3
         subst e1;subst e2;subst e3
         rw[hr.2,hy v h1,h2]
         cases b<;>cases want<;>rfl
        ·cases e
        ·cases e
       ·exact hr.elim
theorem nV:∀ {k t j:Nat},ku all t k=some j->j<k/\∃ o,all[j]? = some o/\o.dst=some t
 | 0,t,j,h=>by cases h
 | k+1,t,j,h=>by
   unfold ku at h
   split at h
   ·rename_i o ho
    split at h
    ·rename_i hd
     injection h with h;subst h
     exact⟨by omega,o,ho,hd⟩
    ·obtain⟨h1,h2⟩:=nV h
     exact⟨by omega,h2⟩
   ·obtain⟨h1,h2⟩:=nV h
    exact⟨by omega,h2⟩
theorem ke:∀ {k t:Nat},ku all t k=none->∀ j o,j<k->all[j]? = some o->o.dst≠some t
 | 0,t,_,j,o,hj,_=>absurd hj (Nat.not_lt_zero _)
 | k+1,t,h,j,o,hj,ho=>by
   unfold ku at h
   split at h
   ·rename_i o' bF
    split at h
    ·cases h
    ·rename_i hd
     by_cases Qg:j=k
     ·subst Qg
      rw[ho] at bF;injection bF with bF;subst bF
      exact hd
     ·exact ke h j o (by omega) ho
   ·rename_i hn
    by_cases Qg:j=k
    ·subst Qg
     exact absurd ho (by rw[hn];simp)
    ·exact ke h j o (by omega) ho
theorem Kr{V:Vl}{hp:Nat->az}{i:Nat}{b8:List Nat}{st:St}(hi:i<=k)(s:eR all bA E i b8 st)(aK:∀ j,(du all i).testBit j=true->j<i)
 (ck:bA.ts.length=a.tmps.size) (hL:∀ j,(du all i).testBit j=true->L j=true)
 (hold:∀(t:Nat) s v,(∀ j o,j<k->all[j]? = some o->o.dst≠some t)->bA.ts[t]? = some s->a.tmps[t]? = some v->S.ok V hp w s v)
 (MS:∀ j o d v,j<k->L j=true->all[j]? = some o->o.dst=some d->a.tmps[d]? = some v->S.ok V hp w (u6 E j) v) (x:Operand) :
 S.ok V hp w (Di all k i st x) (a.eval x):=by
 have QF:∀ t,(∀ s v,st.ts[t]? = some s->a.tmps[t]? = some v->S.ok V hp w s v)->S.ok V hp w (st.eval (.tmp t)) (a.eval (.tmp t)):=by
  intro t h
  show S.ok V hp w (nth .any st.ts t) (a.tmps.getD t undef)
  rw[cB]
  cases hs:st.ts[t]? with
  | none=>trivial
  | some sl =>
    have ht:t<a.tmps.size:=by have:=(List.getElem?_eq_some_iff.1 hs).1;rw[s.len,ck] at this;exact this
    have hv:a.tmps[t]? = some a.tmps[t]:=Array.getElem?_eq_getElem ht
    have:=h sl _ hs hv
    simpa[Array.getD,ht] using this
 cases x with
 | tmp t =>
   unfold Di
   simp only
   split
   ·rename_i j hj
    obtain⟨h1,o,h2,h3⟩:=nV hj
    split
    ·rename_i hm
     refine QF t fun sl v hs hv=>?_
     have:=s.new j o t (aK j hm) h2 h3 V hp w v (MS j o t v h1 (hL j hm) h2 h3 hv)
     rw[cB,hs] at this
     exact this
    ·trivial
   ·rename_i hn
    refine QF t fun sl v hs hv=>?_
    rw[s.y2 t fun j o hj=>ke hn j o (by omega)] at hs
    exact hold t sl v (ke hn) hs hv
 | const v=>exact Ea v
 | global g=>trivial
 | func f=>exact⟨rfl,fun n hn=>by simp at hn⟩
theorem QU{V:Vl}{i:Nat}{b8:List Nat}{st:St}(hi:i<k)(s:eR all bA E i b8 st)(f:eR all bA E k cf cH)(hL:∀ j,(du all i).testBit j=true->L j=true)
 (m:Mem base M w0 V (iI bA cf cH L) w):iz V (iI bA cf cH L) (Bj all i (bf bA.hp) b8 st) w:=by
 intro n hl
 have he:Bj all i (bf bA.hp) b8 st n=iI bA cf cH L n:=by
  unfold Bj at hl ⊢
  split
  ·rename_i hn
   rw[OW hn]
   exact s.dx n hn
  ·rename_i hn
   rw[if_neg hn] at hl
   rw[dc] at hl ⊢
   cases hw:b8[n-bf bA.hp]? with
   | none=>rw[hw] at hl;cases hl
   | some j =>
     rw[hw] at hl
     simp only at hl ⊢
     split at hl
     ·rename_i hm
      rw[if_pos hm]
      obtain⟨h1,e,q,x,h2,h3,h4,h5⟩:=s.xN _ j hw
      have hx:q.new[x]? = some q.new[x]:=List.getElem?_eq_getElem h5
      obtain⟨h6,h7⟩:=s.news j e q h1 h2 h3
      obtain⟨h8,h9⟩:=f.news j e q (by omega) h2 h3
      have iU:n=bf e.st.hp+x:=by omega
      rw[zX (j:=j) (by omega) (by rw[iU];exact (h9 x _ hx).1),if_pos (hL j hm),iU,(h7 x _ hx).2,(h9 x _ hx).2]
     ·cases hl
 rw[he]
 exact⟨rfl,m.dx n⟩
theorem DQ{i:Nat}{e:gV}{o:Oper}(eE:fD all k=true)(hi:i<k)(he:E[i]? = some e)(ho:all[i]? = some o)(hr:e.r=none)(f:eR all bA E k cf cH)
 (v:Inv base M w0 all k bA E cf cH L a w):Inv base M w0 all k bA E cf cH (gy L i) (a.put o.dst undef) w:=by
 obtain⟨o',bF,_,d,hd,sH⟩:=gz eE hi
 rw[ho] at bF;injection bF with bF;subst bF
 have rp:iI bA cf cH (gy L i)=iI bA cf cH L:=by
  funext n
  unfold iI
  split
  ·rfl
  ·split
   ·rename_i j hj
    obtain⟨_,e',q,x,h2,h3,_⟩:=f.xN _ j hj
    have:j≠i:=fun h=>by subst h;rw[he] at h2;injection h2 with h2;subst h2;rw[hr] at h3;cases h3
    unfold gy
    rw[if_neg this]
   ·rfl
 obtain⟨V,h1,h2,h3⟩:=v.ex
 rw[hd]
 refine⟨by rw[put_defers];exact v.defers,by rw[v.size];show _=(a.tmps.setIfInBounds d undef).size;simp,⟨V,by rw[rp];exact h1,fun t s v' lR hs hv=>?_,fun j o' d' v' hj hL bF cG hv=>?_⟩,fun j e' q hj hL eF hq=>?_⟩
 ·rw[rp]
  rw[m3 (fun e=>by subst e;exact lR i o hi ho hd)] at hv
  exact h2 t s v' lR hs hv
 ·rw[rp]
  by_cases ff:j=i
  ·subst ff
   rw[ho] at bF;injection bF with bF;subst bF
   rw[hd] at cG;injection cG with cG;subst cG
   rw[wY hv]
   unfold u6
   rw[he]
   simp only[hr]
   rfl
  ·rw[m3 (fun e=>by subst e;exact sH j o' hj ff bF cG)] at hv
   exact h3 j o' d' v' hj (by unfold gy at hL;rw[if_neg ff] at hL;exact hL) bF cG hv
 ·by_cases ff:j=i
  ·subst ff
   rw[he] at eF;injection eF with eF;subst eF
   rw[hr] at hq;cases hq
  ·exact v.hy j e' q hj (by unfold gy at hL;rw[if_neg ff] at hL;exact hL) eF hq
theorem K8(hT:bJ P T)(hΓ:eQ P Γ){i:Nat}{e:gV}{o:Oper}(eE:fD all k=true)(hi:i<k)(he:E[i]? = some e)(ho:all[i]? = some o){q:QR}(hr:e.r=some q)(cP:∀ p,q.ob=some p->p)
 (s:eR all bA E i e.b8 e.st) (f:eR all bA E k cf cH) (hq:fw T Γ (Bj all i (bf bA.hp) e.b8 e.st) (bf e.st.hp) (Di all k i e.st) o.op=some q)
 (aK:∀ j,(du all i).testBit j=true->j<i) (hL:∀ j,(du all i).testBit j=true->L j=true) (Ba:L i=false)
 (v:Inv base M w0 all k bA E cf cH L a w) (h:∀ u w',Inv base M w0 all k bA E cf cH (gy L i) (a.put o.dst u) w'->next (a.put o.dst u) w'):o.wp P a w next Q:=by
 obtain⟨o',bF,_,d,hd,sH⟩:=gz eE hi
 rw[ho] at bF;injection bF with bF;subst bF
 obtain⟨V,h1,h2,h3⟩:=v.ex
 obtain⟨n1,n2⟩:=f.news i e q hi he hr
 have pZ:∀ j,j<q.new.length->iI bA cf cH L (bf e.st.hp+j) = .dead:=by
  intro j hj
  have hx:q.new[j]? = some q.new[j]:=List.getElem?_eq_getElem hj
  rw[zX (j:=i) (by omega) (n2 j _ hx).1,Ba]
  rfl
 have rp:cZ (iI bA cf cH L) (bf e.st.hp) q.new=iI bA cf cH (gy L i):=by
  funext n
  rcases eY (iI bA cf cH L) (bf e.st.hp) q.new n with ⟨j,y,k1,k2,k3⟩|⟨k1,k2⟩
  ·rw[k3,zX (j:=i) (by omega) (by rw[k1];exact (n2 j y k2).1)]
   unfold gy
   rw[if_pos rfl,k1]
   simp only[if_true]
   exact ((n2 j y k2).2).symm
  ·rw[k2]
   unfold iI
   split
   ·rfl
   ·rename_i hn
    split
    ·rename_i j hj
     have:j≠i:=fun ff=>by
      subst ff
      obtain⟨_,e',q',x,g2,g3,g4,g5⟩:=f.xN _ j hj
      rw[he] at g2;injection g2 with g2;subst g2
      rw[hr] at g3;injection g3 with g3;subst g3
      omega
     unfold gy
     rw[if_neg this]
    ·rfl
 refine LL hT hΓ h1 (QU hi s f hL h1) (Kr (Nat.le_of_lt hi) s aK v.size hL h2 h3) hq pZ cP (fun u w' V' g=>?_)
 refine h u w' ?_
 rw[hd]
 have gx:=g.vx
 have gm:=g.mem
 have gr:=g.res
 rw[rp] at gx gm gr
 refine⟨by rw[put_defers];exact v.defers,by rw[v.size];show _=(a.tmps.setIfInBounds d u).size;simp,⟨V',gm,fun t s' v' lR hs hv=>?_,fun j o' d' v' hj Dt bF cG hv=>?_⟩,fun j e' q' hj Dt eF eG=>?_⟩
 ·rw[m3 (fun e=>by subst e;exact lR i o hi ho hd)] at hv
  exact S.ja gx (h2 t s' v' lR hs hv)
 ·by_cases ff:j=i
  ·subst ff
   rw[ho] at bF;injection bF with bF;subst bF
   rw[hd] at cG;injection cG with cG;subst cG
   rw[wY hv]
   unfold u6
   rw[he]
   simp only[hr]
   exact gr
  ·rw[m3 (fun e=>by subst e;exact sH j o' hj ff bF cG)] at hv
   exact S.ja gx (h3 j o' d' v' hj (by unfold gy at Dt;rw[if_neg ff] at Dt;exact Dt) bF cG hv)
 ·by_cases ff:j=i
  ·subst ff
   rw[he] at eF;injection eF with eF;subst eF
   rw[hr] at eG;injection eG with eG;subst eG
   exact g.hy
  ·exact v.hy j e' q' hj (by unfold gy at Dt;rw[if_neg ff] at Dt;exact Dt) eF eG
theorem z5(iA:∀ j,j<k->L j=true)(hE:E.length=k)(f:eR all bA E k cf cH)(v:Inv base M w0 all k bA E cf cH L a w):Sat base M w0 cH a w/\G8 E:=by
 obtain⟨V,h1,h2,h3⟩:=v.ex
 have rp:iI bA cf cH L=cH.aB:=by
  funext n
  unfold iI
  split
  ·rename_i hn;exact (f.dx n hn).symm
  ·rename_i hn
   split
   ·rename_i j hj
    rw[if_pos (iA j (f.xN _ j hj).1)]
   ·rename_i hj
    have dU:=List.getElem?_eq_none_iff.1 hj
    have iU:=f.names
    show az.dead=nth .dead cH.hp n
    rw[cB,List.getElem?_eq_none (by rw[<-cx];omega)]
    rfl
 rw[rp] at h1 h2 h3
 refine⟨⟨v.defers,V,⟨by rw[f.len];exact v.size,fun t s u hs hu=>?_,h1⟩⟩,fun e he q hq=>?_⟩
 ·by_cases hd:∃ j o,j<k/\all[j]? = some o/\o.dst=some t
  ·obtain⟨j,o,hj,ho,hd⟩:=hd
   have:=f.new j o t hj ho hd V cH.aB w u (h3 j o t u hj (iA j hj) ho hd hu)
   rw[cB,hs] at this
   exact this
  ·have lR:∀ j o,j<k->all[j]? = some o->o.dst≠some t:=fun j o hj ho h=>hd ⟨j,o,hj,ho,h⟩
   rw[f.y2 t lR] at hs
   exact h2 t s u lR hs hu
 ·obtain⟨j,hj,rfl⟩:=List.mem_iff_getElem.1 he
  exact v.hy j _ q (by omega) (iA j (by omega)) (List.getElem?_eq_getElem hj) hq
end
end Go.SX
