/- A verified symbolic executor and its contracts (part SxA). No condition. -/
import Derived.Orders
import Derived.Below
import GoSem.ClaimData
import Derived.Laws.BytesArg
import Derived.Laws.OwnMore
import Derived.Laws.CopyRow
import Derived.Laws.NewFold
import Derived.Laws.Tables
import Derived.Laws.StructEq
set_option linter.unusedVariables false
set_option linter.unusedSimpArgs false
open Go.IntKind (i64 u8)
/- The data that a Go value of plain types reads as, and what keeps such a reading: types, typed data, readings of cells. No condition. -/
namespace Go.SX
open Go.RowKit
set_option linter.unusedVariables false
inductive Ty where
 | int (k:IntKind)
 | bool
 | str
 | sl (e:Ty)
 | st (t:Ty)
 | pr (a b:Ty)
 | ptr (t:Ty)
 | bZ (f:Nat) (t:Ty)
 | gs (wh:Bool) (e:Ty)
 deriving DecidableEq
@[reducible] def Ty.den:Ty->Type
 | .int _=>Int
 | .bool=>Bool
 | .str=>ByteArray
 | .sl e=>List e.den
 | .st t=>t.den
 | .pr a b=>a.den×b.den
 | .ptr t=>t.den
 | .bZ _ t=>t.den
 | .gs _ e=>Nat×List e.den
def Ty.size:Ty->Nat
 | .st t=>t.size
 | .pr a b=>a.size+b.size
 | _=>1
def Ty.fe:(t:Ty)->t.den
 | .int _=>(0:Int)
 | .bool=>false
 | .str=>ByteArray.empty
 | .sl _=>[]
 | .st t=>t.fe
 | .pr a b=>(a.fe,b.fe)
 | .ptr t=>t.fe
 | .bZ _ t=>t.fe
 | .gs _ _=>(0,[])
def Ty.flat:Ty->Bool
 | .sl _=>false
 | .st t=>t.flat
 | .pr a b=>a.flat&&b.flat
 | .ptr _=>false
 | .bZ _ _=>false
 | .gs _ _=>false
 | _=>true
def Ty.plain:Ty->Bool
 | .st t=>t.plain
 | .pr a b=>a.plain&&b.plain
 | .ptr _=>false
 | .bZ _ _=>false
 | _=>true
def cX:Nat:=9223372036854775807
def Ty.wf:(t:Ty)->t.den->Prop
 | .int k,n=>k.min<=n/\n<=k.max
 | .bool,_=>True
 | .str,s=>s.size<=maxLen
 | .sl e,xs=>xs.length<=cX/\∀ x∈xs,e.wf x
 | .st t,d=>t.wf d
 | .pr a b,d=>a.wf d.1/\b.wf d.2
 | .ptr t,d=>t.wf d
 | .bZ _ t,d=>t.wf d
 | .gs _ e,d=>d.2.length<=cX/\∀ x∈d.2,e.wf x
def lT(w:World)(b off:Nat)(cs:List Value):Prop:=∀ j (h:j<cs.length),w.cell? ⟨b,off+j,none⟩=some cs[j]
def SL(b:Nat)(cs:List Value):Prop:=∃ o n cap,cs=[.slice (some ⟨b,o,none⟩) n cap]
def Pg(w:World)(b:Nat)(cs:List Value)(sz:Nat):Prop:=∃ n cap aq el,cs=[.slice (some ⟨b,0,none⟩) n cap]/\w.heap[b]? = some (.cells aq el (0,0))/\aq.size=cap*sz
def aF(Z:Nat->Prop)(w:World):(t:Ty)->List Value->t.den->Prop
 | .int k,cs,n=>cs=[.int k n]/\k.min<=n/\n<=k.max
 | .bool,cs,b=>cs=[.bool b]
 | .str,cs,s=>cs=[.string s]/\s.size<=maxLen
 | .sl e,cs,xs=>∃ a cap,cs=[.slice a xs.length cap]/\xs.length<=cap/\xs.length<=cX ∧
    ∀ i (h:i<xs.length),∃ ad:Addr,a=some ad/\ad.spot=none/\Z ad.block ∧
     ∃ es,es.length=e.size/\lT w ad.block (ad.off+i*e.size) es/\aF Z w e es xs[i]
 | .st t,cs,d=>aF Z w t cs d
 | .pr a b,cs,d=>∃ c1 c2,cs=c1++c2/\aF Z w a c1 d.1/\aF Z w b c2 d.2
 | .ptr t,cs,d=>∃ b o,cs=[.pointer (some ⟨b,o,none⟩)]/\Z b/\∃ es,es.length=t.size/\lT w b o es/\aF Z w t es d
 | .bZ f t,cs,d=>∃ di:Array Value,cs=[.func (.func f) #[] di]/\aF Z w t di.toList d
 | .gs wh e,cs,d=>(∃ a cap,cs=[.slice a d.2.length cap]/\d.2.length<=cap/\d.2.length<=cX ∧
    ∀ i (h:i<d.2.length),∃ ad:Addr,a=some ad/\ad.spot=none/\Z ad.block ∧
     ∃ es,es.length=e.size/\lT w ad.block (ad.off+i*e.size) es/\aF Z w e es d.2[i])/\(0<d.2.length->SL d.1 cs)/\(wh=true->0<d.2.length->Pg w d.1 cs e.size)
def mh(Z:Nat->Prop)(w w':World):Prop:=∀ b,Z b->w'.heap[b]? = w.heap[b]?
theorem mh.refl(Z:Nat->Prop)(w:World):mh Z w w:=fun _ _=>rfl
theorem mh.trans{Z:Nat->Prop}{a b c:World}(h:mh Z a b)(k:mh Z b c):mh Z a c:=fun x hx=>(k x hx).trans (h x hx)
theorem mh.mono{Z Z':Nat->Prop}{a b:World}(h:mh Z a b)(hz:∀ x,Z' x->Z x):mh Z' a b:=fun x hx=>h x (hz x hx)
theorem gK{w w':World}{b off:Nat}{cs:List Value}(hb:w'.heap[b]? = w.heap[b]?)(h:lT w b off cs):lT w' b off cs :=
 fun j hj=>(World.cell?_of_block hb).trans (h j hj)
theorem aF.mono{Z Z':Nat->Prop}{w w':World}(hz:∀ b,Z b->Z' b)(ha:mh Z w w'):∀ {t:Ty} {cs:List Value} {d:t.den},aF Z w t cs d->aF Z' w' t cs d:=by
 intro t
 induction t with
 | int k=>exact fun h=>h
 | bool=>exact fun h=>h
 | str=>exact fun h=>h
 | sl e ih =>
   intro cs xs h
   obtain⟨a,cap,h1,h2,h3,h4⟩:=h
   refine⟨a,cap,h1,h2,h3,fun i hi=>?_⟩
   obtain⟨ad,e1,e2,e3,es,e4,e5,e6⟩:=h4 i hi
   exact⟨ad,e1,e2,hz _ e3,es,e4,gK (ha _ e3) e5,ih e6⟩
 | st t ih=>exact fun h=>ih h
 | pr a b fy fA =>
   intro cs d h
   obtain⟨c1,c2,h1,h2,h3⟩:=h
   exact⟨c1,c2,h1,fy h2,fA h3⟩
 | ptr t ih =>
   intro cs d h
   obtain⟨b,o,h1,h2,es,h3,h4,h5⟩:=h
   exact⟨b,o,h1,hz b h2,es,h3,gK (ha b h2) h4,ih h5⟩
 | bZ f t ih =>
   intro cs d h
   obtain⟨di,h1,h2⟩:=h
   exact⟨di,h1,ih h2⟩
 | gs wh e ih =>
   intro cs d h
   obtain⟨⟨a,cap,h1,h2,h3,h4⟩,h5,h6⟩:=h
   refine⟨⟨a,cap,h1,h2,h3,fun i hi=>?_⟩,h5,fun hw hp=>?_⟩
   ·obtain⟨ad,e1,e2,e3,es,e4,e5,e6⟩:=h4 i hi
    exact⟨ad,e1,e2,hz _ e3,es,e4,gK (ha _ e3) e5,ih e6⟩
   ·obtain⟨n,ig,aq,el,k1,k2,k3⟩:=h6 hw hp
    obtain⟨ad,e1,e2,e3,_⟩:=h4 0 hp
    rw[k1] at h1
    injection h1 with h1 _
    injection h1 with q1 q2 q3
    rw[e1] at q1
    injection q1 with q1
    rw[<-q1] at e3
    exact⟨n,ig,aq,el,k1,by rw[ha _ e3];exact k2,k3⟩
theorem aF.length{Z:Nat->Prop}{w:World}:∀ {t:Ty} {cs:List Value} {d:t.den},aF Z w t cs d->cs.length=t.size:=by
 intro t
 induction t with
 | int k=>intro cs d h;rw[h.1];rfl
 | bool=>intro cs d h;rw[show cs=_ from h];rfl
 | str=>intro cs d h;rw[h.1];rfl
 | sl e ih=>intro cs d h;obtain⟨a,cap,h1,_⟩:=h;rw[h1];rfl
 | st t ih=>exact fun h=>ih h
 | pr a b fy fA =>
   intro cs d h
   obtain⟨c1,c2,h1,h2,h3⟩:=h
   rw[h1,List.length_append,fy h2,fA h3];rfl
 | ptr t ih=>intro cs d h;obtain⟨b,o,h1,_⟩:=h;rw[h1];rfl
 | bZ f t ih=>intro cs d h;obtain⟨di,h1,_⟩:=h;rw[h1];rfl
 | gs wh e ih=>intro cs d h;obtain⟨⟨a,cap,h1,_⟩,_⟩:=h;rw[h1];rfl
theorem aF.wf{Z:Nat->Prop}{w:World}:∀ {t:Ty} {cs:List Value} {d:t.den},aF Z w t cs d->t.wf d:=by
 intro t
 induction t with
 | int k=>exact fun h=>h.2
 | bool=>exact fun h=>trivial
 | str=>exact fun h=>h.2
 | sl e ih =>
   intro cs xs h
   obtain⟨a,cap,h1,h2,h3,h4⟩:=h
   refine⟨h3,fun x hx=>?_⟩
   obtain⟨i,hi,rfl⟩:=List.getElem_of_mem hx
   obtain⟨ad,e1,e2,e3,es,e4,e5,e6⟩:=h4 i hi
   exact ih e6
 | st t ih=>exact fun h=>ih h
 | pr a b fy fA =>
   intro cs d h
   obtain⟨c1,c2,h1,h2,h3⟩:=h
   exact⟨fy h2,fA h3⟩
 | ptr t ih=>intro cs d h;obtain⟨b,o,h1,h2,es,h3,h4,h5⟩:=h;exact ih h5
 | bZ f t ih=>intro cs d h;obtain⟨di,h1,h2⟩:=h;exact ih h2
 | gs wh e ih =>
   intro cs d h
   obtain⟨⟨a,cap,h1,h2,h3,h4⟩,_⟩:=h
   refine⟨h3,fun x hx=>?_⟩
   obtain⟨i,hi,rfl⟩:=List.getElem_of_mem hx
   obtain⟨ad,e1,e2,e3,es,e4,e5,e6⟩:=h4 i hi
   exact ih e6
theorem aF.flat{Z Z':Nat->Prop}{w w':World}:∀ {t:Ty},t.flat=true->∀ {cs:List Value} {d:t.den},aF Z w t cs d->aF Z' w' t cs d:=by
 intro t
 induction t with
 | int k=>exact fun _ _ _ h=>h
 | bool=>exact fun _ _ _ h=>h
 | str=>exact fun _ _ _ h=>h
 | sl e ih=>intro h;cases h
 | st t ih=>exact fun hf _ _ h=>ih hf h
 | pr a b fy fA =>
   intro hf cs d h
   obtain⟨c1,c2,h1,h2,h3⟩:=h
   have Lg:(a.flat&&b.flat)=true:=hf
   simp only[Bool.and_eq_true] at Lg
   exact⟨c1,c2,h1,fy Lg.1 h2,fA Lg.2 h3⟩
 | ptr t ih=>intro h;cases h
 | bZ f t ih=>intro h;cases h
 | gs wh e ih=>intro h;cases h
theorem aF.cO{Z:Nat->Prop}{w:World}:∀ {t:Ty} {cs:List Value} {d:t.den},aF Z w t cs d->∀ v∈cs,v.oneCell'=true:=by
 intro t
 induction t with
 | int k=>intro cs d h;rw[h.1];simp[Value.oneCell']
 | bool=>intro cs d h;rw[show cs=_ from h];simp[Value.oneCell']
 | str=>intro cs d h;rw[h.1];simp[Value.oneCell']
 | sl e ih=>intro cs d h;obtain⟨a,cap,h1,_⟩:=h;rw[h1];simp[Value.oneCell']
 | st t ih=>exact fun h=>ih h
 | pr a b fy fA =>
   intro cs d h
   obtain⟨c1,c2,h1,h2,h3⟩:=h
   intro v hv
   rw[h1,List.mem_append] at hv
   exact hv.elim (fy h2 v) (fA h3 v)
 | ptr t ih=>intro cs d h;obtain⟨b,o,h1,_⟩:=h;rw[h1];simp[Value.oneCell']
 | bZ f t ih=>intro cs d h;obtain⟨di,h1,_⟩:=h;rw[h1];simp[Value.oneCell']
 | gs wh e ih=>intro cs d h;obtain⟨⟨a,cap,h1,_⟩,_⟩:=h;rw[h1];simp[Value.oneCell']
theorem aF.M1{Z:Nat->Prop}{w:World}(k:IntKind):aF Z w (.int k) [.int k 0] (Ty.fe (.int k)):=⟨rfl,by cases k<;>decide,by cases k<;>decide⟩
def Ty.iX:Ty->List Value
 | .int k=>[.int k 0]
 | .bool=>[.bool false]
 | .str=>[.string ByteArray.empty]
 | .sl _=>[.slice none 0 0]
 | .st t=>t.iX
 | .pr a b=>a.iX++b.iX
 | .ptr _=>[.pointer none]
 | .bZ _ _=>[.nilFunc]
 | .gs _ _=>[.slice none 0 0]
theorem aF.zero{Z:Nat->Prop}{w:World}:∀(t:Ty),t.plain=true->aF Z w t t.iX t.fe:=by
 intro t
 induction t with
 | int k=>exact fun _=>aF.M1 k
 | bool=>exact fun _=>rfl
 | str=>exact fun _=>⟨rfl,by decide⟩
 | sl e ih=>exact fun _=>⟨none,0,rfl,Nat.le_refl _,Nat.zero_le _,fun i hi=>absurd hi (Nat.not_lt_zero _)⟩
 | st t ih=>exact fun h=>ih h
 | pr a b fy fA =>
   intro h
   have h':(a.plain&&b.plain)=true:=h
   rw[Bool.and_eq_true] at h'
   exact⟨_,_,rfl,fy h'.1,fA h'.2⟩
 | ptr t ih=>intro h;cases h
 | bZ f t ih=>intro h;cases h
 | gs wh e ih=>exact fun _=>⟨⟨none,0,rfl,Nat.le_refl _,Nat.zero_le _,fun i hi=>absurd hi (Nat.not_lt_zero _)⟩,fun hp=>absurd hp (Nat.lt_irrefl _),fun _ hp=>absurd hp (Nat.lt_irrefl _)⟩
def Ty.cc:Ty->Ty
 | .gs _ e=>.sl e.cc
 | .sl e=>.sl e.cc
 | .st t=>.st t.cc
 | .pr a b=>.pr a.cc b.cc
 | t=>t
def bu:(t:Ty)->t.den->t.cc.den
 | .gs _ e,d=>d.2.map (bu e)
 | .sl e,d=>d.map (bu e)
 | .st t,d=>bu t d
 | .pr a b,d=>(bu a d.1,bu b d.2)
 | .int _,d=>d
 | .bool,d=>d
 | .str,d=>d
 | .ptr _,d=>d
 | .bZ _ _,d=>d
def gG(e:Ty)(xs:List e.den):List e.cc.den:=xs.map (bu e)
theorem bJ:∀ t:Ty,t.cc.size=t.size
 | .gs _ _=>rfl
 | .st t=>bJ t
 | .pr a b=>by show a.cc.size+b.cc.size=a.size+b.size;rw[bJ a,bJ b]
 | .int _=>rfl
 | .bool=>rfl
 | .str=>rfl
 | .sl _=>rfl
 | .ptr _=>rfl
 | .bZ _ _=>rfl
theorem uY:∀ t:Ty,t.cc.flat=t.flat
 | .gs _ _=>rfl
 | .st t=>uY t
 | .pr a b=>by show (a.cc.flat&&b.cc.flat)=(a.flat&&b.flat);rw[uY a,uY b]
 | .int _=>rfl
 | .bool=>rfl
 | .str=>rfl
 | .sl _=>rfl
 | .ptr _=>rfl
 | .bZ _ _=>rfl
theorem aF.Pb{Z:Nat->Prop}{w:World}{e:Ty}{es:List Value}{l:List e.den}{i:Nat}(hi:i<(l.map (bu e)).length)(h:∀ c7:i<l.length,aF Z w e.cc es (bu e (l[i]'c7))):aF Z w e.cc es ((l.map (bu e))[i]'hi):=by
 rw[List.getElem_map];exact h _
theorem aF.un{Z:Nat->Prop}{w:World}:∀(t:Ty) {cs:List Value} {d:t.den},aF Z w t cs d->aF Z w t.cc cs (bu t d)
 | .gs _ e,_,d,h=>by
   obtain⟨⟨a,cap,h1,h2,h3,h4⟩,_⟩:=h
   refine⟨a,cap,?_,?_,?_,fun i hi=>?_⟩
   ·show _=[Value.slice a (d.2.map (bu e)).length cap];rw[List.length_map];exact h1
   ·show (d.2.map (bu e)).length<=_;rw[List.length_map];exact h2
   ·show (d.2.map (bu e)).length<=_;rw[List.length_map];exact h3
   ·have c7:i<d.2.length:=by have:i<(d.2.map (bu e)).length:=hi;rwa [List.length_map] at this
    obtain⟨ad,e1,e2,e3,es,e4,e5,e6⟩:=h4 i c7
    refine⟨ad,e1,e2,e3,es,by rw[bJ];exact e4,by rw[bJ];exact e5,?_⟩
    exact aF.Pb (l:=d.2) hi (fun _=>aF.un e e6)
 | .sl e,_,d,h=>by
   obtain⟨a,cap,h1,h2,h3,h4⟩:=h
   refine⟨a,cap,?_,?_,?_,fun i hi=>?_⟩
   ·show _=[Value.slice a (List.map (bu e) d).length cap];rw[List.length_map];exact h1
   ·show (List.map (bu e) d).length<=_;rw[List.length_map];exact h2
   ·show (List.map (bu e) d).length<=_;rw[List.length_map];exact h3
   ·have c7:i<List.length d:=by have:i<(List.map (bu e) d).length:=hi;rwa [List.length_map] at this
    obtain⟨ad,e1,e2,e3,es,e4,e5,e6⟩:=h4 i c7
    refine⟨ad,e1,e2,e3,es,by rw[bJ];exact e4,by rw[bJ];exact e5,?_⟩
    exact aF.Pb (l:=d) hi (fun _=>aF.un e e6)
 | .st t,_,_,h=>aF.un t h
 | .pr a b,_,_,h=>by obtain⟨c1,c2,h1,h2,h3⟩:=h;exact⟨c1,c2,h1,aF.un a h2,aF.un b h3⟩
 | .int _,_,_,h=>h
 | .bool,_,_,h=>h
 | .str,_,_,h=>h
 | .ptr _,_,_,h=>h
 | .bZ _ _,_,_,h=>h
def ids:(t:Ty)->t.den->List Nat
 | .gs _ e,d=>match d.2 with|[]=>[]|x::r=>d.1::(x::r).flatMap (ids e)
 | .sl e,d=>d.flatMap (ids e)
 | .st t,d=>ids t d
 | .pr a b,d=>ids a d.1++ids b d.2
 | _,_=>[]
def bV(e:Ty)(xs:List e.den):List Nat:=xs.flatMap (ids e)
theorem RV{wh:Bool}{e:Ty}{b:Nat}{xs:List e.den}:ids (.gs wh e) (b,xs)=if xs.isEmpty then [] else b::bV e xs:=by
 cases xs<;>rfl
theorem ES{Z:Nat->Prop}{w:World}{wh:Bool}{e:Ty}{cs:List Value}{d:Nat×List e.den}(h:aF Z w (.gs wh e) cs d)(hp:0<d.2.length):Z d.1/\∃ o cap,cs=[.slice (some ⟨d.1,o,none⟩) d.2.length cap]:=by
 obtain⟨⟨a,cap,h1,h2,h3,h4⟩,h5,_⟩:=h
 obtain⟨o,n,ig,k1⟩:=h5 hp
 obtain⟨ad,e1,e2,e3,_⟩:=h4 0 hp
 rw[k1] at h1
 injection h1 with h1 _
 injection h1 with q1 q2 q3
 rw[e1] at q1
 injection q1 with q1
 rw[<-q1] at e3
 exact⟨e3,o,cap,by rw[k1,q2,q3]⟩
theorem aF.iw{Z:Nat->Prop}{w:World}:∀(t:Ty) {cs:List Value} {d:t.den},aF Z w t cs d->∀ i∈ids t d,Z i
 | .gs wh e,cs,(b,xs),h,i,hi=>by
   cases xs with
   | nil=>cases hi
   | cons x xr =>
     rcases List.mem_cons.1 hi with rfl|hi
     ·exact (ES h (Nat.succ_pos _)).1
     ·obtain⟨y,hy,Rh⟩:=List.mem_flatMap.1 hi
      obtain⟨j,hj,rfl⟩:=List.getElem_of_mem hy
      obtain⟨⟨a,cap,h1,h2,h3,h4⟩,_⟩:=h
      obtain⟨_,_,_,_,es,_,_,h6⟩:=h4 j hj
      exact aF.iw e h6 i Rh
 | .st t,_,_,h,i,hi=>aF.iw t h i hi
 | .pr a b,_,d,h,i,hi=>by
   obtain⟨c1,c2,h1,h2,h3⟩:=h
   rcases List.mem_append.1 hi with hi|hi
   ·exact aF.iw a h2 i hi
   ·exact aF.iw b h3 i hi
 | .int _,_,_,_,i,hi=>by cases hi
 | .bool,_,_,_,i,hi=>by cases hi
 | .str,_,_,_,i,hi=>by cases hi
 | .sl e,_,d,h,i,hi=>by
   obtain⟨y,hy,Rh⟩:=List.mem_flatMap.1 (show i∈List.flatMap (ids e) d from hi)
   obtain⟨j,hj,rfl⟩:=List.getElem_of_mem hy
   obtain⟨a,cap,h1,h2,h3,h4⟩:=h
   obtain⟨_,_,_,_,es,_,_,h6⟩:=h4 j hj
   exact aF.iw e h6 i Rh
 | .ptr _,_,_,_,i,hi=>by cases hi
 | .bZ _ _,_,_,_,i,hi=>by cases hi
def Ty.kX:Ty->Bool
 | .gs _ e=>e.kX
 | .st t=>t.kX
 | .pr a b=>a.kX&&b.kX
 | .sl _=>false
 | .ptr _=>false
 | .bZ _ _=>false
 | _=>true
def Ty.bU:Ty->Bool
 | .gs _ _=>true
 | .sl e=>e.bU
 | .st t=>t.bU
 | .pr a b=>a.bU||b.bU
 | _=>false
def wv:(t:Ty)->t.cc.den->Prop
 | .gs _ _,d=>d=[]
 | .sl _,d=>d=[]
 | .st t,d=>wv t d
 | .pr a b,d=>wv a d.1/\wv b d.2
 | _,_=>True
def fJ:(t:Ty)->t.cc.den->t.den
 | .gs _ _,_=>(0,[])
 | .sl _,_=>[]
 | .st t,d=>fJ t d
 | .pr a b,d=>(fJ a d.1,fJ b d.2)
 | .int _,d=>d
 | .bool,d=>d
 | .str,d=>d
 | .ptr _,d=>d
 | .bZ _ _,d=>d
theorem aF.fJ{Z:Nat->Prop}{w:World}:∀(t:Ty) {cs:List Value} {d:t.cc.den},aF Z w t.cc cs d->wv t d->aF Z w t cs (SX.fJ t d)
 | .gs wh e,cs,d,h,hn=>by
   have hn:d=[]:=hn
   subst hn
   obtain⟨a,cap,h1,h2,h3,h4⟩:=h
   exact⟨⟨a,cap,h1,Nat.zero_le _,Nat.zero_le _,fun i hi=>absurd hi (Nat.not_lt_zero _)⟩,fun hp=>absurd hp (Nat.lt_irrefl _),fun _ hp=>absurd hp (Nat.lt_irrefl _)⟩
 | .sl e,cs,d,h,hn=>by
   have hn:d=[]:=hn
   subst hn
   obtain⟨a,cap,h1,h2,h3,h4⟩:=h
   exact⟨a,cap,h1,Nat.zero_le _,Nat.zero_le _,fun i hi=>absurd hi (Nat.not_lt_zero _)⟩
 | .st t,_,_,h,hn=>aF.fJ t h hn
 | .pr a b,_,_,h,hn=>by
   obtain⟨c1,c2,h1,h2,h3⟩:=h
   exact⟨c1,c2,h1,aF.fJ a h2 hn.1,aF.fJ b h3 hn.2⟩
 | .int _,_,_,h,_=>h
 | .bool,_,_,h,_=>h
 | .str,_,_,h,_=>h
 | .ptr _,_,_,h,_=>h
 | .bZ _ _,_,_,h,_=>h
theorem aF.o0{Z Z':Nat->Prop}{w w':World}:∀(t:Ty),t.kX=true->∀ {cs:List Value} {d:t.den},aF Z w t cs d->(∀ i∈ids t d,Z' i/\w'.heap[i]? = w.heap[i]?)->aF Z' w' t cs d
 | .gs wh e,hg,cs,(b,xs),h,hi=>by
   have h':=h
   obtain⟨⟨a,cap,h1,h2,h3,h4⟩,h5,h6⟩:=h
   cases xs with
   | nil=>exact⟨⟨a,cap,h1,h2,h3,fun i hi=>absurd hi (Nat.not_lt_zero _)⟩,fun hp=>absurd hp (Nat.lt_irrefl _),fun _ hp=>absurd hp (Nat.lt_irrefl _)⟩
   | cons x xr =>
     obtain⟨hz,hw⟩:=hi b (List.mem_cons_self ..)
     obtain⟨_,o,MQ,eH⟩:=ES h' (Nat.succ_pos _)
     refine⟨⟨a,cap,h1,h2,h3,fun i c7=>?_⟩,h5,fun Lx hp=>?_⟩
     ·obtain⟨ad,e1,e2,e3,es,e4,e5,e6⟩:=h4 i c7
      have hb:ad.block=b:=by
       rw[eH] at h1
       injection h1 with h1 _
       injection h1 with q1 q2 q3
       rw[e1] at q1
       injection q1 with q1
       rw[<-q1]
      refine⟨ad,e1,e2,by rw[hb];exact hz,es,e4,gK (by rw[hb];exact hw) e5,aF.o0 e hg e6 (fun j hj=>hi j (List.mem_cons_of_mem _ (List.mem_flatMap.2 ⟨_,List.getElem_mem c7,hj⟩)))⟩
     ·obtain⟨n,ig,aq,el,k1,k2,k3⟩:=h6 Lx hp
      exact⟨n,ig,aq,el,k1,by rw[hw];exact k2,k3⟩
 | .st t,hg,_,_,h,hi=>aF.o0 t hg h hi
 | .pr a b,hg,_,d,h,hi=>by
   have pS:(a.kX&&b.kX)=true:=hg
   rw[Bool.and_eq_true] at pS
   obtain⟨c1,c2,h1,h2,h3⟩:=h
   exact⟨c1,c2,h1,aF.o0 a pS.1 h2 (fun i hm=>hi i (List.mem_append_left _ hm)),aF.o0 b pS.2 h3 (fun i hm=>hi i (List.mem_append_right _ hm))⟩
 | .int _,_,_,_,h,_=>h
 | .bool,_,_,_,h,_=>h
 | .str,_,_,_,h,_=>h
 | .sl _,hg,_,_,_,_=>by cases hg
 | .ptr _,hg,_,_,_,_=>by cases hg
 | .bZ _ _,hg,_,_,_,_=>by cases hg
def nth{α:Type}(d:α):List α->Nat->α
 | [],_=>d
 | x::_,0=>x
 | _::r,n+1=>nth d r n
def jx{α:Type}:List α->Nat->Option α
 | [],_=>none
 | x::_,0=>some x
 | _::r,n+1=>jx r n
def bD{α:Type}:List α->Nat->α->List α
 | [],_,_=>[]
 | _::r,0,y=>y::r
 | x::r,n+1,y=>x::bD r n y
def rU{α:Type}:Nat->List α->List α
 | 0,_=>[]
 | _+1,[]=>[]
 | n+1,x::r=>x::rU n r
def qc{α:Type}:Nat->List α->List α
 | 0,l=>l
 | _+1,[]=>[]
 | n+1,_::r=>qc n r
def cM{α:Type}:List α->List α->List α
 | [],ys=>ys
 | x::r,ys=>x::cM r ys
def lmap{α β:Type}(f:α->β):List α->List β
 | []=>[]
 | x::r=>f x::lmap f r
def aL{α:Type}:List α->Nat
 | []=>0
 | _::r=>aL r+1
def df{α:Type}(p:α->Bool):List α->Bool
 | []=>true
 | x::r=>p x&&df p r
def jw{α:Type}(p:α->Bool):List α->Bool
 | []=>false
 | x::r=>p x||jw p r
def kQ{α:Type}(x:α):Nat->List α
 | 0=>[]
 | n+1=>x::kQ x n
def omap{α β:Type}(f:α->β):Option α->Option β
 | some x=>some (f x)
 | none=>none
def xx.{u}{α:Type}{β:Type u}(o:Option α)(f:α->Option β):Option β :=
 match o with
 | some x=>f x
 | none=>none
def AO{α:Type}(o p:Option α):Option α :=
 match o with
 | some x=>some x
 | none=>p
theorem dH{α:Type}:∀(l:List α) (n:Nat),jx l n=l[n]?
 | [],_=>rfl
 | _::_,0=>rfl
 | _::r,n+1=>by simp[jx,dH r n]
theorem cB{α:Type}(d:α):∀(l:List α) (n:Nat),nth d l n=(l[n]?).getD d
 | [],_=>rfl
 | _::_,0=>rfl
 | _::r,n+1=>by simp[nth,cB d r n]
theorem eS{α:Type}:∀(l:List α) (n:Nat) (y:α),bD l n y=l.set n y
 | [],_,_=>rfl
 | _::_,0,_=>rfl
 | x::r,n+1,y=>by simp[bD,eS r n y]
theorem j8{α:Type}:∀(n:Nat) (l:List α),rU n l=l.take n
 | 0,_=>rfl
 | _+1,[]=>rfl
 | n+1,x::r=>by simp[rU,j8 n r]
theorem j7{α:Type}:∀(n:Nat) (l:List α),qc n l=l.drop n
 | 0,_=>rfl
 | _+1,[]=>rfl
 | n+1,x::r=>by simp[qc,j7 n r]
theorem bT{α:Type}:∀(l k:List α),cM l k=l++k
 | [],_=>rfl
 | x::r,k=>by simp[cM,bT r k]
theorem bt{α β:Type}(f:α->β):∀(l:List α),lmap f l=l.map f
 | []=>rfl
 | x::r=>by simp[lmap,bt f r]
theorem cy{α:Type}:∀(l:List α),aL l=l.length
 | []=>rfl
 | x::r=>by simp[aL,cy r]
theorem dG{α:Type}(p:α->Bool):∀(l:List α),df p l=l.all p
 | []=>rfl
 | x::r=>by simp[df,dG p r]
theorem tt{α:Type}(p:α->Bool):∀(l:List α),jw p l=l.any p
 | []=>rfl
 | x::r=>by simp[jw,tt p r]
theorem iy{α:Type}(x:α):∀ n,kQ x n=List.replicate n x
 | 0=>rfl
 | n+1=>by simp[kQ,iy x n,List.replicate_succ]
theorem ee{α β:Type}(f:α->β)(o:Option α):omap f o=o.map f:=by cases o<;>rfl
theorem uG.{u}{α:Type}{β:Type u}(o:Option α)(f:α->Option β):xx o f=o.bind f:=by cases o<;>rfl
end Go.SX
/- Symbolic values and states, and when a frame and a world are such. No condition. -/
namespace Go.SX
open Go.RowKit
set_option linter.unusedVariables false
inductive C where
  | val (v : Value)
  | gi
  | ga
  /-- a slice that reads as 'xs', by memory that nobody writes any more -/
  | rd (fr : Bool) (e : Ty) (xs : List e.den)
  /-- row 'n', whole -/
  | own (n : Nat)
  /-- the first 'h' elements of row 'n' -/
  | pre (n h : Nat)
  /-- a slice that reads as 'xs', by the memory of row 'n' -/
  | eE (n : Nat) (e : Ty) (xs : List e.den)
  /-- the address of cell 'off' of box 'n' -/
  | box (n off : Nat)
  /-- a slice of addresses: its cells are those of box 'n', 'len' of them -/
  | iY (n len : Nat)
  /-- the address of cell 'off' of a datum 'd' in memory that nobody writes any more -/
  | at_ (fr : Bool) (t : Ty) (d : t.den) (off : Nat)
  /-- the address of cell 'off' of element 'i' of row 'n' -/
  | dL (n i off : Nat)
  /-- a function value that has captured boxes -/
  | fn (f : FuncId) (di : List Nat)
  /-- a function value whose captured addresses lead to memory that nobody writes any more -/
  | bZ (fr : Bool) (f : Nat) (t : Ty) (d : t.den)
  /-- as 'rd'; the slice lies in block 'b' ('wh': it is all of it) -/
  | rg (fr wh : Bool) (e : Ty) (b : Nat) (xs : List e.den)
  | any
inductive S where
  | c (x : C)
  | agg (cs : List C)
  | m_ (vs : List (Bool × List C))
  | ew
  | any
  /-- an array of flat elements -/
  | arr (e : Ty) (xs : List e.den)
inductive ax where
 | dead
 | bx (cs:List C)
 | row (fr:Bool) (e:Ty) (xs:List e.den)
structure St where
 ts:List S
 hp:List ax
def St.au(st:St)(n:Nat):ax:=nth .dead st.hp n
def Xo:Value->Prop
 | .int k n=>k.min<=n/\n<=k.max
 | .string s=>s.size<=maxLen
 | .slice a n c=>a=none/\n=0/\c=0
 | .agg _=>False
 | .tuple _=>False
 | _=>True
structure Vl where
 aE:Nat->Nat
 has:Nat->Prop
 Z0:Nat->Prop
 Z1:Nat->Prop
def Vl.Z(V:Vl)(fr:Bool)(b:Nat):Prop:=V.Z1 b\/(fr=false/\V.Z0 b)
theorem Vl.cN{V:Vl}{b:Nat}{fr:Bool}(h:V.Z fr b):V.Z false b:=by
 rcases h with h|⟨_,h⟩
 ·exact .inl h
 ·exact .inr ⟨rfl,h⟩
def cR(V:Vl)(w:World)(n:Nat)(e:Ty)(h:Nat)(v:Value):Prop :=
 (¬V.has n/\v = .slice none 0 0/\h=0) ∨
 (V.has n/\∃ cap aq el,v = .slice (some ⟨V.aE n,0,none⟩) h cap/\w.heap[V.aE n]? = some (.cells aq el (0,0))/\aq.size=cap*e.size/\h<=cap)
def C.ok(V:Vl)(hp:Nat->ax)(w:World):C->Value->Prop
 | .val u,v=>v=u/\Xo u
 | .gi,v=>v = .bool true
 | .ga,v=>v = .bool false
 | .rd fr e xs,v=>aF (V.Z fr) w (.sl e) [v] xs
 | .own n,v=>∃ fr e xs,hp n = .row fr e xs/\cR V w n e xs.length v
 | .pre n h,v=>∃ fr e xs,hp n = .row fr e xs/\h<=xs.length/\cR V w n e h v
 | .eE n e xs,v=>(∃ fr e' ys,hp n = .row fr e' ys)/\aF (fun b=>V.Z false b\/(V.has n/\b=V.aE n)) w (.sl e) [v] xs
 | .box n off,v=>v = .pointer (some ⟨V.aE n,off,none⟩)/\V.has n/\∃ cs,hp n = .bx cs
 | .iY n len,v=>∃ cap,(v = .slice (some ⟨V.aE n,0,none⟩) len cap/\len<=1000)/\V.has n/\∃ cs,hp n = .bx cs
 | .at_ fr t d off,v=>∃ b o,v = .pointer (some ⟨b,o+off,none⟩)/\V.Z fr b/\∃ es,es.length=t.size/\lT w b o es/\aF (V.Z fr) w t es d
 | .dL n i off,v=>V.has n/\∃ fr e xs,hp n = .row fr e xs/\i<xs.length/\v = .pointer (some ⟨V.aE n,i*e.size+off,none⟩)
 | .fn f di,v=>v = .func (.func f) #[] (di.map (fun n=>Value.pointer (some ⟨V.aE n,0,none⟩))).toArray/\∀ n∈di,V.has n/\∃ cs,hp n = .bx cs
 | .bZ fr f t d,v=>aF (V.Z fr) w (.bZ f t) [v] d
 | .rg fr wh e b xs,v=>aF (V.Z fr) w (.gs wh e) [v] (b,xs)
 | .any,v=>v.oneCell'=true
def bz(V:Vl)(hp:Nat->ax)(w:World)(cs:List C)(vs:List Value):Prop:=cs.length=vs.length/\∀(j:Nat) c v,cs[j]? = some c->vs[j]? = some v->C.ok V hp w c v
def eZ(V:Vl)(hp:Nat->ax)(w:World)(x:Bool×List C)(v:Value):Prop :=
 if x.1 then ∃ vs,v = .agg vs/\bz V hp w x.2 vs.toList else bz V hp w x.2 [v]
def S.ok(V:Vl)(hp:Nat->ax)(w:World):S->Value->Prop
 | .c x,v=>C.ok V hp w x v
 | .agg cs,v=>∃ vs,v = .agg vs/\bz V hp w cs vs.toList
 | .m_ xs,v=>∃ vs,v = .tuple vs/\xs.length=vs.size/\∀(j:Nat) x v,xs[j]? = some x->vs[j]? = some v->eZ V hp w x v
 | .ew,v=>v=undef
 | .any,_=>True
 | .arr e xs,v=>e.flat=true/\∃ vs,v = .agg vs/\vs.size=xs.length*e.size/\∀ i (h:i<xs.length),∃ es,es.length=e.size/\(∀(j:Nat) u,es[j]? = some u->vs[i*e.size+j]? = some u)/\aF (fun _=>False) w e es xs[i]
def ax.ok(V:Vl)(hp:Nat->ax)(w:World)(n:Nat):ax->Prop
 | .dead=>True
 | .bx cs=>∃ aq el,w.heap[V.aE n]? = some (.cells aq el (0,0))/\bz V hp w cs aq.toList
 | .row fr e xs=>(¬V.has n/\xs=[])\/(V.has n/\∃ aq el,w.heap[V.aE n]? = some (.cells aq el (0,0))/\xs.length<=cX ∧
    ∀ i (h:i<xs.length),∃ es,es.length=e.size/\(∀ j u,es[j]? = some u->aq[i*e.size+j]? = some u)/\aF (V.Z fr) w e es xs[i])
def ax.live:ax->Bool
 | .dead=>false
 | _=>true
structure LM where
  fn : Nat → Prop
  nm : Nat → Nat → Prop
  /-- old memory that the call may still see -/
  AQ : Nat → Prop
  sub : ∀ b, fn b → AQ b
  /-- the block of a box that is lent, under name 0 -/
  lb : Nat → Prop
instance:CoeFun LM (fun _=>Nat->Prop):=⟨LM.fn⟩
def ax.lK:ax->Bool
 | .bx _=>true
 | _=>false
def ax.fH:ax->Prop
 | .row false e _=>(e.flat||e.bU)=true
 | _=>False
def ax.fL:ax->List Nat
 | .row false e xs=>if e.bU then bV e xs else []
 | _=>[]
structure Kept (base : Nat) (M : LM) (w0 w : World) : Prop where
  os : w.os = w0.os
  tape : w.tape = w0.tape
  output : w.output = w0.output
  size : base ≤ w.heap.size
  block : ∀ b, b < base → ¬ M b → w.heap[b]? = w0.heap[b]?
  /-- a block of M keeps its size -/
  shape : ∀ b aq el, b < base → M b → w0.heap[b]? = some (.cells aq el (0, 0)) → ∃ bn eg, w.heap[b]? = some (.cells bn eg (0, 0)) ∧ bn.size = aq.size
structure Mem (base:Nat) (M:LM) (w0:World) (V:Vl) (hp:Nat->ax) (w:World):Prop where
 ck:∀ n,(hp n).ok V hp w n
 box:∀ n cs,hp n = .bx cs->V.has n
 own:∀ n,(hp n).live=true->V.has n->(base<=V.aE n\/M (V.aE n))/\V.aE n<w.heap.size/\¬V.Z false (V.aE n)
 eK:∀ n e xs,hp n = .row true e xs->V.has n->base<=V.aE n
 fw:∀ n m,(hp n).live=true->(hp m).live=true->V.has n->V.has m->V.aE n=V.aE m->n=m
 z0:∀ b,V.Z0 b->b<base/\M.AQ b
 z1:∀ b,V.Z1 b->base<=b/\b<w.heap.size
 kept:Kept base M w0 w
 lL:∀ n,(hp n).fH->V.has n->M.nm (V.aE n) n
 lr:∀ b,M.lb b->(hp 0).lK=true/\V.aE 0=b
 fL:∀ n,V.has n->∀ i∈(hp n).fL,n=0->M i
structure Rel (base:Nat) (M:LM) (w0:World) (V:Vl) (st:St) (ts:Array Value) (w:World):Prop where
 len:st.ts.length=ts.size
 fI:∀(i:Nat) s v,st.ts[i]? = some s->ts[i]? = some v->S.ok V st.au w s v
 mem:Mem base M w0 V st.au w
end Go.SX
/- The symbolic executor: what an operation, a region, a code comes to, as a proposition over numbers and lists. Definitions alone. No condition. -/
namespace Go.SX
open Go.RowKit
set_option linter.unusedVariables false
inductive TK where
  | int (k : IntKind)
  | bool
  | str
  | sl (e : TypeId) (Xt Vh : Nat) (c6 : Ty)
  | st (fs : List (Nat × Nat × Bool))
  /-- an array of 'len' elements of 'es' cells each: 'n' flat ones in all -/
  | arr (len : Nat) (te : TypeId) (es n : Nat) (c6 : Ty)
  | sc
  /-- a slice of addresses -/
  | IC (e : TypeId)
structure TI where
  k : TK
  size : Nat
  bytes : Nat
  zero : List Value
  ty : Option Ty
  /-- a struct of ints and bools, that '==' compares: is the field a bool? -/
  eq : Option (List Bool)
abbrev bN:=TypeId->Option TI
@[reducible] def aY:List Ty->Type
 | []=>Unit
 | [t]=>t.den
 | t::u::r=>t.den×aY (u::r)
structure PC where
  ts : List Ty
  rs : List Ty
  pre : aY ts → Prop
  F : aY ts → aY rs
  /-- is the result's memory written no more? -/
  fz : Bool := false
def ju(k:IntKind)(a n:Int):Int:=k.wrap (a*2^min n.toNat k.bits)
def ix(k:IntKind)(a n:Int):Int:=a.fdiv (2^min n.toNat k.bits)
def pJ(k:IntKind)(a b:Int):Int:=k.wrap (BitVec.ofInt k.bits a &&& BitVec.ofInt k.bits b).toNat
def T8(k:IntKind)(a b:Int):Int:=k.wrap (BitVec.ofInt k.bits a ||| BitVec.ofInt k.bits b).toNat
def BL(k:IntKind)(a b:Int):Int:=k.wrap (BitVec.ofInt k.bits a ^^^ BitVec.ofInt k.bits b).toNat
def BI(a b:Int):Int:=if b<a then b else a
def imax(a b:Int):Int:=if b>a then b else a
def cell(v:Value):C :=
 match v with
 | .bool true=>.gi
 | .bool false=>.ga
 | .int k n=>if k.min<=n/\n<=k.max then .val (.int k n) else .any
 | .string s=>if s.size<=maxLen then .val (.string s) else .any
 | .slice none 0 0=>.val (.slice none 0 0)
 | .pointer none=>.val (.pointer none)
 | _=>.any
def S.ofConst(v:Value):S :=
 match v with
 | .agg cs=>if df Value.oneCell' cs.toList then .agg (lmap cell cs.toList) else .any
 | .tuple _=>.any
 | v=>.c (cell v)
def St.eval(st:St):Operand->S
 | .tmp t=>nth .any st.ts t
 | .const v=>.ofConst v
 | .global _=>.any
 | .func f=>.c (.fn f [])
structure QR where
 ob:Option Prop:=none
 hy:Option Prop:=none
 res:S
 new:List ax:=[]
def S.cells:S->Option (List C)
 | .c x=>some [x]
 | .agg cs=>some cs
 | _=>none
def eW{a b:Ty}(h:a=b)(xs:List a.den):List b.den:=h▸xs
def expand(fr:Bool):(t:Ty)->t.den->List C
 | .int k,n=>[.val (.int k n)]
 | .bool,b=>[.val (.bool b)]
 | .str,s=>[.val (.string s)]
 | .sl e,xs=>[.rd fr e xs]
 | .st t,d=>expand fr t d
 | .pr a b,d=>cM (expand fr a d.1) (expand fr b d.2)
 | .ptr t,d=>[.at_ fr t d 0]
 | .bZ f t,d=>[.bZ fr f t d]
 | .gs wh e,d=>[.rg fr wh e d.1 d.2]
def kq{α:Type}(f:C->Option α):List C->Option (α×List C)
 | c::r=>match f c with|some x=>some (x,r)|none=>none
 | []=>none
def D7(k:IntKind):C->Option Int
 | .val (.int k' n)=>if k'=k then some n else none
 | _=>none
def rdBool:C->Option Bool
 | .val (.bool b)=>some b
 | .gi=>some true
 | .ga=>some false
 | _=>none
def rdStr:C->Option ByteArray
 | .val (.string s)=>some s
 | _=>none
def kS(e' e:Ty)(xs:List e'.den):Option (List e.den) :=
 if h:e'=e then some (eW h xs) else if h:e'.cc=e then some (eW h (gG e' xs)) else none
def oc(lk:Nat->ax)(e:Ty):C->Option (List e.den)
 | .rd _ e' xs=>kS e' e xs
 | .eE _ e' xs=>if h:e'=e then some (eW h xs) else none
 | .own n =>
   match lk n with
   | .row _ e' xs=>kS e' e xs
   | _=>none
 | .pre n m =>
   match lk n with
   | .row _ e' xs=>kS e' e (xs.take m)
   | _=>none
 | .rg _ _ e' _ xs=>kS e' e xs
 | .val (.slice none 0 0)=>some []
 | _=>none
def Mp(wh:Bool)(e:Ty):C->Option (Nat×List e.den)
 | .rg _ sg e' b xs=>if h:e'=e then (if wh&&!sg then none else some (b,eW h xs)) else none
 | .val (.slice none 0 0)=>some (0,[])
 | _=>none
def Oj{a b:Ty}(h:a=b)(d:a.den):b.den:=h▸d
def whole{α:Type}:Option (α×List C)->Option α
 | some (d,[])=>some d
 | _=>none
def Kb(lk:Nat->ax)(t:Ty)(rc:List C->Option (t.den×List C)):C->Option t.den
 | .at_ _ t' d 0=>if h:t'=t then some (Oj h d) else none
 | .box n 0=>match lk n with | .bx cs=>whole (rc cs)|_=>none
 | _=>none
def Ka(f:Nat)(t:Ty)(rc:List C->Option (t.den×List C)):C->Option t.den
 | .bZ _ f' t' d=>if f'=f then (if h:t'=t then some (Oj h d) else none) else none
 | .fn f' ns=>if f'=f then whole (rc (lmap (fun n=>.box n 0) ns)) else none
 | _=>none
def gA(lk:Nat->ax):(t:Ty)->List C->Option (t.den×List C)
 | .int k,cs=>kq (D7 k) cs
 | .bool,cs=>kq rdBool cs
 | .str,cs=>kq rdStr cs
 | .sl e,cs=>kq (oc lk e) cs
 | .st t,cs=>gA lk t cs
 | .pr a b,cs =>
   match gA lk a cs with
   | some (x,r) =>
     match gA lk b r with
     | some (y,r')=>some ((x,y),r')
     | none=>none
   | none=>none
 | .ptr t,cs=>kq (Kb lk t (gA lk t)) cs
 | .bZ f t,cs=>kq (Ka f t (gA lk t)) cs
 | .gs wh e,cs=>kq (Mp wh e) cs
def readAll(lk:Nat->ax)(t:Ty)(cs:List C):Option t.den :=
 match gA lk t cs with
 | some (d,[])=>some d
 | _=>none
def jt:Ty->Bool
 | .st _=>true
 | _=>false
def lu(lk:Nat->ax)(t:Ty):S->Option t.den
 | .c x=>if jt t then none else readAll lk t [x]
 | .agg cs=>if jt t then readAll lk t cs else none
 | _=>none
def dP(lk:Nat->ax):(ts:List Ty)->List S->Option (aY ts)
 | [],[]=>some ()
 | [t],[s]=>lu lk t s
 | t::u::r,s::ss =>
   match lu lk t s with
   | some x =>
     match dP lk (u::r) ss with
     | some y=>some (x,y)
     | none=>none
   | none=>none
 | _,_=>none
def fresh:(t:Ty)->t.den->Nat->List C×List ax
 | .int k,n,_=>([.val (.int k n)],[])
 | .bool,b,_=>([.val (.bool b)],[])
 | .str,s,_=>([.val (.string s)],[])
 | .sl e,xs,nx=>([.own nx],[.row true e xs])
 | .st t,d,nx=>fresh t d nx
 | .pr a b,d,nx =>
   let x:=fresh a d.1 nx
   let y:=fresh b d.2 (nx+aL x.2)
   (cM x.1 y.1,cM x.2 y.2)
 | .ptr _,_,_=>([.any],[])
 | .bZ _ _,_,_=>([.any],[])
 | .gs _ _,_,_=>([.any],[])
def ey(t:Ty)(d:t.den)(nx:Nat):(Bool×List C)×List ax :=
 let x:=fresh t d nx
 ((jt t,x.1),x.2)
def bG:(ts:List Ty)->aY ts->Nat->List (Bool×List C)×List ax
 | [],_,_=>([],[])
 | [t],d,nx=>let x:=ey t d nx;([x.1],x.2)
 | t::u::r,d,nx =>
   let x:=ey t d.1 nx
   let y:=bG (u::r) d.2 (nx+aL x.2)
   (x.1::y.1,cM x.2 y.2)
def kR(x:Bool×List C):S :=
 if x.1 then .agg x.2 else match x.2 with|[c]=>.c c|_=>.any
def bR(ts:List Ty)(d:aY ts)(nx:Nat):S×List ax :=
 match bG ts d nx with
 | ([x],es)=>(kR x,es)
 | (xs,es)=>(.m_ xs,es)
def CN:(t:Ty)->t.den->List C
 | .int k,n=>[.val (.int k n)]
 | .bool,b=>[.val (.bool b)]
 | .str,s=>[.val (.string s)]
 | .sl e,xs=>[.rd true e xs]
 | .st t,d=>CN t d
 | .pr a b,d=>cM (CN a d.1) (CN b d.2)
 | .ptr _,_=>[.any]
 | .bZ _ _,_=>[.any]
 | .gs _ _,_=>[.any]
def M_:(ts:List Ty)->aY ts->S
 | [t],d=>kR (jt t,CN t d)
 | _,_=>.any
def xe(fz:Bool)(ts:List Ty)(d:aY ts)(nx:Nat):S×List ax :=
 match fz with
 | true=>(M_ ts d,[])
 | false=>bR ts d nx
def gB:(ts:List Ty)->aY ts->Prop
 | [],_=>True
 | [t],d=>t.wf d
 | t::u::r,d=>t.wf d.1/\gB (u::r) d.2
def WW:List Ty->Bool
 | []=>false
 | [.bool]=>false
 | _=>true
def pI(ts:List Ty)(d:aY ts):Option Prop:=if WW ts then some (gB ts d) else none
def D5(Γ:FuncId->Option PC)(lk:Nat->ax)(nx:Nat)(f:FuncId)(args:List S):Option QR :=
 match Γ f with
 | some c =>
   match dP lk c.ts args with
   | some d=>let r:=xe c.fz c.rs (c.F d) nx;some { ob:=some (c.pre d),hy:=pI c.rs (c.F d),res:=r.1,new:=r.2 }
   | none=>none
 | none=>none
def Np(op:BinOp)(k:IntKind)(a b:Int):Option (Option Prop×C) :=
 match op with
 | .add=>some (none,.val (.int k (k.wrap (a+b))))
 | .sub=>some (none,.val (.int k (k.wrap (a-b))))
 | .mul=>some (none,.val (.int k (k.wrap (a*b))))
 | .quo=>some (some (b≠0),.val (.int k (k.wrap (a.tdiv b))))
 | .rem=>some (some (b≠0),.val (.int k (a.tmod b)))
 | .and=>some (none,.val (.int k (pJ k a b)))
 | .or=>some (none,.val (.int k (T8 k a b)))
 | .xor=>some (none,.val (.int k (BL k a b)))
 | .eql=>some (none,.val (.bool (decide (a=b))))
 | .neq=>some (none,.val (.bool (!decide (a=b))))
 | .lss=>some (none,.val (.bool (decide (a<b))))
 | .leq=>some (none,.val (.bool (decide (a<=b))))
 | .gtr=>some (none,.val (.bool (decide (b<a))))
 | .geq=>some (none,.val (.bool (decide (b<=a))))
 | _=>none
def oZ:C->Option Bool
 | .val (.bool b)=>some b
 | .gi=>some true
 | .ga=>some false
 | _=>none
def NT(op:BinOp)(x y:C):Option QR :=
 match op,x,y with
 | .shl,.val (.int k a),.val (.int _ n)=>some { ob:=some (0<=n),res:=.c (.val (.int k (ju k a n))) }
 | .shr,.val (.int k a),.val (.int _ n)=>some { ob:=some (0<=n),res:=.c (.val (.int k (ix k a n))) }
 | op,.val (.int k a),.val (.int k' b) =>
   if k'=k then
    match Np op k a b with
    | some (p,c)=>some { ob:=p,res:=.c c }
    | none=>none
   else none
 | _,_,_=>none
def J8(T:bN)(t:TypeId)(op:BinOp)(x y:C):Option QR :=
 match NT op x y with
 | some r=>some r
 | none =>
   match T t,oZ x,oZ y,op with
   | some { k:=.bool,.. },some a,some b,.eql=>some { res:=.c (.val (.bool (a == b))) }
   | some { k:=.bool,.. },some a,some b,.neq=>some { res:=.c (.val (.bool (!(a == b)))) }
   | _,_,_,_ =>
     match T t,rdStr x,rdStr y,op with
     | some { k:=.str,.. },some a,some b,.eql=>some { res:=.c (.val (.bool (decide (a=b)))) }
     | some { k:=.str,.. },some a,some b,.neq=>some { res:=.c (.val (.bool (!decide (a=b)))) }
     | _,_,_,_=>none
def ub:List Bool->List C->List C->Option Bool
 | [],[],[]=>some true
 | false::ks,.val (.int k a)::xs,.val (.int k' b)::ys=>if k'=k then omap (fun r=>decide (a=b)&&r) (ub ks xs ys) else none
 | true::ks,x::xs,y::ys =>
   match oZ x,oZ y with
   | some a,some b=>omap (fun r=>(a == b)&&r) (ub ks xs ys)
   | _,_=>none
 | _,_,_=>none
def J7(T:bN)(t:TypeId)(op:BinOp)(xs ys:List C):Option QR :=
 match xx (T t) (fun i=>i.eq) with
 | some ks =>
   match ub ks xs ys,op with
   | some b,.eql=>some { res:=.c (.val (.bool b)) }
   | some b,.neq=>some { res:=.c (.val (.bool (!b))) }
   | _,_=>none
 | none=>none
def Sk(op:UnOp)(x:C):Option QR :=
 match op,x with
 | .not,.val (.bool b)=>some { res:=.c (.val (.bool !b)) }
 | .not,.gi=>some { res:=.c .ga }
 | .not,.ga=>some { res:=.c .gi }
 | .neg,.val (.int k n)=>some { res:=.c (.val (.int k (k.wrap (0-n)))) }
 | _,_=>none
def D6(c a b:S):Option S :=
 match c,a,b with
 | .c .gi,a,_=>some a
 | .c .ga,_,b=>some b
 | .c (.val (.bool p)),.c (.val (.int k x)),.c (.val (.int k' y))=>if k'=k then some (.c (.val (.int k (if p then x else y)))) else none
 | .c (.val (.bool p)),.c x,.c y =>
   match oZ x,oZ y with
   | some a,some b=>some (.c (.val (.bool (if p then a else b))))
   | _,_=>none
 | _,_,_=>none
def NA(lk:Nat->ax):C->Option Int
 | .rd _ _ xs=>some (xs.length:Int)
 | .eE _ _ xs=>some (xs.length:Int)
 | .own n=>match lk n with | .row _ _ xs=>some (xs.length:Int)|_=>none
 | .pre _ h=>some (h:Int)
 | .rg _ _ _ _ xs=>some (xs.length:Int)
 | .val (.slice none 0 0)=>some 0
 | _=>none
def JP(T:bN)(lk:Nat->ax)(t:TypeId)(x:C):Option Int :=
 match T t,x with
 | some { k:=.str,.. },.val (.string s)=>some (s.size:Int)
 | some { k:=.sl _ _ _ _,.. },x=>NA lk x
 | some { k:=.IC _,.. },.iY _ l=>some (l:Int)
 | _,_=>none
def D4(T:bN)(t:TypeId)(cs:List C):Option S :=
 match T t with
 | some { k:=.st _,size:=n,.. }=>if aL cs=n then some (.agg cs) else none
 | some { k:=.arr _ _ _ _ _,.. }=>none
 | some _=>match cs with|[x]=>some (.c x)|_=>none
 | none=>none
def uR(T:bN)(t:TypeId):Option Nat:=omap (·.size) (T t)
def partOf(cs:List C)(off n:Nat):Option (List C) :=
 let r:=rU n (qc off cs)
 if aL r=n then some r else none
def tV(lk:Nat->ax)(n:Nat):C->Option (List C)
 | .at_ fr ty d off=>partOf (expand fr ty d) off n
 | .box m off=>match lk m with | .bx cs=>partOf cs off n|_=>none
 | .dL m i off=>match lk m with | .row fr e xs=>partOf (expand fr e (xs.getD i e.fe)) off n|_=>none
 | _=>none
def A2(T:bN)(lk:Nat->ax)(t:TypeId)(p:C):Option QR :=
 match uR T t with
 | none=>none
 | some n =>
   match tV lk n p with
   | some cs=>omap (fun s=>{ res:=s }) (D4 T t cs)
   | none=>none
def qm(T:bN)(t:TypeId)(f:Nat):Option (Nat×Nat×Bool) :=
 match T t with
 | some { k:=.st fs,.. }=>jx fs f
 | _=>none
def m4(T:bN)(t:TypeId)(p:C)(f:Nat):Option QR :=
 match qm T t f with
 | some (o,_,_) =>
   match p with
   | .at_ fr ty d off=>some { res:=.c (.at_ fr ty d (off+o)) }
   | .box m off=>some { res:=.c (.box m (off+o)) }
   | .dL m i off=>some { res:=.c (.dL m i (off+o)) }
   | _=>none
 | none=>none
def i_(T:bN)(t:TypeId):Option Ty :=
 match T t with
 | some { k:=.sl _ _ _ e,.. }=>some e
 | _=>none
def BX(T:bN)(lk:Nat->ax)(t:TypeId)(x:C)(i:C):Option QR :=
 match i_ T t,x,i with
 | some e',.rd fr e xs,.val (.int _ n)=>if e.cc=e' then some { ob:=some (0<=n/\n<(xs.length:Int)),res:=.c (.at_ fr e (xs.getD n.toNat e.fe) 0) } else none
 | some e',.rg fr _ e _ xs,.val (.int _ n)=>if e.cc=e' then some { ob:=some (0<=n/\n<(xs.length:Int)),res:=.c (.at_ fr e (xs.getD n.toNat e.fe) 0) } else none
 | some e',.own m,.val (.int _ n) =>
   match lk m with
   | .row _ e xs=>if e.cc=e' then some { ob:=some (0<=n/\n<(xs.length:Int)),res:=.c (.dL m n.toNat 0) } else none
   | _=>none
 | some e',.pre m h,.val (.int _ n) =>
   match lk m with
   | .row _ e _=>if e.cc=e' then some { ob:=some (0<=n/\n<(h:Int)),res:=.c (.dL m n.toNat 0) } else none
   | _=>none
 | _,_,_=>none
def BV(T:bN)(lk:Nat->ax)(t:TypeId)(m i0:Nat)(k:Int):Option QR :=
 match T t with
 | some { k:=.arr len te es n c6,.. } =>
   match lk m with
   | .row _ e xs=>if e=c6 then some { ob:=some (0<=k/\k<(len:Int)/\i0+(k.toNat+1)*(es/c6.size)<=xs.length),res:=.c (.dL m (i0+k.toNat*(es/c6.size)) 0) } else none
   | _=>none
 | _=>none
def uN(T:bN)(lk:Nat->ax)(t:TypeId)(x:C)(i:C):Option QR :=
 match x,i with
 | .dL m i0 0,.val (.int _ k)=>BV T lk t m i0 k
 | x,i=>BX T lk t x i
def mv(Oo:Int):Option S->Option Int
 | none=>some Oo
 | some (.c (.val (.int _ n)))=>some n
 | _=>none
def F_(T:bN)(lk:Nat->ax)(t:TypeId)(x:C)(lo hi:Option S):Option QR :=
 match i_ T t,x with
 | some e',.rd fr e xs =>
   match mv 0 lo,mv xs.length hi with
   | some l,some h=>if e.cc=e' then some { ob:=some (0<=l/\l<=h/\h<=(xs.length:Int)),res:=.c (.rd fr e ((xs.take h.toNat).drop l.toNat)) } else none
   | _,_=>none
 | some e',.rg fr _ e _ xs =>
   match mv 0 lo,mv xs.length hi with
   | some l,some h=>if e.cc=e' then some { ob:=some (0<=l/\l<=h/\h<=(xs.length:Int)),res:=.c (.rd fr e ((xs.take h.toNat).drop l.toNat)) } else none
   | _,_=>none
 | some e',.own m =>
   match lk m with
   | .row _ e xs =>
     match lo,mv xs.length hi with
     | none,some h=>if e.cc=e' then some { ob:=some (0<=h/\h<=(xs.length:Int)),res:=.c (.pre m h.toNat) } else none
     | some l,some h =>
       match mv 0 (some l) with
       | some l=>if e.cc=e' then some { ob:=some (0<=l/\l<=h/\h<=(xs.length:Int)),res:=.c (.eE m e ((xs.take h.toNat).drop l.toNat)) } else none
       | none=>none
     | _,_=>none
   | _=>none
 | some e',.pre m k =>
   match lk m with
   | .row _ e xs =>
     match lo,mv k hi with
     | none,some h=>if e.cc=e' then some { ob:=some (0<=h/\h<=(k:Int)),res:=.c (.pre m h.toNat) } else none
     | _,_=>none
   | _=>none
 | _,_=>none
def uk(fs:List (Nat×Nat×Bool))(cs:List C):List (Nat×S)->Option (List C)
 | []=>some cs
 | (i,s)::r =>
   match jx fs i,s.cells with
   | some (o,n,_),some xs=>if aL xs=n/\o+n<=aL cs then uk fs (cM (rU o cs) (cM xs (qc (o+n) cs))) r else none
   | _,_=>none
def iV(lk:Nat->ax)(e:Ty):Nat->List (Nat×S)->Option (List e.den)
 | _,[]=>some []
 | k,p::r =>
   if p.1=k then
    match lu lk e p.2,iV lk e (k+1) r with
    | some x,some xs=>some (x::xs)
    | _,_=>none
   else none
def C.dI:C->Bool
 | .own _=>false
 | .pre _ _=>false
 | .eE _ _ _=>false
 | .box _ _=>false
 | .iY _ _=>false
 | .dL _ _ _=>false
 | .fn _ ns=>(match ns with|[]=>true|_=>false)
 | _=>true
def S.dI:S->Bool
 | .c x=>x.dI
 | .agg cs=>df C.dI cs
 | _=>true
def C.ek:C->Bool
 | .rd fr _ _=>fr
 | .eE _ _ _=>false
 | .at_ fr _ _ _=>fr
 | .bZ fr _ _ _=>fr
 | .rg fr _ _ _ _=>fr
 | _=>true
def S.ek:S->Bool
 | .c x=>x.ek
 | .agg cs=>df C.ek cs
 | _=>true
def BS(len es n:Nat)(c6:Ty)(parts:List (Nat×S)):Option QR :=
 match parts with
 | []=>some { res:=.arr c6 (List.replicate n c6.fe) }
 | parts=>if df (fun p=>p.2.dI) parts&&decide (aL parts=len)&&decide (es=c6.size) then omap (fun xs=>{ res:=.arr c6 xs }) (iV (fun _=>.dead) c6 0 parts) else none
def F8(T:bN)(t:TypeId)(parts:List (Nat×S)):Option QR :=
 match T t with
 | some { k:=.st fs,zero:=z,.. }=>omap (fun cs=>{ res:=.agg cs }) (uk fs (lmap cell z) parts)
 | some { k:=.arr len te es n c6,.. }=>BS len es n c6 parts
 | _=>none
def Mk(T:bN)(nx:Nat)(t:TypeId):Option QR :=
 match T t with
 | some ti =>
   match ti.k with
   | .arr len te es n c6=>some { res:=.c (.dL nx 0 0),new:=[.row true c6 (List.replicate n c6.fe)] }
   | _=>some { res:=.c (.box nx 0),new:=[.bx (lmap cell ti.zero)] }
 | none=>none
def Ty.xp:Ty->Ty
 | .sl e=>if e.flat then .gs true e else .sl e
 | .st t=>.st t.xp
 | .pr a b=>.pr a.xp b.xp
 | t=>t
def C.OY:C->Bool
 | .rg _ wh _ _ _=>wh
 | _=>false
def S.OY:S->Bool
 | .c x=>x.OY
 | .agg cs=>jw C.OY cs
 | _=>false
def AI(e:Ty)(parts:List (Nat×S)):Ty:=if jt e&&jw (fun p=>p.2.OY) parts&&decide (e.xp.cc=e) then e.xp else e
def pM(lk:Nat->ax)(nx:Nat)(e:Ty)(n:Nat)(parts:List (Nat×S)):Option QR :=
 if df (fun p=>p.2.dI) parts&&decide (aL parts=n)&&decide (n*e.size<=1000)&&(!e.bU||df (fun p=>p.2.ek) parts) then
  omap (fun xs=>{ res:=.c (.own nx),new:=[.row (e.flat||df (fun p=>p.2.ek) parts) e xs] }) (iV lk e 0 parts)
 else none
def xA(T:bN)(nx:Nat)(t:TypeId)(n:Nat)(parts:List (Nat×S)):Option QR :=
 match T t,parts with
 | some { k:=.IC _,.. },[(0,.c (.box a o)),(1,.c (.box b p))]=>if n=2 then some { res:=.c (.iY nx 2),new:=[.bx [.box a o,.box b p]] } else none
 | _,_=>none
def jq(T:bN)(lk:Nat->ax)(nx:Nat)(t:TypeId)(n:Nat)(parts:List (Nat×S)):Option QR :=
 match i_ T t with
 | some e=>pM lk nx (AI e parts) n parts
 | none=>xA T nx t n parts
def qf(T:bN)(nx:Nat)(t:TypeId)(l c:C):Option QR :=
 match T t,l,c with
 | some { k:=.sl _ _ b e,.. },.val (.int .i64 n),.val (.int .i64 m) =>
   if 1<=b&&e.plain then some { ob:=some (0<=n/\n<=m/\m*(b:Int)<=140737488355328),res:=.c (.own nx),new:=[.row true e (List.replicate n.toNat e.fe)] } else none
 | _,_,_=>none
def F9(T:bN)(lk:Nat->ax)(b:Builtin)(Of:List TypeId)(args:List S):Option QR :=
 match b,Of,args with
 | .len,[t],[.c x]=>omap (fun n=>{ res:=.c (.val (.int .i64 n)) }) (JP T lk t x)
 | .min,_,[.c (.val (.int k x)),.c (.val (.int k' y))]=>if k'=k then some { res:=.c (.val (.int k (BI x y))) } else none
 | .max,_,[.c (.val (.int k x)),.c (.val (.int k' y))]=>if k'=k then some { res:=.c (.val (.int k (imax x y))) } else none
 | _,_,_=>none
def qD:List S->Option (List Nat)
 | []=>some []
 | .c (.box n 0)::r=>omap (n::·) (qD r)
 | _=>none
def S.S3:S->Bool
 | .c (.box _ _) | .c (.at_ _ _ _ _) | .c (.dL _ _ _) | .c (.fn _ _)=>true
 | _=>false
def gF(T:bN)(Γ:FuncId->Option PC)(lk:Nat->ax)(nx:Nat)(ev:Operand->S)(o:Op):Option QR :=
 match o with
 | .move x | .assign x=>some { res:=ev x }
 | .pick c a b=>omap (fun s=>{ res:=s }) (D6 (ev c) (ev a) (ev b))
 | .alloc t=>Mk T nx t
 | .box _ x=>match (ev x).cells with|some cs=>some { res:=.c (.box nx 0),new:=[.bx cs] }|none=>none
 | .build t parts=>F8 T t (lmap (fun p=>(p.1,ev p.2)) parts.toList)
 | .buildSlice t n parts=>jq T lk nx t n (lmap (fun p=>(p.1,ev p.2)) parts.toList)
 | .load t a=>match ev a with | .c p=>A2 T lk t p|_=>none
 | .nilCheck x=>if (ev x).S3 then some { res:=ev x } else none
 | .binOp op t x y _=>match ev x,ev y with | .c a,.c b=>J8 T t op a b | .agg a,.agg b=>J7 T t op a b|_,_=>none
 | .unOp op _ x=>match ev x with | .c a=>Sk op a|_=>none
 | .convert s t x =>
   match T s,T t,ev x with
   | some _,some { k:=.int k,.. },.c (.val (.int _ n))=>some { res:=.c (.val (.int k (k.wrap n))) }
   | some { k:=.sl e _ _ _,.. },some { k:=.str,.. },.c x =>
     match T e with
     | some { k:=.int .u8,.. }=>omap (fun xs=>{ res:=.c (.val (.string (strOfNums xs))) }) (oc lk (.int .u8) x)
     | _=>none
   | _,_,_=>none
 | .makeSlice t l c=>match ev l,ev c with | .c l,.c c=>qf T nx t l c|_,_=>none
 | .slice t x lo hi none=>match ev x with | .c x=>F_ T lk t x (omap ev lo) (omap ev hi)|_=>none
 | .fieldAddr t x f=>match ev x with | .c p=>m4 T t p f|_=>none
 | .field t x f =>
   match qm T t f,ev x with
   | some (off,n,ag),.agg cs=>omap (fun r=>{ res:=kR (ag,r) }) (partOf cs off n)
   | _,_=>none
 | .indexAddr t x i=>match ev x,ev i with | .c x,.c i=>uN T lk t x i|_,_=>none
 | .extract x i=>match ev x with | .m_ vs=>omap (fun v=>{ res:=kR v }) (jx vs i)|_=>none
 | .makeFunc (.func f) first captured=>match first.toList with|[]=>omap (fun ns=>{ res:=.c (.fn f ns) }) (qD (lmap ev captured.toList))|_=>none
 | .call c =>
   match c.callee with
   | .builtin b=>F9 T lk b c.argTypes.toList (lmap ev c.args.toList)
   | .value f =>
     match ev f with
     | .c (.fn g [])=>D5 Γ lk nx g (lmap ev c.args.toList)
     | .c (.bZ fr g t d)=>D5 Γ lk nx g (cM (lmap ev c.args.toList) (lmap S.c (expand fr t d)))
     | _=>none
   | _=>none
 | _=>none
def S.map(f:C->C):S->S
 | .c x=>.c (f x)
 | .agg cs=>.agg (lmap f cs)
 | .m_ vs=>.m_ (lmap (fun v=>(v.1,lmap f v.2)) vs)
 | .ew=>.ew
 | .any=>.any
 | .arr e xs=>.arr e xs
def ax.map(f:C->C):ax->ax
 | .bx cs=>.bx (lmap f cs)
 | .row fr e xs=>.row fr e xs
 | .dead=>.dead
def St.map(st:St)(f:C->C):St :=
 { ts:=lmap (S.map f) st.ts,hp:=lmap (ax.map f) st.hp }
def bB(m:Nat):C->C
 | .own n=>if n=m then .any else .own n
 | .pre n h=>if n=m then .any else .pre n h
 | .eE n e xs=>if n=m then .any else .eE n e xs
 | .dL n i o=>if n=m then .any else .dL n i o
 | c=>c
def dj(m:Nat):C->C
 | .eE n e xs=>if n=m then .any else .eE n e xs
 | c=>c
def cV(m:Nat)(fr:Bool)(e:Ty)(xs:List e.den):C->C
 | .own n=>if n=m then .rd fr e xs else .own n
 | .pre n h=>if n=m then .rd fr e (xs.take h) else .pre n h
 | .eE n e' ys=>if n=m then .rd false e' ys else .eE n e' ys
 | .dL n i o=>if n=m then .at_ fr e (xs.getD i e.fe) o else .dL n i o
 | c=>c
def St.freeze(st:St)(m:Nat):St :=
 match st.au m with
 | .row fr e xs=>{ (st.map (cV m fr e xs)) with hp:=bD ((st.map (cV m fr e xs)).hp) m .dead }
 | _=>st
def ji:List C->List Nat
 | []=>[]
 | .own n::r=>n::ji r
 | .pre n _::r=>n::ji r
 | .eE n _ _::r=>n::ji r
 | _::r=>ji r
def St.ba(st:St):List Nat->St
 | []=>st
 | n::r=>(st.freeze n).ba r
def St.put(st:St)(dst:Option Nat)(s:S):St :=
 match dst with
 | some d=>{ st with ts:=bD st.ts d s }
 | none=>st
def St.alloc(st:St)(es:List ax):St:={ st with hp:=cM st.hp es }
structure ER where
 ob:Option Prop:=none
 st:St
 res:S
def pk(cs:List C)(off:Nat)(xs:List C):List C:=cM (rU off cs) (cM xs (qc (off+aL xs) cs))
def C.AM:C->Bool
 | .rg _ _ _ _ _=>false
 | .rd _ e _=>!e.bU
 | .own _=>false
 | .pre _ _=>false
 | .eE _ _ _=>false
 | _=>true
def Sw(m:Nat)(fr:Bool)(e:Ty)(xs:List C):Bool:=!e.bU||(if fr then df C.ek xs else (!(Nat.beq m 0)||df C.AM xs))
def Af(T:bN)(st:St)(t:TypeId)(p x:Operand):Option ER :=
 match uR T t,st.eval p,(st.eval x).cells with
 | some n,.c (.box m off),some xs =>
   match st.au m with
   | .bx cs=>if aL xs=n/\off+n<=aL cs then some { st:={ st with hp:=bD st.hp m (.bx (pk cs off xs)) },res:=.ew } else none
   | _=>none
 | some n,.c (.dL _ _ _),some xs =>
   let dY:=st.ba (ji xs)
   match dY.eval p,(dY.eval x).cells with
   | .c (.dL m i off),some xs =>
     match dY.au m with
     | .row fr e ys =>
       if aL xs=n/\off+n<=e.size/\df C.dI xs=true/\Sw m fr e xs=true then
        match readAll dY.au e (pk (expand fr e (ys.getD i e.fe)) off xs) with
        | some y=>some { st:={ (dY.map (dj m)) with hp:=bD (dY.map (dj m)).hp m (.row (fr&&(e.flat||df C.ek xs)) e (ys.set i y)) },res:=.ew }
        | none=>none
       else none
     | _=>none
   | _,_=>none
 | _,_,_=>none
def m5(lk:Nat->ax)(e:Ty):C->Option Bool
 | .rd fr _ _=>some (e.flat||fr)
 | .own n=>match lk n with | .row fr _ _=>some (e.flat||fr)|_=>none
 | .pre n _=>match lk n with | .row fr _ _=>some (e.flat||fr)|_=>none
 | .eE _ _ _=>if e.flat then some true else none
 | .rg fr _ _ _ _=>some (e.flat||fr)
 | .val (.slice none 0 0)=>some true
 | _=>none
def D8(lk:Nat->ax)(e:Ty):C->Ty
 | .own n=>match lk n with | .row _ e' _=>if e'.cc=e then e' else e|_=>e
 | .pre n _=>match lk n with | .row _ e' _=>if e'.cc=e then e' else e|_=>e
 | .rd _ e' _=>if e'.cc=e then e' else e
 | _=>e
def DU(lk:Nat->ax)(e:Ty)(s x:C):Ty :=
 match s with
 | .val _=>D8 lk e x
 | s=>D8 lk e s
def CE(st:St)(b:Nat)(e:Ty)(s x:C):Option ER :=
 if b=0 then none else
 match oc st.au e x,m5 st.au e x with
 | some ys,some f =>
   match s with
   | .own m =>
     match st.au m with
     | .row fr e' xs =>
       if h:e'=e then
        if (e.flat&&!fr)||(e.bU&&!(fr&&f)) then none else
        if jw (fun k=>k == m) (ji [x]) then none else
        some { ob:=some ((xs.length+ys.length)*b<=140737488355328),
               st:={ (st.map (bB m)) with hp:=bD (st.map (bB m)).hp m (.row (fr&&f) e (eW h xs++ys)) },res:=.c (.own m) }
       else none
     | _=>none
   | .pre m n =>
     match st.au m with
     | .row fr e' xs =>
       if h:e'=e then
        if (e.flat&&!fr)||(e.bU&&!(fr&&f)) then none else
        if jw (fun k=>k == m) (ji [x]) then none else
        some { ob:=some ((n+ys.length)*b<=140737488355328),
               st:={ (st.map (bB m)) with hp:=bD (st.map (bB m)).hp m (.row (fr&&f) e ((eW h xs).take n++ys)) },res:=.c (.own m) }
       else none
     | _=>none
   | .val (.slice none 0 0) =>
     if e.bU&&!f then none else
     some { ob:=some (ys.length*b<=140737488355328),st:=st.alloc [.row f e ys],res:=.c (.own (aL st.hp)) }
   | _=>none
 | _,_=>none
def H6(T:bN)(st:St)(t:TypeId)(s x:Operand):Option ER :=
 match T t,st.eval s,st.eval x with
 | some { k:=.sl _ _ b e0,.. },.c s,.c x=>CE st b (DU st.au e0 s x) s x
 | _,_,_=>none
def wC(st:St):List (Nat×Operand)->List Nat
 | []=>[]
 | p::r=>cM (match (st.eval p.2).cells with|some cs=>ji cs|none=>[]) (wC st r)
def x6(T:bN)(st:St)(t:TypeId)(n:Nat)(parts:List (Nat×Operand)):Option ER :=
 let ns:=wC st parts
 let dY:=st.ba ns
 match jq T dY.au (aL dY.hp) t n (lmap (fun p=>(p.1,dY.eval p.2)) parts) with
 | some r=>some { ob:=r.ob,st:=dY.alloc r.new,res:=r.res }
 | none=>none
def EA(T:bN)(st:St)(args:List Operand)(Of:List TypeId):Option ER :=
 match args,Of with
 | [s,x],[t,t']=>if t=t' then H6 T st t s x else none
 | _,_=>none
def Fw:Callee->Bool
 | .builtin .append=>true
 | _=>false
def Bw(T:bN)(st:St)(t:TypeId)(p x:Operand):Option ER :=
 match T t,st.eval p,st.eval x with
 | some { k:=.arr _ _ _ _ _,size:=sz,.. },.c (.dL m 0 0),.arr e xs =>
   match st.au m with
   | .row fr e' ys =>
     if e'=e then some { ob:=some (xs.length=ys.length/\xs.length*e.size=sz),st:={ (st.map (dj m)) with hp:=bD (st.map (dj m)).hp m (.row fr e xs) },res:=.ew } else none
   | _=>none
 | _,_,_=>none
def Ou(T:bN)(st:St)(o:Op):Option ER :=
 match o with
 | .store t a x=>match Af T st t a x with|some r=>some r|none=>Bw T st t a x
 | .buildSlice t n parts=>x6 T st t n parts.toList
 | .call c=>if Fw c.callee then EA T st c.args.toList c.argTypes.toList else none
 | _=>none
def eM(p q:Option Prop):Option Prop :=
 match p,q with
 | none,q=>q
 | p,none=>p
 | some p,some q=>some (p/\q)
def cT:Option Prop->Prop
 | none=>True
 | some p=>p
def C.FI(b:Nat):C->Option Prop
 | .rg _ wh e b' xs=>some (b ∉ ids (.gs wh e) (b',xs))
 | .rd _ e xs=>if e.bU then some (b ∉ bV e xs) else none
 | .at_ _ t d _=>if t.bU then some (b ∉ ids t d) else none
 | _=>none
def I7(b:Nat):List C->Option Prop
 | []=>none
 | c::r=>eM (c.FI b) (I7 b r)
def ax.FI(b:Nat):ax->Option Prop
 | .row _ e xs=>if e.bU then some (b ∉ bV e xs) else none
 | .bx cs=>I7 b cs
 | .dead=>none
def DY(b:Nat):List ax->Option Prop
 | []=>none
 | e::r=>eM (e.FI b) (DY b r)
def D3(b:Nat):List Nat->Option Prop
 | []=>none
 | a::r=>eM (some (b≠a)) (D3 b r)
def m7(m b:Nat)(fr:Bool)(e:Ty)(xs:List e.den):C->C
 | .own n=>if n=m then .rg fr true e b xs else .own n
 | .pre n h=>if n=m then .rd fr e (xs.take h) else .pre n h
 | .eE n e' ys=>if n=m then .rd false e' ys else .eE n e' ys
 | .dL n i o=>if n=m then .at_ fr e (xs.getD i e.fe) o else .dL n i o
 | c=>c
def St.sealB(st:St)(m b:Nat):St :=
 match st.au m with
 | .row fr e xs=>{ (st.map (m7 m b fr e xs)) with hp:=bD ((st.map (m7 m b fr e xs)).hp) m .dead }
 | _=>st
def B2(acc:List Nat):List Nat->St->(St->Prop)->Prop
 | [],st,K=>K st
 | m::ms,st,K=>∀ b:Nat,cT (eM (DY b st.hp) (D3 b acc))->B2 (b::acc) ms (st.sealB m b) K
def qn(st:St):List C->List Nat
 | []=>[]
 | .own n::r=>match st.au n with | .row true e _=>if e.flat then n::qn st r else qn st r|_=>qn st r
 | _::r=>qn st r
def FP(st:St):List (Nat×Operand)->List Nat
 | []=>[]
 | p::r=>cM (match (st.eval p.2).cells with|some cs=>qn st cs|none=>[]) (FP st r)
def Ss(T:bN)(tl:Bool)(st:St):Op->List Nat
 | .store _ p x =>
   match st.eval p,(st.eval x).cells with
   | .c (.dL m _ _),some cs=>(match st.au m with | .row _ e _=>if e.bU then qn st cs else []|_=>[])
   | _,_=>[]
 | .buildSlice t _ parts =>
   match i_ T t with
   | some e=>if tl&&jt e then FP st parts.toList else []
   | none=>[]
 | _=>[]
abbrev bW:=List S->St->(S->St->Prop)->Prop
def w4:Nat:=1000000
def Te(R:FuncId->Option bW):Bool:=(R w4).isSome
def sY(st:St):Op->Option (FuncId×List S)
 | .call c =>
   match c.callee with
   | .value f=>match st.eval f with | .c (.fn g [])=>some (g,lmap st.eval c.args.toList)|_=>none
   | _=>none
 | _=>none
def Bp(p:Option Prop)(q:Prop):Prop:=match p with|none=>q|some p=>p/\q
def JL(p:Option Prop)(q:Prop):Prop:=match p with|none=>q|some p=>p->q
def JI:Nat->Nat->Int->(Nat->Prop)->Prop
 | 0,_,_,_=>True
 | 1,k,n,f=>n=(k:Int)->f k
 | l+2,k,n,f=>(n=(k:Int)->f k)/\JI (l+1) (k+1) n f
def KE(T:bN)(st:St)(op:Op)(dst:Option Nat)(K:St->Prop):Prop :=
 match op with
 | .indexAddr t x i =>
   match T t,st.eval x,st.eval i with
   | some { k:=.IC _,.. },.c (.iY m l),.c (.val (.int _ n))=>(0<=n/\n<(l:Int))/\JI l 0 n (fun j=>K (st.put dst (.c (.box m j))))
   | _,_,_=>False
 | _=>False
def uZ(T:bN)(Γ:FuncId->Option PC)(R:FuncId->Option bW)(ev:Operand->S)(lk:Nat->ax)(o:Oper)(st:St)(K:St->Prop):Prop :=
 match gF T Γ lk (aL st.hp) ev o.op with
 | some r=>Bp r.ob (JL r.hy (K ((st.alloc r.new).put o.dst r.res)))
 | none =>
   match Ss T (Te R) st o.op with
   | n::ns=>B2 [] (n::ns) st fun aN=>match Ou T aN o.op with|some r=>Bp r.ob (K (r.st.put o.dst r.res))|none=>False
   | [] =>
   match Ou T st o.op with
   | some r=>Bp r.ob (K (r.st.put o.dst r.res))
   | none =>
     match sY st o.op with
     | some (f,args) =>
       match R f with
       | some r=>if Nat.beq f w4 then False else r args st fun s aN=>K (aN.put o.dst s)
       | none=>False
     | none=>KE T st o.op o.dst K
def QS(Γ:FuncId->Option PC)(R:FuncId->Option bW)(st:St)(o:Op):Bool :=
 match sY st o with
 | some (f,_)=>(Γ f).isSome&&(R f).isSome
 | none=>false
def xF(T:bN)(Γ:FuncId->Option PC)(R:FuncId->Option bW)(ev:Operand->S)(lk:Nat->ax)(o:Oper)(st:St)(K:St->Prop):Prop :=
 if QS Γ R st o.op then
  match sY st o.op with
  | some (f,args) =>
    match R f with
    | some r=>if Nat.beq f w4 then False else r args st fun s aN=>K (aN.put o.dst s)
    | none=>False
  | none=>False
 else uZ T Γ R ev lk o st K
inductive Ve where
 | go
 | skip
 | ask (d:Nat) (b:Bool) (want:Bool)
 | bad
def jk(all:Array Oper)(o:Oper)(st:St):Ve :=
 match o.guard with
 | none=>.go
 | some (j,want) =>
   match xx (jx all.toList j) (·.dst) with
   | some d =>
     match nth .any st.ts d with
     | .c .gi=>if want then .go else .skip
     | .c .ga=>if want then .skip else .go
     | .c (.val (.bool b))=>.ask d b want
     | .ew=>.skip
     | _=>.bad
   | none=>.bad
def ly(T:bN)(Γ:FuncId->Option PC)(R:FuncId->Option bW)(all:Array Oper):List Oper->St->(St->Prop)->Prop
 | [],st,K=>K st
 | o::rest,st,K =>
   match jk all o st with
   | .go=>xF T Γ R st.eval st.au o st (fun aN=>ly T Γ R all rest aN K)
   | .skip=>ly T Γ R all rest (st.put o.dst .ew) K
   | .ask d b want =>
     (b=true->if want then xF T Γ R (st.put (some d) (.c .gi)).eval st.au o (st.put (some d) (.c .gi)) (fun aN=>ly T Γ R all rest aN K)
       else ly T Γ R all rest ((st.put (some d) (.c .gi)).put o.dst .ew) K) ∧
     (b=false->if want then ly T Γ R all rest ((st.put (some d) (.c .ga)).put o.dst .ew) K
       else xF T Γ R (st.put (some d) (.c .ga)).eval st.au o (st.put (some d) (.c .ga)) (fun aN=>ly T Γ R all rest aN K))
   | .bad=>False
def Sj(Γ:FuncId->Option PC)(o:Oper):Bool :=
 match o.op with
 | .assign _ | .store ..=>false
 | .call { callee:=.builtin b,.. }=>(match b with | .len | .min | .max=>true|_=>false)
 | .call { callee:=.value (.func f),.. }=>(Γ f).isSome
 | .call _=>false
 | _=>true
def Pd(Γ:FuncId->Option PC)(ws:List Nat)(o:Oper):List Nat :=
 match o.dst with
 | some d =>
   (match o.op with
    | .call { callee:=.value (.func f),.. }=>(match Γ f with|some c=>if c.fz then ws else d::ws|none=>d::ws)
    | .call { callee:=.value _,.. }=>d::ws
    | .build _ parts=>if jw (fun p=>match p.2 with | .tmp x=>jw (fun y=>y == x) ws|_=>false) parts.toList then d::ws else ws
    | .extract (.tmp x) _=>if jw (fun y=>y == x) ws then d::ws else ws
    | .move (.tmp x)=>if jw (fun y=>y == x) ws then d::ws else ws
    | _=>ws)
 | none=>ws
def Qw(T:bN)(ws:List Nat)(o:Oper):Bool :=
 match o.op with
 | .buildSlice t _ parts =>
   (match i_ T t with
    | some e=>!e.flat&&jw (fun p=>match p.2 with | .tmp x=>jw (fun y=>y == x) ws|_=>false) parts.toList
    | none=>false)
 | _=>false
def lV(T:bN)(Γ:FuncId->Option PC)(ws:List Nat):List Oper->Nat
 | []=>0
 | o::r=>if Sj Γ o&&!(Qw T ws o) then lV T Γ (Pd Γ ws o) r+1 else 0
def dX(all:Array Oper)(i:Nat):Nat:=(Region.before all).getD i 0
def lS(all:Array Oper)(t:Nat):Nat->Option Nat
 | 0=>none
 | k+1 =>
   match all[k]? with
   | some o=>if o.dst=some t then some k else lS all t k
   | none=>lS all t k
def ED(all:Array Oper)(k i:Nat)(st:St)(x:Operand):S :=
 match x with
 | .tmp t =>
   match lS all t k with
   | some j=>if (dX all i).testBit j then st.eval (.tmp t) else .any
   | none=>st.eval (.tmp t)
 | x=>st.eval x
def C2(all:Array Oper)(i l9:Nat)(cE:List Nat)(st:St)(n:Nat):ax :=
 if n<l9 then st.au n else
 match jx cE (n-l9) with
 | some j=>if (dX all i).testBit j then st.au n else .dead
 | none=>.dead
def gL(all:Array Oper)(k:Nat):Bool :=
 (List.range k).all fun i =>
   match all[i]? with
   | some o =>
     (match o.guard with|some (j,_)=>decide (j<i)&&(dX all i).testBit j|none=>true) &&
     (match o.dst with
      | some d=>(List.range k).all fun j=>j == i||(match all[j]? with|some o'=>o'.dst != some d|none=>true)
      | none=>false)
   | none=>false
def qk(all:Array Oper)(k:Nat):Bool :=
 (List.range all.size).all fun i=>(decide (i<k)||(List.range i).all fun j=>(dX all i).testBit j) &&
   (match all[i]? with|some o=>o.after.toList.all fun e=>!Region.binds .any e||decide (e.on<i)|none=>true)
def po(T:bN)(Γ:FuncId->Option PC)(all:Array Oper)(k l9:Nat):Nat->List Oper->List Nat->St->(St->Prop)->Prop
 | _,[],_,st,K=>K st
 | i,o::rest,cE,st,K =>
   let go (st:St):Prop :=
    match gF T Γ (C2 all i l9 cE st) (aL st.hp) (ED all k i st) o.op with
    | some r=>Bp r.ob (po T Γ all k l9 (i+1) rest (cM cE (lmap (fun _=>i) r.new)) ((st.alloc r.new).put o.dst r.res) fun aN=>JL r.hy (K aN))
    | none=>False
   let skip (st:St):Prop:=po T Γ all k l9 (i+1) rest cE (st.put o.dst .ew) K
   match jk all o st with
   | .go=>go st
   | .skip=>skip st
   | .ask d b want =>
     (b=true->if want then go (st.put (some d) (.c .gi)) else skip (st.put (some d) (.c .gi))) ∧
     (b=false->if want then skip (st.put (some d) (.c .ga)) else go (st.put (some d) (.c .ga)))
   | .bad=>False
def NV(all:List Oper)(aw:List Bool)(i:Nat):Bool :=
 !(nth true aw i)&&(match jx all i with|some o=>df (fun e=>!(Region.binds .any e)||nth false aw e.on) o.after.toList|none=>false)
def qg(all:List Oper)(aw:List Bool):Nat->Nat->List Nat
 | _,0=>[]
 | i,n+1=>if NV all aw i then i::qg all aw (i+1) n else qg all aw (i+1) n
def kF(o:Oper):Bool :=
 match o.guard,o.op with
 | none,.fieldAddr _ _ _=>true
 | none,.move _=>true
 | none,.assign _=>true
 | none,.extract _ _=>true
 | _,_=>false
def An(all:Array Oper)(oi:Oper)(i:Nat)(aw:List Bool):Nat->List Oper->Bool
 | _,[]=>true
 | j,oj::r=>(j == i||nth true aw j||jw (fun e=>Region.binds .any e&&e.on == i) oj.after.toList||oi.apart all oj)&&An all oi i aw (j+1) r
def AL(all:List Oper):Bool:=df (fun o=>match o.op with | .select ..=>false|_=>true) all
def Kj(all:Array Oper)(aw:List Bool)(i:Nat):Bool :=
 match jx all.toList i with
 | some oi=>kF oi&&AL all.toList&&An all oi i aw 0 all.toList
 | none=>false
def rJ(all:Array Oper)(aw:List Bool):List Nat->Option Nat
 | []=>none
 | i::r=>if Kj all aw i then some i else rJ all aw r
def I6:List Nat->(Nat->Prop)->Prop
 | [],_=>True
 | [i],f=>f i
 | i::r,f=>f i/\I6 r f
def xd(T:bN)(Γ:FuncId->Option PC)(R:FuncId->Option bW)(all:Array Oper)(i:Nat)(st:St)(K:St->Prop):Prop :=
 match jx all.toList i with
 | some o =>
   match jk all o st with
   | .go=>uZ T Γ R st.eval st.au o st K
   | .skip=>K (st.put o.dst .ew)
   | .ask d b want =>
     (b=true->if want then uZ T Γ R (st.put (some d) (.c .gi)).eval st.au o (st.put (some d) (.c .gi)) K
       else K ((st.put (some d) (.c .gi)).put o.dst .ew)) ∧
     (b=false->if want then K ((st.put (some d) (.c .ga)).put o.dst .ew)
       else uZ T Γ R (st.put (some d) (.c .ga)).eval st.au o (st.put (some d) (.c .ga)) K)
   | .bad=>False
 | none=>False
def sf(T:bN)(Γ:FuncId->Option PC)(R:FuncId->Option bW)(all:Array Oper):Nat->List Bool->St->(St->Prop)->Prop
 | 0,aw,st,K =>
   match qg all.toList aw 0 (aL all.toList) with
   | []=>K st
   | _=>False
 | n+1,aw,st,K =>
   match qg all.toList aw 0 (aL all.toList) with
   | []=>K st
   | j::r =>
     match rJ all aw (j::r) with
     | some i=>xd T Γ R all i st fun aN=>sf T Γ R all n (bD aw i true) aN K
     | none=>I6 (j::r) fun i=>xd T Γ R all i st fun aN=>sf T Γ R all n (bD aw i true) aN K
def uo(all:Array Oper)(oi:Oper)(i:Nat):Nat->List Oper->Bool
 | _,[]=>true
 | j,oj::r=>(j == i||(dX all i).testBit j||jw (fun e=>Region.binds .any e&&e.on == i) oj.after.toList||oi.apart all oj)&&uo all oi i (j+1) r
def D2(all:Array Oper)(i:Nat):Bool :=
 match jx all.toList i with
 | some oi=>kF oi&&AL all.toList&&uo all oi i 0 all.toList
 | none=>false
def nQ(all:Array Oper)(k:Nat):Bool :=
 (List.range all.size).all fun i=>(decide (i<k)||(List.range k).all fun j=>(dX all i).testBit j||D2 all j) &&
   (match all[i]? with|some o=>o.after.toList.all fun e=>!Region.binds .any e||decide (e.on<i)|none=>true)
def u0(T:bN)(Γ:FuncId->Option PC)(R:FuncId->Option bW)(ops:Array Oper)(draw:Bool)(st:St)(K:St->Prop):Prop :=
 if draw then
  let k:=lV T Γ [] ops.toList
  if gL ops k&&qk ops k then
   po T Γ ops k (aL st.hp) 0 (rU k ops.toList) [] st fun aN=>ly T Γ R ops (qc k ops.toList) aN K
  else if gL ops k&&nQ ops k then
   po T Γ ops k (aL st.hp) 0 (rU k ops.toList) [] st fun aN=>sf T Γ R ops (aL (qc k ops.toList)) (cM (kQ true k) (kQ false (aL (qc k ops.toList)))) aN K
  else sf T Γ R ops (aL ops.toList) (kQ false (aL ops.toList)) st K
 else ly T Γ R ops ops.toList st K
inductive Src where
 | nm (n:Nat)
 | nil
 | no
def yp(b:Bool):Option Prop:=if b then none else some False
def mC(bf:List Src):C->C->Option Prop
 | _,.any=>none
 | .val (.int k n),.val (.int k' m)=>if k=k' then some (n=m) else some False
 | .val (.bool a),.val (.bool b)=>some (a=b)
 | .gi,.val (.bool b)=>some (b=true)
 | .ga,.val (.bool b)=>some (b=false)
 | .gi,.gi=>none
 | .ga,.ga=>none
 | .val v,.val u=>some (v=u)
 | .rd fr e xs,.rd aV e' ys=>if h:e=e' then (if aV&&!fr then some False else some (eW h xs=ys)) else some False
 | .val (.slice none 0 0),.rd _ _ ys=>some (ys=[])
 | .own n,.own m =>
   match jx bf m with
   | some (.nm n')=>yp (n' == n)
   | _=>some False
 | .val (.slice none 0 0),.own m =>
   match jx bf m with
   | some .nil=>none
   | _=>some False
 | .pre n k,.pre m k' =>
   match jx bf m with
   | some (.nm n')=>eM (yp (n' == n)) (some (k=k'))
   | _=>some False
 | .box n o,.box m o' =>
   match jx bf m with
   | some (.nm n')=>yp (n' == n&&o == o')
   | _=>some False
 | .iY n o,.iY m o' =>
   match jx bf m with
   | some (.nm n')=>yp (n' == n&&o == o')
   | _=>some False
 | .rg fr wh e b xs,.rg aV sg e' b' ys=>if h:e=e' then (if (aV&&!fr)||(sg&&!wh) then some False else some (b=b'/\eW h xs=ys)) else some False
 | .val (.slice none 0 0),.rg _ _ _ _ ys=>some (ys=[])
 | .rg fr _ e _ xs,.rd aV e' ys=>if h:e=e' then (if aV&&!fr then some False else some (eW h xs=ys)) else some False
 | .at_ fr t d o,.at_ aV t' d' o'=>if h:t=t' then (if aV&&!fr then some False else eM (yp (o == o')) (some ((h▸d)=d'))) else some False
 | .bZ fr f t d,.bZ aV f' t' d'=>if h:t=t' then (if aV&&!fr then some False else eM (yp (Nat.beq f f')) (some ((h▸d)=d'))) else some False
 | .dL n i o,.dL m i' o' =>
   match jx bf m with
   | some (.nm n')=>eM (yp (n' == n&&o == o')) (some (i=i'))
   | _=>some False
 | _,_=>some False
def LW(bf:List Src):List C->List C->Option Prop
 | [],[]=>none
 | x::xs,y::ys=>eM (mC bf x y) (LW bf xs ys)
 | _,_=>some False
def mS(bf:List Src):S->S->Option Prop
 | _,.any=>none
 | .c x,.c y=>mC bf x y
 | .agg xs,.agg ys=>LW bf xs ys
 | .ew,.ew=>none
 | _,_=>some False
def R8(bf:List Src):List S->List S->Option Prop
 | [],[]=>none
 | x::xs,y::ys=>eM (mS bf x y) (R8 bf xs ys)
 | _,_=>some False
def mE(bf:List Src)(es:Nat->ax)(r:Src)(t:ax):Option Prop :=
 match t with
 | .dead=>match r with | .no=>none|_=>some False
 | .bx cs=>match r with | .nm n=>(match es n with | .bx cp=>LW bf cp cs|_=>some False)|_=>some False
 | .row fr e xs =>
   match r with
   | .nm n =>
     match es n with
     | .row aV e' ys =>
       if h:e'=e then (if (fr&&!aV)||(e.bU&&aV&&!fr) then some False else some (eW h ys=xs))
       else if h:e'=e.cc then (if fr&&aV then some ((∀ y∈eW h ys,wv e y)/\xs=(eW h ys).map (fJ e)) else some False)
       else some False
     | _=>some False
   | .nil=>some (xs=[])
   | .no=>some False
def R7(bf:List Src)(es:Nat->ax):List Src->List ax->Option Prop
 | [],[]=>none
 | r::rs,t::ts=>eM (mE bf es r t) (R7 bf es rs ts)
 | _,_=>some False
def lN:List Src->Bool
 | []=>true
 | .nm n::r=>!(jw (fun | .nm m=>m == n|_=>false) r)&&lN r
 | _::r=>lN r
def AH(es:Nat->ax):Nat->List Src->List ax->Bool
 | k,r::rs,t::ts =>
   (match t with
    | .row false e _=>!(e.flat||e.bU)||(match r with | .nm n=>n == k&&(match es n with | .row fr _ _=>!fr|_=>false) | .nil=>true | .no=>false)
    | _=>true)&&AH es (k+1) rs ts
 | _,_,_=>true
def JN:ax->List Src->List ax->Bool
 | .bx _,.nm 0::_,.bx _::_=>true
 | .bx _,_,_=>false
 | _,_,_=>true
def Match(bf:List Src)(s t:St):Prop :=
 cT (eM (yp (lN bf&&AH s.au 0 bf t.hp&&JN (s.au 0) bf t.hp)) (eM (R8 bf s.ts t.ts) (R7 bf s.au bf t.hp)))
def LF(n:Nat):C->C->Option Src
 | x,.own m=>if m=n then (match x with | .own k=>some (.nm k) | .val (.slice none 0 0)=>some .nil|_=>none) else none
 | x,.box m _=>if m=n then (match x with | .box k _=>some (.nm k)|_=>none) else none
 | x,.pre m _=>if m=n then (match x with | .pre k _=>some (.nm k)|_=>none) else none
 | x,.iY m _=>if m=n then (match x with | .iY k _=>some (.nm k)|_=>none) else none
 | _,_=>none
def BJ(n:Nat):List C->List C->Option Src
 | x::xs,y::ys=>AO (LF n x y) (BJ n xs ys)
 | _,_=>none
def RY(n:Nat):S->S->Option Src
 | .c x,.c y=>LF n x y
 | .agg xs,.agg ys=>BJ n xs ys
 | _,_=>none
def Ir(n:Nat):List S->List S->Option Src
 | x::xs,y::ys=>AO (RY n x y) (Ir n xs ys)
 | _,_=>none
def Ft(n:Nat)(s:St):Nat->List ax->Option Src
 | k,.bx ys::r=>AO (match s.au k with | .bx xs=>BJ n xs ys|_=>none) (Ft n s (k+1) r)
 | k,_::r=>Ft n s (k+1) r
 | _,[]=>none
def RX(s t:St)(n:Nat):Src:=(match AO (Ir n s.ts t.ts) (Ft n s 0 t.hp) with|some r=>r|none=>.nm n)
def q_(s t:St):Nat->List ax->List Src
 | _,[]=>[]
 | n,.dead::r=>.no::q_ s t (n+1) r
 | n,_::r=>RX s t n::q_ s t (n+1) r
inductive Ex where
 | normal
 | exit (id:Nat)
 | ret
inductive bq:Type 1 where
 | mk (X:Type) (J:X->Prop) (I:St->X->St) (m:X->Nat) (x0:X) (inner:X->Nat->Option bq)
def keyOf:Code->Option Nat
 | .region id _ _=>some id
 | .seq a b=>AO (keyOf a) (keyOf b)
 | .block _ a=>keyOf a
 | .loop a=>keyOf a
 | _=>none
def U1:Code->Option Nat
 | .cond _ a _=>keyOf a
 | _=>none
def dstsOf:List Oper->List Nat
 | []=>[]
 | o::r=>match o.dst with|some d=>d::dstsOf r|none=>dstsOf r
def writes:Code->List Nat
 | .region _ ops _=>dstsOf ops.toList
 | .seq a b=>cM (writes a) (writes b)
 | .cond _ a b=>cM (writes a) (writes b)
 | .block _ a=>writes a
 | .loop a=>writes a
 | _=>[]
def forget(ts:List S):List Nat->List S
 | []=>ts
 | d::r=>forget (bD ts d .any) r
def O8(ts:List S):List (Nat×S)->List S
 | []=>ts
 | p::r=>O8 (bD ts p.1 p.2) r
def St.bM(st:St)(l:List (Nat×S)):St:={ st with ts:=O8 st.ts l }
def U9(hp:List ax)(p:Nat×ax):List ax:=if p.1<aL hp then bD hp p.1 p.2 else cM hp [p.2]
def O7(hp:List ax):List (Nat×ax)->List ax
 | []=>hp
 | p::r=>O7 (U9 hp p) r
def St.b9(st:St)(l:List (Nat×ax)):St:={ st with hp:=O7 st.hp l }
def LN(n:Nat)(l:List Nat):Nat->List S->List S
 | _,[]=>[]
 | i,s::r=>(if Nat.ble n i&&!(jw (fun m=>Nat.beq m i) l) then .any else s)::LN n l (i+1) r
def St.keep(st:St)(n:Nat)(l:List Nat):St:={ st with ts:=LN n l 0 st.ts }
def St.head(st:St)(body:Code):St:={ st with ts:=forget st.ts (writes body) }
def SM(A:Nat->Option bq)(b:Code):Option bq :=
 match xx (keyOf b) (fun k=>A (k+100000)) with
 | some x=>some x
 | none=>xx (U1 b) (fun k=>A (k+300000))
def vc(T:bN)(Γ:FuncId->Option PC)(R:FuncId->Option bW):Code->(Nat->Option bq)->St->(Ex->(Nat->Option bq)->St->Prop)->Prop
 | .skip,A,st,Q=>Q .normal A st
 | .region id ops draw,A,st,Q =>
   match A (id+200000) with
   | some (.mk X J I m x0 inner)=>u0 T Γ R ops draw (st.freeze (m x0)) (Q .normal A)
   | none=>u0 T Γ R ops draw st (Q .normal A)
 | .seq a b,A,st,Q =>
   match SM A b with
   | some (.mk X J I m x0 inner) =>
     vc T Γ R a A st (fun e A' aN =>
      match e with
      | .normal=>∃ x':X,J x'/\Match (q_ aN (I (st.head a) x') 0 (I (st.head a) x').hp) aN (I (st.head a) x')
      | e=>Q e A' aN) ∧
     ∀ x:X,J x->vc T Γ R b (inner x) (I (st.head a) x) Q
   | none=>vc T Γ R a A st fun e A' aN=>match e with | .normal=>vc T Γ R b A' aN Q|e=>Q e A' aN
 | .cond c a b,A,st,Q =>
   match st.eval c with
   | .c .gi=>vc T Γ R a A st Q
   | .c .ga=>vc T Γ R b A st Q
   | .c (.val (.bool p))=>(p=true->vc T Γ R a A st Q)/\(p=false->vc T Γ R b A st Q)
   | _=>False
 | .block id a,A,st,Q=>vc T Γ R a A st fun e A' aN=>match e with | .exit i=>if i=id then Q .normal A' aN else Q (.exit i) A' aN|e=>Q e A' aN
 | .loop a,A,st,Q =>
   match xx (keyOf a) A with
   | some (.mk X J I m x0 inner) =>
     J x0/\Match (q_ st (I (st.head a) x0) 0 (I (st.head a) x0).hp) st (I (st.head a) x0) ∧
     ∀ x:X,J x->vc T Γ R a (inner x) (I (st.head a) x) fun e A' aN =>
      match e with
      | .normal=>∃ x':X,J x'/\m x'<m x/\Match (q_ aN (I (st.head a) x') 0 (I (st.head a) x').hp) aN (I (st.head a) x')
      | e=>Q e A' aN
   | none=>False
 | .exit id,A,st,Q=>Q (.exit id) A st
 | .ret,A,st,Q=>Q .ret A st
 | _,_,_,_=>False
def JX(lk:Nat->ax)(e:Ty):C->Option (List e.den×List Nat)
 | .own n =>
   match lk n with
   | .row true e' xs=>omap (fun ys=>(ys,[n])) (kS e' e xs)
   | _=>none
 | .pre n m =>
   match lk n with
   | .row true e' xs=>omap (fun ys=>(ys,[n])) (kS e' e (xs.take m))
   | _=>none
 | .val (.slice none 0 0)=>some ([],[])
 | _=>none
def rh(lk:Nat->ax):(t:Ty)->List C->Option (t.den×List Nat×List C)
 | .int k,cs=>match kq (D7 k) cs with|some (x,r)=>some (x,[],r)|none=>none
 | .bool,cs=>match kq rdBool cs with|some (x,r)=>some (x,[],r)|none=>none
 | .str,cs=>match kq rdStr cs with|some (x,r)=>some (x,[],r)|none=>none
 | .sl e,cs=>match kq (JX lk e) cs with|some ((x,ns),r)=>some (x,ns,r)|none=>none
 | .st t,cs=>rh lk t cs
 | .pr a b,cs =>
   match rh lk a cs with
   | some (x,ns,r) =>
     match rh lk b r with
     | some (y,ms,r')=>some ((x,y),cM ns ms,r')
     | none=>none
   | none=>none
 | .ptr _,_=>none
 | .bZ _ _,_=>none
 | .gs _ _,_=>none
def JW(lk:Nat->ax)(t:Ty)(s:S):Option (t.den×List Nat) :=
 match s with
 | .c x=>if jt t then none else match rh lk t [x] with|some (d,ns,[])=>some (d,ns)|_=>none
 | .agg cs=>if jt t then match rh lk t cs with|some (d,ns,[])=>some (d,ns)|_=>none else none
 | _=>none
def pd(lk:Nat->ax):(ts:List Ty)->List S->Option (aY ts×List Nat)
 | [],[]=>some ((),[])
 | [t],[s]=>JW lk t s
 | t::u::r,s::ss =>
   match JW lk t s with
   | some (x,ns) =>
     match pd lk (u::r) ss with
     | some (y,ms)=>some ((x,y),cM ns ms)
     | none=>none
   | none=>none
 | _,_=>none
def Sn(T:bN)(st:St):ResultVar->Option S
 | .tmp t=>some (st.eval (.tmp t))
 | .cell a t =>
   match st.eval (.tmp a) with
   | .c (.box m o)=>omap (fun r=>r.res) (A2 T st.au t (.box m o))
   | _=>none
def lh(T:bN)(st:St):List ResultVar->Option (List S)
 | []=>some []
 | r::rs =>
   match Sn T st r,lh T st rs with
   | some s,some ss=>some (s::ss)
   | _,_=>none
def pb:List Nat->Bool
 | []=>true
 | n::r=>!(jw (fun m=>m == n) r)&&pb r
def Bq(t:Ty)(d:t.den):S:=kR (jt t,expand false t d)
def eV:(ts:List Ty)->aY ts->List S
 | [],_=>[]
 | [t],d=>[Bq t d]
 | t::u::r,d=>Bq t d.1::eV (u::r) d.2
def St.start(ts:List Ty)(d:aY ts)(ntmps:Nat):St:={ ts:=cM (eV ts d) (kQ .ew (ntmps-aL ts)),hp:=[] }
def G3(T:bN)(fn:Func)(rs:List Ty)(out:aY rs)(e:Ex)(st:St):Prop :=
 match e with
 | .exit _=>False
 | _ =>
   match lh T st fn.results.toList with
   | some ss =>
     match pd st.au rs ss with
     | some (r,ns)=>if pb ns then r=out else False
     | none=>False
   | none=>False
def aR(T:bN)(Γ:FuncId->Option PC)(R:FuncId->Option bW)(fn:Func)(c:PC)(A:aY c.ts->Nat->Option bq):Prop :=
 match fn.body with
 | some code=>∀ d,gB c.ts d->c.pre d->vc T Γ R code (A d) (St.start c.ts d fn.ntmps) fun e _ st=>G3 T fn c.rs (c.F d) e st
 | none=>False
end Go.SX
/- What keeps a symbolic value true: new names, new blocks, more memory that is not written any more. No condition. -/
namespace Go.SX
open Go.RowKit
set_option linter.unusedVariables false
theorem Ty.size_pos:∀ t:Ty,0<t.size
 | .int _=>Nat.one_pos
 | .bool=>Nat.one_pos
 | .str=>Nat.one_pos
 | .sl _=>Nat.one_pos
 | .st t=>t.size_pos
 | .pr a _=>Nat.add_pos_left a.size_pos _
 | .ptr _=>Nat.one_pos
 | .bZ _ _=>Nat.one_pos
 | .gs _ _=>Nat.one_pos
structure VX (V:Vl) (hp:Nat->ax) (w:World) (V':Vl) (aH:Nat->ax) (w':World):Prop where
 nm:∀ n,(hp n).live=true->V'.aE n=V.aE n/\(V'.has n↔V.has n)/\aH n=hp n
 z0:∀ b,V.Z0 b->V'.Z0 b
 z1:∀ b,V.Z1 b->V'.Z1 b
 KM:∀ b,V.Z false b->w'.heap[b]? = w.heap[b]?
 KL:∀ n,(hp n).live=true->V.has n->w'.heap[V.aE n]? = w.heap[V.aE n]?
section
variable {V V' : Vl} {hp aH : Nat → ax} {w w' : World}
theorem VX.u7(x:VX V hp w V' aH w'){fr:Bool}{b:Nat}(h:V.Z fr b):V'.Z fr b:=by
 rcases h with h|⟨h,k⟩
 ·exact .inl (x.z1 b h)
 ·exact .inr ⟨h,x.z0 b k⟩
theorem VX.agree(x:VX V hp w V' aH w')(fr:Bool):mh (V.Z fr) w w':=fun b hb=>x.KM b (Vl.cN hb)
theorem VX.rd(x:VX V hp w V' aH w'){fr:Bool}{t:Ty}{cs:List Value}{d:t.den}(h:aF (V.Z fr) w t cs d):aF (V'.Z fr) w' t cs d :=
 h.mono (fun _ hb=>x.u7 hb) (x.agree fr)
theorem VX.cR(x:VX V hp w V' aH w'){n h:Nat}{e:Ty}{v:Value}(hl:(hp n).live=true)(k:cR V w n e h v):SX.cR V' w' n e h v:=by
 obtain⟨hb,hh,_⟩:=x.nm n hl
 rcases k with ⟨h1,h2,h3⟩|⟨h1,cap,aq,el,h2,h3,h4,h5⟩
 ·exact .inl ⟨fun h=>h1 (hh.1 h),h2,h3⟩
 ·exact .inr ⟨hh.2 h1,cap,aq,el,by rw[hb];exact h2,by rw[hb,x.KL n hl h1];exact h3,h4,h5⟩
theorem C.ka(x:VX V hp w V' aH w'):∀ {c:C} {v:Value},C.ok V hp w c v->C.ok V' aH w' c v:=by
 intro c v h
 cases c with
 | val u=>exact h
 | gi=>exact h
 | ga=>exact h
 | rd fr e xs=>exact x.rd h
 | own n =>
   obtain⟨fr,e,xs,h1,h2⟩:=h
   have hl:(hp n).live=true:=by rw[h1];rfl
   exact⟨fr,e,xs,(x.nm n hl).2.2.trans h1,x.cR hl h2⟩
 | pre n k =>
   obtain⟨fr,e,xs,h1,h3,h2⟩:=h
   have hl:(hp n).live=true:=by rw[h1];rfl
   exact⟨fr,e,xs,(x.nm n hl).2.2.trans h1,h3,x.cR hl h2⟩
 | eE n e xs =>
   obtain⟨⟨fr,e',ys,h1⟩,h2⟩:=h
   have hl:(hp n).live=true:=by rw[h1];rfl
   obtain⟨hb,hh,he⟩:=x.nm n hl
   refine⟨⟨fr,e',ys,he.trans h1⟩,h2.mono (fun b et=>?_) (fun b et=>?_)⟩
   ·rcases et with hz|⟨h3,h4⟩
    ·exact .inl (x.u7 hz)
    ·exact .inr ⟨hh.2 h3,by rw[hb];exact h4⟩
   ·rcases et with hz|⟨h3,h4⟩
    ·exact x.KM b hz
    ·rw[h4];exact x.KL n hl h3
 | box n off =>
   obtain⟨h1,h2,cs,h3⟩:=h
   have hl:(hp n).live=true:=by rw[h3];rfl
   obtain⟨hb,hh,he⟩:=x.nm n hl
   exact⟨by rw[hb];exact h1,hh.2 h2,cs,he.trans h3⟩
 | iY n len =>
   obtain⟨cap,h1,h2,cs,h3⟩:=h
   have hl:(hp n).live=true:=by rw[h3];rfl
   obtain⟨hb,hh,he⟩:=x.nm n hl
   exact⟨cap,by rw[hb];exact h1,hh.2 h2,cs,he.trans h3⟩
 | at_ fr t d off =>
   obtain⟨b,o,h1,h2,es,h3,h4,h5⟩:=h
   exact⟨b,o,h1,x.u7 h2,es,h3,gK (x.KM b (Vl.cN h2)) h4,x.rd h5⟩
 | dL n i off =>
   obtain⟨h0,fr,e,xs,h1,h2,h3⟩:=h
   have hl:(hp n).live=true:=by rw[h1];rfl
   obtain⟨hb,hh,he⟩:=x.nm n hl
   exact⟨hh.2 h0,fr,e,xs,he.trans h1,h2,by rw[hb];exact h3⟩
 | fn f di =>
   obtain⟨h1,h2⟩:=h
   have UH:di.map (fun n=>Value.pointer (some ⟨V'.aE n,0,none⟩))=di.map (fun n=>Value.pointer (some ⟨V.aE n,0,none⟩)):=by
    refine List.map_congr_left fun n hn=>?_
    obtain⟨_,cs,h3⟩:=h2 n hn
    rw[(x.nm n (by rw[h3];rfl)).1]
   refine⟨by rw[UH];exact h1,fun n hn=>?_⟩
   obtain⟨h4,cs,h3⟩:=h2 n hn
   obtain⟨hb,hh,he⟩:=x.nm n (by rw[h3];rfl)
   exact⟨hh.2 h4,cs,he.trans h3⟩
 | bZ fr f t d=>exact x.rd h
 | rg fr wh e b xs=>exact x.rd (t:=.gs wh e) h
 | any=>exact h
theorem ma(x:VX V hp w V' aH w'){cs:List C}{vs:List Value}(h:bz V hp w cs vs):bz V' aH w' cs vs :=
 ⟨h.1,fun j c v hc hv=>C.ka x (h.2 j c v hc hv)⟩
theorem Mb(x:VX V hp w V' aH w'){y:Bool×List C}{v:Value}(h:eZ V hp w y v):eZ V' aH w' y v:=by
 unfold eZ at *
 split
 ·rename_i hy
  rw[if_pos hy] at h
  obtain⟨vs,h1,h2⟩:=h
  exact⟨vs,h1,ma x h2⟩
 ·rename_i hy
  rw[if_neg hy] at h
  exact ma x h
theorem S.ka(x:VX V hp w V' aH w'){s:S}{v:Value}(h:S.ok V hp w s v):S.ok V' aH w' s v:=by
 cases s with
 | c y=>exact C.ka x h
 | agg cs=>obtain⟨vs,h1,h2⟩:=h;exact⟨vs,h1,ma x h2⟩
 | m_ xs=>obtain⟨vs,h1,h2,h3⟩:=h;exact⟨vs,h1,h2,fun j y v hy hv=>Mb x (h3 j y v hy hv)⟩
 | ew=>exact h
 | any=>exact h
 | arr e xs=>obtain⟨hf,vs,h1,h2,h3⟩:=h;exact⟨hf,vs,h1,h2,fun i hi=>by obtain⟨es,k1,k2,k3⟩:=h3 i hi;exact⟨es,k1,k2,k3.flat hf⟩⟩
theorem S.sX{V V':Vl}{hp aH:Nat->ax}{w w':World}{e:Ty}{xs:List e.den}{v:Value}(h:S.ok V hp w (.arr e xs) v):S.ok V' aH w' (.arr e xs) v:=by
 obtain⟨hf,vs,h1,h2,h3⟩:=h
 exact⟨hf,vs,h1,h2,fun i hi=>by obtain⟨es,k1,k2,k3⟩:=h3 i hi;exact⟨es,k1,k2,k3.flat hf⟩⟩
theorem ax.ka(x:VX V hp w V' aH w'){n:Nat}(h:(hp n).ok V hp w n)(hb:∀ cs,hp n = .bx cs->V.has n)(hl:(hp n).live=true):(aH n).ok V' aH w' n:=by
 obtain⟨e1,e2,e3⟩:=x.nm n hl
 rw[e3]
 cases he:hp n with
 | dead=>trivial
 | bx cs =>
   rw[he] at h
   obtain⟨aq,el,h1,h2⟩:=h
   exact⟨aq,el,by rw[e1,x.KL n hl (hb cs he)];exact h1,ma x h2⟩
 | row fr e xs =>
   rw[he] at h
   rcases h with ⟨h1,h2⟩|⟨h1,aq,el,h2,h3,h4⟩
   ·exact .inl ⟨fun h=>h1 (e2.1 h),h2⟩
   ·refine .inr ⟨e2.2 h1,aq,el,by rw[e1,x.KL n hl h1];exact h2,h3,fun i hi=>?_⟩
    obtain⟨es,h5,h6,h7⟩:=h4 i hi
    exact⟨es,h5,h6,x.rd h7⟩
end
theorem C.cO{V:Vl}{hp:Nat->ax}{w:World}:∀ {c:C} {v:Value},C.ok V hp w c v->v.oneCell'=true:=by
 intro c v h
 cases c with
 | val u=>obtain⟨rfl,h⟩:=h;cases v<;>first|rfl|exact h.elim
 | gi=>rw[show v=_ from h];rfl
 | ga=>rw[show v=_ from h];rfl
 | rd fr e xs=>exact aF.cO (t:=.sl e) h v (by simp)
 | own n =>
   obtain⟨fr,e,xs,h1,h2|h2⟩:=h
   ·rw[h2.2.1];rfl
   ·obtain⟨_,cap,aq,el,h3,_⟩:=h2;rw[h3];rfl
 | pre n k =>
   obtain⟨fr,e,xs,h1,_,h2|h2⟩:=h
   ·rw[h2.2.1];rfl
   ·obtain⟨_,cap,aq,el,h3,_⟩:=h2;rw[h3];rfl
 | eE n e xs=>exact aF.cO (t:=.sl e) h.2 v (by simp)
 | box n off=>rw[h.1];rfl
 | iY n len=>obtain⟨cap,h1,_⟩:=h;rw[h1.1];rfl
 | at_ fr t d off=>obtain⟨b,o,h1,_⟩:=h;rw[h1];rfl
 | dL n i off=>obtain⟨_,fr,e,xs,_,_,h1⟩:=h;rw[h1];rfl
 | fn f di=>rw[h.1];rfl
 | bZ fr f t d=>exact aF.cO (t:=.bZ f t) h v (by simp)
 | rg fr wh e b xs=>exact aF.cO (t:=.gs wh e) h v (by simp)
 | any=>exact h
section
variable {V : Vl} {hp : Nat → ax} {w : World}
theorem cF{c:C}{cs:List C}{vs:List Value}(h:bz V hp w (c::cs) vs):∃ v bO,vs=v::bO/\C.ok V hp w c v/\bz V hp w cs bO:=by
 obtain⟨h1,h2⟩:=h
 cases vs with
 | nil=>simp at h1
 | cons v bO=>exact⟨v,bO,rfl,h2 0 c v rfl rfl,by simpa using h1,fun j c' v' hc hv=>h2 (j+1) c' v' (by simpa using hc) (by simpa using hv)⟩
theorem ca:bz V hp w [] []:=⟨rfl,fun j c v h=>by simp at h⟩
theorem bd{c:C}{cs:List C}{v:Value}{vs:List Value}(h:C.ok V hp w c v)(k:bz V hp w cs vs):bz V hp w (c::cs) (v::vs):=by
 refine⟨by simp[k.1],fun j c' v' hc hv=>?_⟩
 cases j with
 | zero=>simp at hc hv;subst hc;subst hv;exact h
 | succ j=>exact k.2 j c' v' (by simpa using hc) (by simpa using hv)
theorem gq{cs ds:List C}{vs us:List Value}(h:bz V hp w cs vs)(k:bz V hp w ds us):bz V hp w (cs++ds) (vs++us):=by
 induction cs generalizing vs with
 | nil=>obtain⟨h1,_⟩:=h;cases vs with|nil=>exact k|cons v vs=>simp at h1
 | cons c cs ih=>obtain⟨v,bO,rfl,h1,h2⟩:=cF h;exact bd h1 (ih h2)
theorem kv{cs:List C}{vs:List Value}(h:bz V hp w cs vs)(n:Nat):bz V hp w (cs.take n) (vs.take n) :=
 ⟨by simp[h.1],fun j c v hc hv=>by
   rw[List.getElem?_take] at hc hv
   split at hc
   ·rename_i hj;rw[if_pos hj] at hv;exact h.2 j c v hc hv
   ·cases hc⟩
theorem ku{cs:List C}{vs:List Value}(h:bz V hp w cs vs)(n:Nat):bz V hp w (cs.drop n) (vs.drop n) :=
 ⟨by simp[h.1],fun j c v hc hv=>by
   rw[List.getElem?_drop] at hc hv
   exact h.2 _ c v hc hv⟩
theorem gg(fr:Bool):∀(t:Ty) {d:t.den} {vs:List Value},aF (V.Z fr) w t vs d->bz V hp w (expand fr t d) vs:=by
 intro t
 induction t with
 | int k=>intro d vs h;rw[h.1];exact bd ⟨rfl,h.2⟩ ca
 | bool=>intro d vs h;rw[show vs=_ from h];exact bd ⟨rfl,trivial⟩ ca
 | str=>intro d vs h;rw[h.1];exact bd ⟨rfl,h.2⟩ ca
 | sl e ih =>
   intro d vs h
   have h':=h
   obtain⟨a,cap,h1,_⟩:=h
   subst h1
   exact bd h' ca
 | st t ih=>exact fun h=>ih h
 | pr a b fy fA =>
   intro d vs h
   obtain⟨c1,c2,rfl,h2,h3⟩:=h
   show bz V hp w (cM _ _) _
   rw[bT]
   exact gq (fy h2) (fA h3)
 | ptr t ih =>
   intro d vs h
   obtain⟨b,o,h1,h2,es,h3,h4,h5⟩:=h
   subst h1
   exact bd ⟨b,o,rfl,h2,es,h3,h4,h5⟩ ca
 | bZ f t ih =>
   intro d vs h
   have h':=h
   obtain⟨di,h1,_⟩:=h
   subst h1
   exact bd h' ca
 | gs wh e ih =>
   intro d vs h
   have h':=h
   obtain⟨⟨a,cap,h1,_⟩,_⟩:=h
   subst h1
   exact bd (c:=.rg fr wh e d.1 d.2) h' ca
theorem IQ(e:Ty)(xs:List e.den):(gG e xs).length=xs.length:=by simp[gG]
theorem xo{Z:Nat->Prop}{wh:Bool}{e:Ty}{cs:List Value}{b:Nat}{xs:List e.den}(h:aF Z w (.gs wh e) cs (b,xs)):aF Z w (.sl e) cs xs:=h.1
theorem Oy{Z:Nat->Prop}{wh sg:Bool}{e:Ty}{cs:List Value}{d:Nat×List e.den}(hw:wh=true->sg=true)(h:aF Z w (.gs sg e) cs d):aF Z w (.gs wh e) cs d:=⟨h.1,h.2.1,fun k=>h.2.2 (hw k)⟩
theorem aF.Vc{Z:Nat->Prop}{e:Ty}{cs:List Value}{xs:List e.den}(h:aF Z w (.sl e) cs xs):aF Z w (.sl e.cc) cs (gG e xs):=aF.un (.sl e) h
theorem oY{Z:Nat->Prop}{e' e:Ty}{cs:List Value}{xs:List e'.den}{ys:List e.den}(h:aF Z w (.sl e') cs xs)(k:kS e' e xs=some ys):aF Z w (.sl e) cs ys:=by
 unfold kS at k
 split at k
 ·rename_i hk;subst hk;injection k with k;subst k;exact h
 ·split at k
  ·rename_i hk;subst hk;injection k with k;subst k;exact h.Vc
  ·cases k
theorem nP{e' e:Ty}{xs:List e'.den}{ys:List e.den}(k:kS e' e xs=some ys):ys.length=xs.length:=by
 unfold kS at k
 split at k
 ·rename_i hk;subst hk;injection k with k;subst k;rfl
 ·split at k
  ·rename_i hk;subst hk;injection k with k;subst k;exact IQ e' xs
  ·cases k
theorem tT{e' e:Ty}{xs:List e'.den}{ys:List e.den}(k:kS e' e xs=some ys):e'.size=e.size/\e'.flat=e.flat:=by
 unfold kS at k
 split at k
 ·rename_i hk;rw[hk];exact⟨rfl,rfl⟩
 ·split at k
  ·rename_i hk;rw[<-hk];exact⟨(bJ e').symm,(uY e').symm⟩
  ·cases k
theorem KN{Z:Nat->Prop}{e' e:Ty}{xs:List e'.den}{ys:List e.den}(k:kS e' e xs=some ys){i:Nat}(hi:i<ys.length){es:List Value}(h:aF Z w e' es (xs[i]'(by rw[<-nP k];exact hi))):aF Z w e es ys[i]:=by
 unfold kS at k
 split at k
 ·rename_i hk;subst hk;injection k with k;subst k;exact h
 ·split at k
  ·rename_i hk;subst hk;injection k with k;subst k
   have:(gG e' xs)[i]'hi=bu e' (xs[i]'(by rw[<-IQ e' xs];exact hi)):=by simp[gG]
   show aF Z w e'.cc es ((gG e' xs)[i]'hi)
   rw[this]
   exact aF.un e' h
  ·cases k
def gH(_:Nat):Prop:=True
theorem aF.any{Z:Nat->Prop}{t:Ty}{cs:List Value}{d:t.den}(h:aF Z w t cs d):aF gH w t cs d:=h.mono (fun _ _=>trivial) (fun _ _=>rfl)
end
structure Xw (P:Program) (t:TypeId) (ti:TI):Prop where
 size:(sizeOf t).run P=fun w=>.ok ti.size w
 len:ti.zero.length=ti.size
end Go.SX
/- Contracts: what a function that writes to memory of its own alone takes and hands back. No condition. -/
namespace Go.SX
open Go.RowKit
set_option linter.unusedVariables false
def iW(t:Ty)(cs:List Value)(v:Value):Prop:=if jt t then v = .agg cs.toArray else cs=[v]
def pW(Z:Nat->Prop)(w:World)(t:Ty)(v:Value)(d:t.den):Prop:=∃ cs,iW t cs v/\aF Z w t cs d
def cG(Z:Nat->Prop)(w:World):(ts:List Ty)->List Value->aY ts->Prop
 | [],vs,_=>vs=[]
 | [t],vs,d=>∃ v,vs=[v]/\pW Z w t v d
 | t::u::r,vs,d=>∃ v bO,vs=v::bO/\pW Z w t v d.1/\cG Z w (u::r) bO d.2
def jO(Z:Nat->Prop)(w:World)(e:Ty)(aq:Array Value)(xs:List e.den):Prop :=
 ∀ i (h:i<xs.length),∃ es,es.length=e.size/\(∀ j u,es[j]? = some u->aq[i*e.size+j]? = some u)/\aF Z w e es xs[i]
def fQ(Z:Nat->Prop)(w:World):(t:Ty)->List Value->t.den->List (Option Nat)->Prop
 | .sl e,cs,xs,bs=>(cs=[.slice none 0 0]/\xs=[]/\bs=[none]) ∨
    ∃ b cap aq el,cs=[.slice (some ⟨b,0,none⟩) xs.length cap]/\bs=[some b]/\w.heap[b]? = some (.cells aq el (0,0))/\aq.size=cap*e.size/\xs.length<=cap ∧
     xs.length<=cX/\jO Z w e aq xs
 | .st t,cs,d,bs=>fQ Z w t cs d bs
 | .pr a b,cs,d,bs=>∃ c1 c2 b1 b2,cs=c1++c2/\bs=b1++b2/\fQ Z w a c1 d.1 b1/\fQ Z w b c2 d.2 b2
 | .int k,cs,d,bs=>aF Z w (.int k) cs d/\bs=[]
 | .bool,cs,d,bs=>aF Z w .bool cs d/\bs=[]
 | .ptr _,_,_,_=>False
 | .bZ _ _,_,_,_=>False
 | .gs _ _,_,_,_=>False
 | .str,cs,d,bs=>aF Z w .str cs d/\bs=[]
def zI(Z:Nat->Prop)(w:World)(t:Ty)(v:Value)(d:t.den)(bs:List (Option Nat)):Prop:=∃ cs,iW t cs v/\fQ Z w t cs d bs
def dw(Z:Nat->Prop)(w:World):(ts:List Ty)->List Value->aY ts->List (Option Nat)->Prop
 | [],vs,_,bs=>vs=[]/\bs=[]
 | [t],vs,d,bs=>∃ v,vs=[v]/\zI Z w t v d bs
 | t::u::r,vs,d,bs=>∃ v bO b1 b2,vs=v::bO/\bs=b1++b2/\zI Z w t v d.1 b1/\dw Z w (u::r) bO d.2 b2
def e_(vs:List Value):Value:=match vs with|[v]=>v|vs=>.tuple vs.toArray
def pa:LM:=⟨fun _=>False,fun _ _=>False,fun _=>True,fun _ h=>h.elim,fun _=>False⟩
structure oD (w w':World) (ts:List Ty) (v:Value) (d:aY ts):Prop where
 ex:∃(Z1:Nat->Prop) (bs:List (Option Nat)) (vs:List Value),v=e_ vs/\dw Z1 w' ts vs d bs/\(bs.filterMap id).Nodup ∧
  (∀ b,some b∈bs->w.heap.size<=b/\b<w'.heap.size/\¬Z1 b)/\(∀ b,Z1 b->w.heap.size<=b/\b<w'.heap.size)
 kept:Kept w.heap.size pa w w'
def rq(P:Program)(f:FuncId)(c:PC):Prop :=
 ∀(w:World) (args:List Value) (d:aY c.ts),cG gH w c.ts args d->c.pre d →
  Calls P f args.toArray w fun e w'=>∃ v,e = .returned v/\oD w w' c.rs v (c.F d)
section
variable {V : Vl} {hp : Nat → ax} {w : World}
theorem wX{n h:Nat}{fr:Bool}{e:Ty}{xs:List e.den}{v:Value}(he:(ax.row fr e xs).ok V hp w n)(hr:cR V w n e h v)(hh:h<=xs.length) :
 aF (fun b=>V.Z fr b\/(V.has n/\b=V.aE n)) w (.sl e) [v] (xs.take h):=by
 have hlen:(xs.take h).length=h:=by rw[List.length_take];omega
 rcases hr with ⟨h1,rfl,rfl⟩|⟨h1,cap,aq,el,rfl,h3,h4,h5⟩
 ·exact⟨none,0,by simp,by simp,by simp,fun i hi=>by simp at hi⟩
 ·rcases he with ⟨k1,_⟩|⟨_,bn,eg,k2,k3,k4⟩
  ·exact absurd h1 k1
  ·rw[k2] at h3
   injection h3 with h3
   injection h3 with e1 e2 e3
   subst e1
   refine⟨_,cap,by rw[hlen],by rw[hlen];exact h5,by rw[hlen];omega,fun i hi=>?_⟩
   rw[hlen] at hi
   obtain⟨es,k5,k6,k7⟩:=k4 i (by omega)
   refine⟨_,rfl,rfl,.inr ⟨h1,rfl⟩,es,k5,fun j hj=>?_,?_⟩
   ·simp only[World.cell?,k2,Nat.zero_add]
    exact k6 j _ (List.getElem?_eq_getElem hj)
   ·rw[List.getElem_take]
    exact k7.mono (fun b hb=>.inl hb) (fun _ _=>rfl)
def gW(V:Vl)(hp lk:Nat->ax)(w:World):Prop:=∀ n,(lk n).live=true->lk n=hp n/\(lk n).ok V hp w n
theorem bX{α:Type}{f:C->Option α}{cs r:List C}{x:α}(h:kq f cs=some (x,r)):∃ c,cs=c::r/\f c=some x:=by
 cases cs with
 | nil=>cases h
 | cons c cs =>
   unfold kq at h
   cases hf:f c with
   | none=>simp[hf] at h
   | some y=>simp[hf] at h;exact⟨c,by rw[h.2],by rw[<-h.1];exact hf⟩
theorem uO{k:IntKind}{c:C}{n:Int}{v:Value}(h:D7 k c=some n)(ho:C.ok V hp w c v):v = .int k n/\k.min<=n/\n<=k.max:=by
 unfold D7 at h
 split at h
 ·split at h
  ·rename_i hk;injection h with h;subst h;subst hk;exact⟨ho.1,ho.2⟩
  ·cases h
 ·cases h
theorem wT{c:C}{b:Bool}{v:Value}(h:rdBool c=some b)(ho:C.ok V hp w c v):v = .bool b:=by
 unfold rdBool at h
 split at h<;>first|(injection h with h;subst h;first|exact ho.1|exact ho)|cases h
theorem kc{c:C}{s:ByteArray}{v:Value}(h:rdStr c=some s)(ho:C.ok V hp w c v):v = .string s/\s.size<=maxLen:=by
 unfold rdStr at h
 split at h
 ·injection h with h;subst h;exact⟨ho.1,ho.2⟩
 ·cases h
theorem IE{lk:Nat->ax}(hl:gW V hp lk w){e:Ty}{c:C}{xs:List e.den}{v:Value}(h:oc lk e c=some xs)(ho:C.ok V hp w c v):aF gH w (.sl e) [v] xs:=by
 unfold oc at h
 split at h
 ·exact (oY ho h).any
 ·split at h
  ·rename_i hk;subst hk;injection h with h;subst h;exact ho.2.any
  ·cases h
 ·rename_i n
  split at h
  ·rename_i e' a_ hn
   obtain⟨h1,h2⟩:=hl n (by rw[hn];rfl)
   obtain⟨fr,e2,kK,h3,h4⟩:=ho
   rw[<-h1,hn] at h3
   injection h3 with e1 e2 e3
   subst e1;subst e2;cases e3
   rw[hn] at h2
   have:=wX h2 h4 (Nat.le_refl _)
   rw[List.take_length] at this
   exact (oY this h).any
  ·cases h
 ·rename_i n m
  split at h
  ·rename_i e' a_ hn
   obtain⟨h1,h2⟩:=hl n (by rw[hn];rfl)
   obtain⟨fr,e2,kK,h3,h5,h4⟩:=ho
   rw[<-h1,hn] at h3
   injection h3 with e1 e2 e3
   subst e1;subst e2;cases e3
   rw[hn] at h2
   exact (oY (wX h2 h4 h5) h).any
  ·cases h
 ·exact (oY (xo ho) h).any
 ·injection h with h;subst h
  rw[ho.1]
  exact aF.zero (.sl e) rfl
 ·cases h
theorem Ga{fr wh:Bool}{e:Ty}{c:C}{d:Nat×List e.den}{v:Value}(h:Mp wh e c=some d)(ho:C.ok V hp w c v)(hf:fr=true->c.ek=true):aF (V.Z fr) w (.gs wh e) [v] d:=by
 unfold Mp at h
 split at h
 ·rename_i aV sg e' b xs
  split at h
  ·rename_i hk;subst hk
   split at h
   ·cases h
   ·rename_i Lx
    injection h with h;subst h
    have b5:aF (V.Z aV) w (.gs sg e') [v] (b,xs):=ho
    refine (Oy (fun hw=>by cases sg<;>simp_all) b5).mono (fun b' hb=>?_) (fun _ _=>rfl)
    cases fr with
    | false=>exact Vl.cN hb
    | true=>rw[show aV=true from hf rfl] at hb;exact hb
  ·cases h
 ·injection h with h;subst h
  rw[ho.1]
  exact aF.zero (.gs wh e) rfl
 ·cases h
theorem Sl{wh:Bool}{e:Ty}{c:C}{d:Nat×List e.den}{v:Value}(h:Mp wh e c=some d)(ho:C.ok V hp w c v):aF gH w (.gs wh e) [v] d:=(Ga (fr:=false) h ho (fun h=>by cases h)).any
theorem u5{α:Type}{o:Option (α×List C)}{d:α}(h:whole o=some d):o=some (d,[]):=by
 unfold whole at h
 split at h
 ·injection h with h;subst h;rfl
 ·cases h
theorem NW{lk:Nat->ax}(hl:gW V hp lk w):∀(t:Ty) {cs:List C} {d:t.den} {rest:List C} {vs:List Value},gA lk t cs=some (d,rest)->bz V hp w cs vs →
 ∃ us ws,vs=us++ws/\aF gH w t us d/\bz V hp w rest ws:=by
 intro t
 induction t with
 | int k =>
   intro cs d rest vs h ho
   obtain⟨c,rfl,hc⟩:=bX h
   obtain⟨v,bO,rfl,h1,h2⟩:=cF ho
   obtain⟨h3,h4⟩:=uO hc h1
   exact⟨[v],bO,rfl,⟨by rw[h3],h4⟩,h2⟩
 | bool =>
   intro cs d rest vs h ho
   obtain⟨c,rfl,hc⟩:=bX h
   obtain⟨v,bO,rfl,h1,h2⟩:=cF ho
   exact⟨[v],bO,rfl,by rw[wT hc h1];exact rfl,h2⟩
 | str =>
   intro cs d rest vs h ho
   obtain⟨c,rfl,hc⟩:=bX h
   obtain⟨v,bO,rfl,h1,h2⟩:=cF ho
   obtain⟨h3,h4⟩:=kc hc h1
   exact⟨[v],bO,rfl,⟨by rw[h3],h4⟩,h2⟩
 | sl e ih =>
   intro cs d rest vs h ho
   obtain⟨c,rfl,hc⟩:=bX h
   obtain⟨v,bO,rfl,h1,h2⟩:=cF ho
   exact⟨[v],bO,rfl,IE hl hc h1,h2⟩
 | st t ih=>exact fun h ho=>ih h ho
 | pr a b fy fA =>
   intro cs d rest vs h ho
   unfold gA at h
   cases ha:gA lk a cs with
   | none=>simp[ha] at h
   | some x =>
     obtain⟨x,r⟩:=x
     simp only[ha] at h
     cases hb:gA lk b r with
     | none=>simp[hb] at h
     | some y =>
       obtain⟨y,r'⟩:=y
       simp only[hb,Option.some.injEq,Prod.mk.injEq] at h
       obtain⟨rfl,rfl⟩:=h
       obtain⟨us,ws,rfl,h1,h2⟩:=fy ha ho
       obtain⟨MF,SJ,rfl,h3,h4⟩:=fA hb h2
       exact⟨us++MF,SJ,by rw[List.append_assoc],⟨us,MF,rfl,h1,h3⟩,h4⟩
 | ptr t ih =>
   intro cs d rest vs h ho
   obtain⟨c,rfl,hc⟩:=bX h
   obtain⟨v,bO,rfl,h1,h2⟩:=cF ho
   refine⟨[v],bO,rfl,?_,h2⟩
   unfold Kb at hc
   split at hc
   ·split at hc
    ·rename_i hk;subst hk;injection hc with hc;subst hc
     obtain⟨b,o,e1,e2,es,e3,e4,e5⟩:=h1
     exact⟨b,o,by rw[e1,Nat.add_zero],trivial,es,e3,e4,e5.any⟩
    ·cases hc
   ·rename_i n
    split at hc
    ·rename_i cp hn
     obtain⟨e1,e2⟩:=hl n (by rw[hn];rfl)
     rw[hn] at e2
     obtain⟨aq,el,e3,e4⟩:=e2
     obtain⟨us,ws,e5,e6,e7⟩:=ih (u5 hc) e4
     have:ws=[]:=by
      have:=e7.1
      cases ws with
      | nil=>rfl
      | cons _ _=>cases this
     subst this
     rw[List.append_nil] at e5
     refine⟨V.aE n,0,by rw[h1.1],trivial,us,e6.length,fun j hj=>?_,e6⟩
     simp only[World.cell?,e3,Nat.zero_add]
     have kZ:j<aq.size:=by rw[<-e5] at hj;simpa using hj
     have hu:us[j]=aq[j]:=by simp[<-e5]
     rw[hu]
     exact Array.getElem?_eq_getElem kZ
    ·cases hc
   ·cases hc
 | bZ f t ih =>
   intro cs d rest vs h ho
   obtain⟨c,rfl,hc⟩:=bX h
   obtain⟨v,bO,rfl,h1,h2⟩:=cF ho
   refine⟨[v],bO,rfl,?_,h2⟩
   unfold Ka at hc
   split at hc
   ·split at hc
    ·rename_i hf
     split at hc
     ·rename_i hk;subst hk;subst hf;injection hc with hc;subst hc
      exact aF.any (t:=.bZ _ _) h1
     ·cases hc
    ·cases hc
   ·rename_i f' ns
    split at hc
    ·rename_i hf
     subst hf
     obtain⟨k1,k2⟩:=h1
     have eB:bz V hp w (lmap (fun n=>C.box n 0) ns) (ns.map fun n=>Value.pointer (some ⟨V.aE n,0,none⟩)):=by
      rw[bt]
      refine⟨by simp,fun j c u hc hu=>?_⟩
      rw[List.getElem?_map] at hc hu
      cases hn:ns[j]? with
      | none=>rw[hn] at hc;cases hc
      | some n =>
        rw[hn] at hc hu
        simp only[Option.map_some,Option.some.injEq] at hc hu
        subst hc;subst hu
        obtain⟨k3,k4⟩:=k2 n (List.mem_of_getElem? hn)
        exact⟨rfl,k3,k4⟩
     obtain⟨us,ws,e5,e6,e7⟩:=ih (u5 hc) eB
     have:ws=[]:=by
      have:=e7.1
      cases ws with
      | nil=>rfl
      | cons _ _=>cases this
     subst this
     rw[List.append_nil] at e5
     exact⟨_,by rw[k1],by rw[e5];exact e6⟩
    ·cases hc
   ·cases hc
 | gs wh e ih =>
   intro cs d rest vs h ho
   obtain⟨c,rfl,hc⟩:=bX h
   obtain⟨v,bO,rfl,h1,h2⟩:=cF ho
   exact⟨[v],bO,rfl,Sl hc h1,h2⟩
theorem A3{lk:Nat->ax}(hl:gW V hp lk w){t:Ty}{cs:List C}{d:t.den}{vs:List Value}(h:readAll lk t cs=some d)(ho:bz V hp w cs vs):aF gH w t vs d:=by
 unfold readAll at h
 split at h
 ·rename_i d' hr
  injection h with h;subst h
  obtain⟨us,ws,rfl,h1,h2⟩:=NW hl t hr ho
  have:ws=[]:=by have:=h2.1;simp at this;exact List.length_eq_zero_iff.1 this.symm
  rw[this,List.append_nil]
  exact h1
 ·cases h
theorem Gc{lk:Nat->ax}(hl:gW V hp lk w){t:Ty}{s:S}{d:t.den}{v:Value}(h:lu lk t s=some d)(ho:S.ok V hp w s v):pW gH w t v d:=by
 unfold lu at h
 split at h
 ·rename_i x
  split at h
  ·cases h
  ·rename_i ht
   exact⟨[v],by simp[iW,ht],A3 hl h (bd ho ca)⟩
 ·rename_i cs
  split at h
  ·rename_i ht
   obtain⟨vs,rfl,h1⟩:=ho
   exact⟨vs.toList,by simp[iW,ht],A3 hl h h1⟩
  ·cases h
 ·cases h
theorem lg{lk:Nat->ax}(hl:gW V hp lk w):∀(ts:List Ty) {ss:List S} {d:aY ts} {vs:List Value},dP lk ts ss=some d->ss.length=vs.length →
 (∀(i:Nat) s v,ss[i]? = some s->vs[i]? = some v->S.ok V hp w s v)->cG gH w ts vs d:=by
 intro ts
 induction ts with
 | nil =>
   intro ss d vs h hlen ho
   cases ss with
   | nil=>cases vs with|nil=>exact rfl|cons v vs=>simp at hlen
   | cons s ss=>cases h
 | cons t r ih =>
   intro ss d vs h hlen ho
   cases ss with
   | nil=>cases r<;>cases h
   | cons s ss =>
     cases vs with
     | nil=>simp at hlen
     | cons v vs =>
       have hs:=ho 0 s v rfl rfl
       cases r with
       | nil =>
         cases ss with
         | nil =>
           cases vs with
           | nil=>exact⟨v,rfl,Gc hl h hs⟩
           | cons v' vs=>simp at hlen
         | cons s' ss=>cases h
       | cons u r =>
         unfold dP at h
         cases h1:lu lk t s with
         | none=>simp[h1] at h
         | some x =>
           simp only[h1] at h
           cases h2:dP lk (u::r) ss with
           | none=>simp[h2] at h
           | some y =>
             simp only[h2,Option.some.injEq] at h
             subst h
             exact⟨v,vs,rfl,Gc hl h1 hs,ih h2 (by simpa using hlen) (fun i s' v' hi hv=>ho (i+1) s' v' (by simpa using hi) (by simpa using hv))⟩
end
end Go.SX
/- What the executor is told of the program's types, held against the program; how the operations on memory run. No condition. -/
namespace Go.SX
open Go.RowKit
set_option linter.unusedVariables false
def kg:TypeDesc->Bool
 | .struct _ | .array _ _=>true
 | _=>false
def zb:Value->Value->Bool
 | .int k n,.int k' m=>k == k'&&n == 0&&m == 0
 | .bool a,.bool b=>a == false&&b == false
 | .string s,.string r=>s.size == 0&&r.size == 0
 | .slice none 0 0,.slice none 0 0=>true
 | .pointer none,.pointer none=>true
 | _,_=>false
theorem vj{s:ByteArray}(h:s.size=0):s=ByteArray.empty:=by
 cases s with
 | mk d =>
   have h':d.size=0:=h
   have:d = #[]:=Array.eq_empty_of_size_eq_zero h'
   subst this
   rfl
theorem Tl{u v:Value}(h:zb u v=true):u=v:=by
 unfold zb at h
 split at h
 ·simp only[Bool.and_eq_true,beq_iff_eq] at h;rw[h.1.1,h.1.2,h.2]
 ·simp only[Bool.and_eq_true,beq_iff_eq] at h;rw[h.1,h.2]
 ·rename_i s r
  simp only[Bool.and_eq_true,beq_iff_eq] at h
  rw[vj h.1,vj h.2]
 ·rfl
 ·rfl
 ·cases h
theorem qy(k:IntKind):k.min<=0/\0<=k.max:=by cases k<;>decide
theorem Qk{u v:Value}(h:zb u v=true)(V:Vl)(hp:Nat->ax)(w:World):C.ok V hp w (cell v) v:=by
 unfold zb at h
 split at h
 ·simp only[Bool.and_eq_true,beq_iff_eq] at h
  rw[h.2]
  unfold cell
  simp only
  rw[if_pos (qy _)]
  exact⟨rfl,qy _⟩
 ·simp only[Bool.and_eq_true,beq_iff_eq] at h
  rw[h.2]
  exact rfl
 ·rename_i s r
  simp only[Bool.and_eq_true,beq_iff_eq] at h
  have hs:r.size<=maxLen:=by rw[h.2];exact Nat.zero_le _
  unfold cell
  simp only
  rw[if_pos hs]
  exact⟨rfl,hs⟩
 ·exact⟨rfl,rfl,rfl,rfl⟩
 ·exact⟨rfl,trivial⟩
 ·cases h
def G9:List Value->List Value->Bool
 | [],[]=>true
 | u::us,v::vs=>zb u v&&G9 us vs
 | _,_=>false
theorem G_:∀ {us vs:List Value},G9 us vs=true->us=vs
 | [],[],_=>rfl
 | u::us,v::vs,h=>by
   have h':(zb u v&&G9 us vs)=true:=h
   simp only[Bool.and_eq_true] at h'
   rw[Tl h'.1,G_ h'.2]
 | [],_::_,h=>by cases h
 | _::_,[],h=>by cases h
theorem Dm(V:Vl)(hp:Nat->ax)(w:World):∀ {us vs:List Value},G9 us vs=true->bz V hp w (lmap cell vs) vs
 | [],[],_=>ca
 | u::us,v::vs,h=>by
   have h':(zb u v&&G9 us vs)=true:=h
   simp only[Bool.and_eq_true] at h'
   exact bd (Qk h'.1 V hp w) (Dm V hp w h'.2)
 | [],_::_,h=>by cases h
 | _::_,[],h=>by cases h
def AF(P:Program)(t:TypeId)(size bytes:Nat)(zero:List Value):Bool :=
 match P.info? t with
 | some i=>i.size == size&&i.bytes == bytes&&(match i.zero with|some z=>G9 z.cells.toList zero|none=>false)
 | none=>false
def nZ(P:Program):List Field->List (Nat×Nat×Bool)->Bool
 | [],[]=>true
 | f::fs,x::xs =>
   f.offset == x.1&&x.2.1 != 0&&(match P.info? f.type with|some i=>i.size == x.2.1|none=>false) &&
    (match P.underlying f.type with|some d=>kg d == x.2.2|none=>false)&&nZ P fs xs
 | _,_=>false
def ib(P:Program)(t:TypeId):TK->Bool
 | .int k=>match P.underlying t with|some (.int k')=>k' == k|_=>false
 | .bool=>match P.underlying t with|some .bool=>true|_=>false
 | .str=>match P.underlying t with|some .string=>true|_=>false
 | .sl e es eb c6=>(match P.underlying t with|some (.slice e')=>e' == e|_=>false)&&es == c6.size&&AF P e es eb c6.iX
 | .st fs=>match P.underlying t with|some (.struct fields)=>nZ P fields.toList fs|_=>false
 | .arr len te es n c6=>(match P.underlying t with|some (.array U2 Xl)=>U2 == len&&Xl == te|_=>false)&&(match P.info? te with|some i=>i.size == es|none=>false) &&
    c6.flat&&c6.plain&&n*c6.size == len*es&&es%c6.size == 0&&(n != 0&&Nat.ble n 16777216)
 | .sc=>match P.underlying t with|some d=>!kg d|_=>false
 | .IC e=>(match P.underlying t with|some (.slice e')=>e' == e|_=>false)&&AF P e 1 8 [.pointer none]
def Ad (P : Program) : Nat → List Field → List Bool → Bool
  | _, [], [] => true
  | o, f :: fs, b :: bs =>
    f.name != "_" && f.offset == o && (match P.underlying f.type with | some (.int _) => !b | some .bool => b | _ => false) && Ad P (o + 1) fs bs
  | _, _, _ => false
def QM(P:Program)(t:TypeId)(ks:List Bool):Bool :=
 match P.underlying t with
 | some (.struct fs)=>!P.stoodInHeld t&&!P.eqGuardType P.depth t&&Ad P 0 fs.toList ks
 | _=>false
def iD:Nat->Ty->List Value
 | 0,_=>[]
 | n+1,e=>e.iX++iD n e
def vy(P:Program)(t:TypeId)(ti:TI):Bool:=(match ti.k with | .arr _ _ _ n c6=>G9 ti.zero (iD n c6)|_=>true)&&(AF P t ti.size ti.bytes ti.zero&&ti.zero.length == ti.size&&ib P t ti.k&&(match ti.eq with|some ks=>QM P t ks|none=>true))
def D9:List (Nat×TI)->bN
 | [],_=>none
 | (k,v)::r,t=>if k=t then some v else D9 r t
def N1(P:Program):List (Nat×TI)->Bool
 | []=>true
 | p::r=>vy P p.1 p.2&&N1 P r
def bP(P:Program)(T:bN):Prop:=∀ t ti,T t=some ti->vy P t ti=true
theorem Gw{P:Program}:∀ {l:List (Nat×TI)},N1 P l=true->bP P (D9 l)
 | [],_=>fun _ _ h=>by cases h
 | (k,v)::r,h=>by
   have h':(vy P k v&&N1 P r)=true:=h
   simp only[Bool.and_eq_true] at h'
   intro t ti ht
   unfold D9 at ht
   split at ht
   ·rename_i hk;injection ht with ht;subst hk;subst ht;exact h'.1
   ·exact Gw h'.2 t ti ht
section
variable {P : Program}
theorem y_{t:TypeId}{size bytes:Nat}{zero:List Value}(h:AF P t size bytes zero=true) :
 ∃ i z,P.info? t=some i/\i.size=size/\i.bytes=bytes/\i.zero=some z/\z.cells=zero.toArray/\∀ V hp w,bz V hp w (lmap cell zero) zero:=by
 unfold AF at h
 split at h
 ·rename_i i hi
  simp only[Bool.and_eq_true,beq_iff_eq] at h
  obtain⟨⟨h1,h2⟩,h3⟩:=h
  split at h3
  ·rename_i z hz
   exact⟨i,z,hi,h1,h2,hz,by rw[<-G_ h3],fun V hp w=>Dm V hp w h3⟩
  ·cases h3
 ·cases h
theorem run_sizeOf{t:TypeId}{i:TypeInfo}(h:P.info? t=some i)(w:World):(sizeOf t).run P w = .ok i.size w:=by
 simp[sizeOf,typeInfo,h]
theorem jj{t:TypeId}{i:TypeInfo}{z:Value}(h:P.info? t=some i)(hz:i.zero=some z)(w:World):(zeroValue t).run P w = .ok z w:=by
 simp[zeroValue,typeInfo,h,hz]
theorem pj{t:TypeId}{d:TypeDesc}(h:P.underlying t=some d)(w:World):(isAgg t).run P w = .ok (kg d) w:=by
 cases d<;>simp[isAgg,run_underlying h,kg]
def TI.agg(ti:TI):Bool:=match ti.k with | .st _=>true | .arr ..=>true|_=>false
theorem eQ{t:TypeId}{ti:TI}(h:vy P t ti=true) :
 (∃ i z,P.info? t=some i/\i.size=ti.size/\i.bytes=ti.bytes/\i.zero=some z/\z.cells=ti.zero.toArray/\∀ V hp w,bz V hp w (lmap cell ti.zero) ti.zero)/\ti.zero.length=ti.size/\ib P t ti.k=true:=by
 unfold vy at h
 simp only[Bool.and_eq_true,beq_iff_eq] at h
 exact⟨y_ h.2.1.1.1,h.2.1.1.2,h.2.1.2⟩
theorem Gz{t:TypeId}{ti:TI}(h:vy P t ti=true){len te es n:Nat}{c6:Ty}(hk:ti.k = .arr len te es n c6) :
 ti.zero=iD n c6/\P.underlying t=some (.array len te)/\(∃ i,P.info? te=some i/\i.size=es)/\c6.flat=true/\c6.plain=true/\n*c6.size=len*es/\es%c6.size=0/\n≠0/\n<=16777216:=by
 have mW:=(eQ h).2.2
 unfold vy at h
 simp only[Bool.and_eq_true,hk] at h
 rw[hk] at mW
 unfold ib at mW
 simp only[Bool.and_eq_true,beq_iff_eq,bne_iff_ne,ne_eq,Nat.ble_eq] at mW
 obtain⟨⟨⟨⟨⟨⟨a1,a2⟩,a3⟩,a4⟩,a5⟩,a6⟩,a7⟩:=mW
 refine⟨G_ h.1,?_,?_,a3,a4,a5,a6,a7⟩
 ·split at a1
  ·rename_i l t' he
   simp only[Bool.and_eq_true,beq_iff_eq] at a1
   rw[he,a1.1,a1.2]
  ·cases a1
 ·split at a2
  ·rename_i i he;exact⟨i,he,by simpa using a2⟩
  ·cases a2
theorem Tf{t:TypeId}{ti:TI}(h:vy P t ti=true){ks:List Bool}(hk:ti.eq=some ks):QM P t ks=true:=by
 unfold vy at h
 simp only[Bool.and_eq_true,hk] at h
 exact h.2.2
theorem MA{t:TypeId}{ti:TI}(h:vy P t ti=true):∃ d,P.underlying t=some d/\kg d=ti.agg:=by
 have hk:=(eQ h).2.2
 unfold ib at hk
 unfold TI.agg
 cases yl:ti.k with
 | int k=>rw[yl] at hk;simp only at hk;split at hk<;>first|(rename_i d _;exact⟨_,‹_›,rfl⟩)|cases hk
 | bool=>rw[yl] at hk;simp only at hk;split at hk<;>first|exact⟨_,‹_›,rfl⟩|cases hk
 | str=>rw[yl] at hk;simp only at hk;split at hk<;>first|exact⟨_,‹_›,rfl⟩|cases hk
 | sl e es eb c6 =>
   rw[yl] at hk;simp only[Bool.and_eq_true] at hk
   obtain⟨⟨h1,_⟩,_⟩:=hk
   split at h1<;>first|exact⟨_,‹_›,rfl⟩|cases h1
 | st fs=>rw[yl] at hk;simp only at hk;split at hk<;>first|exact⟨_,‹_›,rfl⟩|cases hk
 | arr len te es n c6 =>
   rw[yl] at hk;simp only[Bool.and_eq_true] at hk
   obtain⟨⟨⟨⟨⟨⟨h1,_⟩,_⟩,_⟩,_⟩,_⟩,_⟩:=hk
   split at h1<;>first|exact⟨_,‹_›,rfl⟩|cases h1
 | sc =>
   rw[yl] at hk;simp only at hk
   split at hk
   ·rename_i d hd;exact⟨d,hd,by simpa using hk⟩
   ·cases hk
 | IC e =>
   rw[yl] at hk;simp only[Bool.and_eq_true] at hk
   obtain⟨h1,_⟩:=hk
   split at h1<;>first|exact⟨_,‹_›,rfl⟩|cases h1
theorem uj{fs:List Field}{xs:List (Nat×Nat×Bool)}(h:nZ P fs xs=true):∀ {i:Nat} {x:Nat×Nat×Bool},xs[i]? = some x →
 ∃ f j d,fs[i]? = some f/\f.offset=x.1/\x.2.1≠0/\P.info? f.type=some j/\j.size=x.2.1/\P.underlying f.type=some d/\kg d=x.2.2:=by
 induction fs generalizing xs with
 | nil=>intro i x hx;cases xs with|nil=>simp at hx|cons _ _=>cases h
 | cons f fs ih =>
   intro i x hx
   cases xs with
   | nil=>cases h
   | cons y ys =>
     unfold nZ at h
     simp only[Bool.and_eq_true,beq_iff_eq,bne_iff_ne,ne_eq] at h
     obtain⟨⟨⟨⟨h1,h2⟩,h3⟩,h4⟩,h5⟩:=h
     cases i with
     | zero =>
       simp only[List.getElem?_cons_zero,Option.some.injEq] at hx
       subst hx
       split at h3
       ·rename_i j hj
        split at h4
        ·rename_i d hd
         exact⟨f,j,d,rfl,h1,h2,hj,by simpa using h3,hd,by simpa using h4⟩
        ·cases h4
       ·cases h3
     | succ i=>exact ih h5 (by simpa using hx)
theorem oq{t e:TypeId}{es eb:Nat}{c6:Ty}(h:ib P t (.sl e es eb c6)=true) :
 P.underlying t=some (.slice e)/\es=c6.size/\∃ i z,P.info? e=some i/\i.size=c6.size/\i.bytes=eb/\i.zero=some z/\z.cells=c6.iX.toArray:=by
 unfold ib at h
 simp only[Bool.and_eq_true,beq_iff_eq] at h
 obtain⟨⟨h1,h2⟩,h3⟩:=h
 split at h1
 ·rename_i e' he
  simp only[beq_iff_eq] at h1
  subst h1
  obtain⟨i,z,k1,k2,k3,k4,k5,_⟩:=y_ h3
  exact⟨he,h2,i,z,k1,k2.trans h2,k3,k4,k5⟩
 ·cases h1
theorem wD{t e:TypeId}(h:ib P t (.IC e)=true) :
 P.underlying t=some (.slice e)/\∃ i z,P.info? e=some i/\i.size=1/\i.bytes=8/\i.zero=some z/\z.cells = #[.pointer none]:=by
 unfold ib at h
 simp only[Bool.and_eq_true,beq_iff_eq] at h
 obtain⟨h1,h3⟩:=h
 split at h1
 ·rename_i e' he
  simp only[beq_iff_eq] at h1
  subst h1
  obtain⟨i,z,k1,k2,k3,k4,k5,_⟩:=y_ h3
  exact⟨he,i,z,k1,k2,k3,k4,k5⟩
 ·cases h1
theorem Dh{t:TypeId}{fs:List (Nat×Nat×Bool)}(h:ib P t (.st fs)=true):∃ fields,P.underlying t=some (.struct fields)/\nZ P fields.toList fs=true:=by
 unfold ib at h
 simp only at h
 split at h
 ·exact⟨_,‹_›,h⟩
 ·cases h
theorem LG{t:TypeId}{k:IntKind}(h:ib P t (.int k)=true):P.underlying t=some (.int k):=by
 unfold ib at h
 simp only at h
 split at h
 ·rename_i k' hk;simp only[beq_iff_eq] at h;subst h;exact hk
 ·cases h
theorem jS(b o j:Nat):(⟨b,o,none⟩:Addr).add j=⟨b,o+j,none⟩:=by
 unfold Addr.add;split
 ·rename_i h;subst h;rfl
 ·rfl
theorem Kg{t:TypeId}{ti:TI}(h:vy P t ti=true)(w:World)(b o:Nat)(vs:List Value)(hl:vs.length=ti.size)(hc:∀(j:Nat) v,vs[j]? = some v->w.cell? ⟨b,o+j,none⟩=some v) :
 (ti.agg=true->(Instr.loadAt t (.pointer (some ⟨b,o,none⟩))).run P w = .ok (.agg vs.toArray) w) ∧
 (ti.agg=false->∀ v,vs=[v]->(Instr.loadAt t (.pointer (some ⟨b,o,none⟩))).run P w = .ok v w):=by
 obtain⟨⟨i,z,h1,h2,_⟩,_,_⟩:=eQ h
 obtain⟨d,hd,ha⟩:=MA h
 have hs:=run_sizeOf h1
 have hg:=pj hd
 constructor
 ·intro Nb
  rw[Nb] at ha
  have TO:=run_loadCells_list (P:=P) w ⟨b,o,none⟩ vs (fun j v hv=>by rw[jS];exact hc j v hv)
  rw[hl,<-h2] at TO
  simp[Instr.loadAt,Instr.sureAddr,loadVar,hg,ha,hs,TO]
 ·intro Nb v hv
  rw[Nb] at ha
  have h0:=hc 0 v (by rw[hv];rfl)
  simp only[Nat.add_zero] at h0
  simp[Instr.loadAt,Instr.sureAddr,loadVar,hg,ha,h0]
theorem sL{t:TypeId}{ti:TI}(h:vy P t ti=true)(w:World)(b o:Nat)(cur:Array Value)(el:TypeId)(x:Value)(hx:x.cells.size=ti.size)(hg:w.heap[b]? = some (.cells cur el (0,0)))
 (Ni:o+x.cells.size<=cur.size) (h1:∀ v∈x.cells.toList,v.oneCell'=true) :
 (Instr.storeAt t (.pointer (some ⟨b,o,none⟩)) x).run P w = .ok () (w.setRow b (cur.toList.take o++x.cells.toList++cur.toList.drop (o+x.cells.toList.length)).toArray):=by
 obtain⟨⟨i,z,h2,h3,_⟩,_,_⟩:=eQ h
 have gf:=run_storeCells_at P b o el x.cells.toList 0 cur w hg (by simpa using Ni) h1
 simp only[Nat.add_zero] at gf
 have bb:¬(x.cells.size≠i.size):=by rw[hx,h3];simp
 have UK:x.cells.size=i.size:=by rw[hx,h3]
 simp only[Instr.storeAt,Instr.sureAddr,storeVar,Sem.run_bind,Sem.run_pure,Result.andThen_ok,run_sizeOf h2,UK,ne_eq,not_true_eq_false,if_false]
 first
  | exact gf
  | (simp only[Sem.run_bind,Sem.run_pure,Result.andThen_ok];exact gf)
  | (simp[gf])
end
end Go.SX
/- New names, new blocks: what an operation that writes nothing leaves. No condition. -/
namespace Go.SX
open Go.RowKit
set_option linter.unusedVariables false
def db(hp:Nat->ax)(nx:Nat)(es:List ax)(n:Nat):ax:=if n<nx then hp n else match es[n-nx]? with|some e=>e|none=>hp n
theorem wc(hp:Nat->ax)(nx:Nat):db hp nx []=hp:=by
 funext n;unfold db;split<;>rfl
theorem Ls{hp:Nat->ax}{nx:Nat}{es:List ax}(hd:∀ j,j<es.length->hp (nx+j) = .dead){n:Nat}(hl:(hp n).live=true):db hp nx es n=hp n:=by
 unfold db
 split
 ·rfl
 ·rename_i h
  split
  ·rename_i e he
   have aZ:=(List.getElem?_eq_some_iff.1 he).1
   have:=hd (n-nx) aZ
   rw[show nx+(n-nx)=n by omega] at this
   rw[this] at hl;cases hl
  ·rfl
theorem jZ{hp:Nat->ax}{nx:Nat}{es:List ax}{j:Nat}{e:ax}(h:es[j]? = some e):db hp nx es (nx+j)=e:=by
 unfold db
 rw[if_neg (by omega),show nx+j-nx=j by omega,h]
theorem fo(hp:Nat->ax)(nx:Nat)(es:List ax)(n:Nat):(∃ j e,n=nx+j/\es[j]? = some e/\db hp nx es n=e)\/((n<nx\/nx+es.length<=n)/\db hp nx es n=hp n):=by
 by_cases h:n<nx
 ·exact .inr ⟨.inl h,by unfold db;rw[if_pos h]⟩
 ·cases he:es[n-nx]? with
  | some e=>exact .inl ⟨n-nx,e,by omega,he,by unfold db;rw[if_neg h,he]⟩
  | none =>
    have:=List.getElem?_eq_none_iff.1 he
    exact .inr ⟨.inr (by omega),by unfold db;rw[if_neg h,he]⟩
def Vl.ext(V:Vl)(nx:Nat)(bs:List (Option Nat))(Z:Nat->Prop):Vl where
 aE n:=if nx<=n/\n<nx+bs.length then ((bs[n-nx]?).getD none).getD 0 else V.aE n
 has n:=if nx<=n/\n<nx+bs.length then ((bs[n-nx]?).getD none).isSome=true else V.has n
 Z0:=V.Z0
 Z1 b:=V.Z1 b\/Z b
section
variable {V : Vl} {nx : Nat} {bs : List (Option Nat)} {Z : Nat → Prop}
theorem Vl.kU{n:Nat}(h:n<nx\/nx+bs.length<=n):(V.ext nx bs Z).aE n=V.aE n:=by
 show (if _ then _ else _)=_;rw[if_neg (by omega)]
theorem Vl.kV{n:Nat}(h:n<nx\/nx+bs.length<=n):(V.ext nx bs Z).has n↔V.has n:=by
 show (if _ then _ else _)↔_;rw[if_neg (by omega)]
theorem Vl.g9{j b:Nat}(h:bs[j]? = some (some b)):(V.ext nx bs Z).aE (nx+j)=b:=by
 have hj:=(List.getElem?_eq_some_iff.1 h).1
 show (if _ then _ else _)=_;rw[if_pos (by omega),show nx+j-nx=j by omega,h];rfl
theorem Vl.fY{j:Nat}{b:Option Nat}(h:bs[j]? = some b):(V.ext nx bs Z).has (nx+j)↔b.isSome=true:=by
 have hj:=(List.getElem?_eq_some_iff.1 h).1
 show (if _ then _ else _)↔_;rw[if_pos (by omega),show nx+j-nx=j by omega,h];rfl
theorem Vl.Ah{fr:Bool}{b:Nat}:(V.ext nx bs Z).Z fr b↔V.Z fr b\/Z b:=by
 unfold Vl.Z Vl.ext
 constructor
 ·rintro ((h|h)|h)
  ·exact .inl (.inl h)
  ·exact .inr h
  ·exact .inl (.inr h)
 ·rintro ((h|h)|h)
  ·exact .inl (.inl h)
  ·exact .inr h
  ·exact .inl (.inr h)
end
section
variable {base : Nat} {M : LM} {w0 : World} {V : Vl} {hp : Nat → ax} {w w' : World}
theorem Mem.pP(m:Mem base M w0 V hp w){fr:Bool}{b:Nat}(h:V.Z fr b):b<w.heap.size:=by
 rcases h with h|⟨_,h⟩
 ·exact (m.z1 b h).2
 ·exact Nat.lt_of_lt_of_le (m.z0 b h).1 m.kept.size
theorem Kept.trans(h:Kept base M w0 w)(k:Kept w.heap.size pa w w'):Kept base M w0 w' where
 os:=k.os.trans h.os
 tape:=k.tape.trans h.tape
 output:=k.output.trans h.output
 size:=Nat.le_trans h.size k.size
 block b hb hm:=(k.block b (Nat.lt_of_lt_of_le hb h.size) (fun x=>x)).trans (h.block b hb hm)
 shape b aq el hb hm hv:=by
  obtain⟨bn,eg,h1,h2⟩:=h.shape b aq el hb hm hv
  exact⟨bn,eg,(k.block b (Nat.lt_of_lt_of_le hb h.size) (fun x=>x)).trans h1,h2⟩
theorem VX.l_(m:Mem base M w0 V hp w)(k:Kept w.heap.size pa w w'){nx:Nat}{es:List ax}{bs:List (Option Nat)}{Z:Nat->Prop}(hlen:bs.length=es.length)
 (hd:∀ j,j<es.length->hp (nx+j) = .dead):VX V hp w (V.ext nx bs Z) (db hp nx es) w' where
 nm n hl:=by
  have ho:n<nx\/nx+bs.length<=n:=by
   rcases Nat.lt_or_ge n nx with h|h
   ·exact .inl h
   ·rcases Nat.lt_or_ge n (nx+bs.length) with h'|h'
    ·have:=hd (n-nx) (by omega)
     rw[show nx+(n-nx)=n by omega] at this
     rw[this] at hl;cases hl
    ·exact .inr h'
  exact⟨Vl.kU ho,Vl.kV ho,Ls hd hl⟩
 z0 b h:=h
 z1 b h:=.inl h
 KM b h:=k.block b (m.pP h) (fun x=>x)
 KL n hl hh:=k.block _ (m.own n hl hh).2.1 (fun x=>x)
theorem Fy{e:ax}(h:¬e.fH):e.fL=[]:=by
 cases e with
 | dead=>rfl
 | bx cs=>rfl
 | row fr e xs =>
   cases fr with
   | true=>rfl
   | false =>
     have h':¬(e.flat||e.bU)=true:=h
     show (if e.bU then bV e xs else [])=[]
     rw[if_neg (fun hg=>h' (by rw[hg,Bool.or_true]))]
theorem Mem.grow(m:Mem base M w0 V hp w)(k:Kept w.heap.size pa w w'){nx:Nat}{es:List ax}{bs:List (Option Nat)}{Z:Nat->Prop}(hlen:bs.length=es.length)
 (hd:∀ j,j<es.length->hp (nx+j) = .dead) (gE:(bs.filterMap id).Nodup) (hb:∀ b,some b∈bs->w.heap.size<=b/\b<w'.heap.size/\¬Z b) (hZ:∀ b,Z b->w.heap.size<=b/\b<w'.heap.size)
 (gR:∀(j:Nat) cs,es[j]? = some (.bx cs)->∃ b,bs[j]? = some (some b))
 (Ij:∀(j:Nat) e,es[j]? = some e->e.ok (V.ext nx bs Z) (db hp nx es) w' (nx+j)) (nr:∀ e∈es,¬e.fH) :
 Mem base M w0 (V.ext nx bs Z) (db hp nx es) w':=by
 have x:=VX.l_ m k (Z:=Z) hlen hd
 have cv:w.heap.size<=w'.heap.size:=k.size
 have jY:∀(n:Nat),(db hp nx es n).live=true->(V.ext nx bs Z).has n->(∃ j b,n=nx+j/\bs[j]? = some (some b)/\(V.ext nx bs Z).aE n=b/\w.heap.size<=b/\b<w'.heap.size/\¬Z b) ∨
  ((n<nx\/nx+es.length<=n)/\(hp n).live=true/\V.has n/\(V.ext nx bs Z).aE n=V.aE n):=by
  intro n hl hh
  rcases fo hp nx es n with ⟨j,e,rfl,he,h3⟩|⟨h1,h2⟩
  ·have hj:=(List.getElem?_eq_some_iff.1 he).1
   have Lc:bs[j]? = some bs[j]:=List.getElem?_eq_getElem (by omega)
   rw[Vl.fY Lc] at hh
   cases et:bs[j] with
   | none=>rw[et] at hh;cases hh
   | some b =>
     rw[et] at Lc
     exact .inl ⟨j,b,rfl,Lc,Vl.g9 Lc,hb b (List.mem_of_getElem? Lc)⟩
  ·rw[h2] at hl
   rw[Vl.kV (by omega)] at hh
   exact .inr ⟨h1,hl,hh,Vl.kU (by omega)⟩
 refine⟨fun n=>?_,fun n cs h=>?_,fun n hl hh=>?_,fun n e xs h hh=>?_,fun n n' hl dm hh lX he=>?_,fun b h=>m.z0 b h,fun b h=>?_,m.kept.trans k,fun n hl hh=>?_,fun b hb=>?_,fun n hh i hi=>?_⟩
 ·rcases fo hp nx es n with ⟨j,e,rfl,he,h3⟩|⟨h1,h2⟩
  ·rw[h3];exact Ij j e he
  ·cases hl:(hp n).live with
   | true=>exact ax.ka x (m.ck n) (fun cs h=>m.box n cs h) hl
   | false =>
     rw[h2]
     cases hn:hp n with
     | dead=>trivial
     | bx cs=>rw[hn] at hl;cases hl
     | row fr e xs=>rw[hn] at hl;cases hl
 ·rcases fo hp nx es n with ⟨j,e,rfl,he,h3⟩|⟨h1,h2⟩
  ·rw[h3] at h;subst h
   obtain⟨b,et⟩:=gR j cs he
   rw[Vl.fY et];rfl
  ·rw[h2] at h
   rw[Vl.kV (by omega)]
   exact m.box n cs h
 ·rcases jY n hl hh with ⟨j,b,rfl,h1,h2,h3,h4,h5⟩|⟨h0,h1,h2,h3⟩
  ·rw[h2]
   refine⟨.inl (Nat.le_trans m.kept.size h3),h4,fun h=>?_⟩
   rcases Vl.Ah.1 h with h|h
   ·have:=m.pP h;omega
   ·exact h5 h
  ·rw[h3]
   obtain⟨k1,k2,k3⟩:=m.own n h1 h2
   refine⟨k1,by omega,fun h=>?_⟩
   rcases Vl.Ah.1 h with h|h
   ·exact k3 h
   ·have:=(hZ _ h).1;omega
 ·rcases jY n (by rw[h];rfl) hh with ⟨j,b,rfl,h1,h2,h3,h4,h5⟩|⟨h0,h1,h2,h3⟩
  ·rw[h2];exact Nat.le_trans m.kept.size h3
  ·rw[h3]
   rcases fo hp nx es n with ⟨j,e',rfl,fk,_⟩|⟨_,h4⟩
   ·have:=(List.getElem?_eq_some_iff.1 fk).1;omega
   ·exact m.eK n e xs (by rw[<-h4];exact h) h2
 ·rcases jY n hl hh with ⟨j,b,rfl,h1,h2,h3,h4,h5⟩|⟨h0,h1,h2,h3⟩
  ·rcases jY n' dm lX with ⟨j',b',rfl,g1,g2,g3,g4,g5⟩|⟨g0,g1,g2,g3⟩
   ·rw[h2,g2] at he
    subst he
    by_cases TJ:j=j'
    ·rw[TJ]
    ·exfalso
     have fb:bs.Pairwise (fun x y=>∀ b,x=some b->y=some b->False):=by
      have h:=gE
      rw[List.Nodup,List.pairwise_filterMap] at h
      refine h.imp fun {x y} WU b hx hy=>?_
      exact WU b hx b hy rfl
     have E1:=(List.getElem?_eq_some_iff.1 h1).1
     have E2:=(List.getElem?_eq_some_iff.1 g1).1
     rw[List.pairwise_iff_getElem] at fb
     rw[List.getElem?_eq_getElem E1] at h1
     rw[List.getElem?_eq_getElem E2] at g1
     simp only[Option.some.injEq] at h1 g1
     rcases Nat.lt_or_gt_of_ne TJ with aZ|aZ
     ·exact fb j j' E1 E2 aZ b h1 g1
     ·exact fb j' j E2 E1 aZ b g1 h1
   ·rw[h2,g3] at he
    have:=(m.own n' g1 g2).2.1
    omega
  ·rcases jY n' dm lX with ⟨j',b',rfl,g1,g2,g3,g4,g5⟩|⟨g0,g1,g2,g3⟩
   ·rw[h3,g2] at he
    have:=(m.own n h1 h2).2.1
    omega
   ·rw[h3,g3] at he
    exact m.fw n n' h1 g1 h2 g2 he
 ·rcases h with h|h
  ·exact⟨(m.z1 b h).1,by have:=(m.z1 b h).2;omega⟩
  ·exact⟨Nat.le_trans m.kept.size (hZ b h).1,(hZ b h).2⟩
 ·rcases fo hp nx es n with ⟨j,e,rfl,he,h3⟩|⟨h1,h2⟩
  ·rw[h3] at hl
   exact absurd hl (nr e (List.mem_of_getElem? he))
  ·rw[h2] at hl
   rw[Vl.kV (by omega)] at hh
   rw[Vl.kU (by omega)]
   exact m.lL n hl hh
 ·obtain⟨q1,q2⟩:=m.lr b hb
  rcases fo hp nx es 0 with ⟨j,e,h0,he,h3⟩|⟨h1,h2⟩
  ·have hj:=(List.getElem?_eq_some_iff.1 he).1
   have:=hd j hj
   rw[<-h0] at this
   rw[this] at q1
   cases q1
  ·rw[h2]
   exact⟨q1,by rw[Vl.kU (by omega)];exact q2⟩
 ·rcases fo hp nx es n with ⟨j,e,rfl,he,h3⟩|⟨h1,h2⟩
  ·rw[h3,Fy (nr e (List.mem_of_getElem? he))] at hi
   cases hi
  ·rw[h2] at hi
   rw[Vl.kV (by omega)] at hh
   exact m.fL n hh i hi
structure Good (base:Nat) (M:LM) (w0:World) (V:Vl) (hp:Nat->ax) (w:World) (nx:Nat) (res:S) (es:List ax) (hy:Option Prop) (v:Value) (w':World) (V':Vl):Prop where
 mem:Mem base M w0 V' (db hp nx es) w'
 vx:VX V hp w V' (db hp nx es) w'
 res:S.ok V' (db hp nx es) w' res v
 hy:∀ p,hy=some p->p
theorem VX.refl(V:Vl)(hp:Nat->ax)(w:World):VX V hp w V hp w:=⟨fun _ _=>⟨rfl,Iff.rfl,rfl⟩,fun _ h=>h,fun _ h=>h,fun _ _=>rfl,fun _ _ _=>rfl⟩
theorem d_(m:Mem base M w0 V hp w){nx:Nat}{s:S}{v:Value}(h:S.ok V hp w s v):Good base M w0 V hp w nx s [] none v w V:=by
 refine⟨?_,?_,?_,fun p h=>by cases h⟩
 ·rw[wc];exact m
 ·rw[wc];exact VX.refl _ _ _
 ·rw[wc];exact h
theorem heap_drew(w:World):w.drew.heap=w.heap:=rfl
theorem JO(w:World)(o:Obj):Kept w.heap.size pa w (w.alloc o) where
 os:=rfl
 tape:=rfl
 output:=rfl
 size:=by simp
 block b hb _:=by show (w.heap.push o)[b]? = _;rw[Array.getElem?_push,if_neg (by omega)]
 shape _ _ _ _ h _:=h.elim
theorem yZ(w:World)(o:Obj):(w.alloc o).heap[w.heap.size]? = some o:=by
 show (w.heap.push o)[w.heap.size]? = _
 rw[Array.getElem?_push,if_pos rfl]
theorem ko(m:Mem base M w0 V hp w){nx:Nat}(hd:hp nx = .dead)(aq:Array Value)(el:TypeId)(e:ax)(res:S)(v:Value)(nr:¬e.fH)
 (he:∀ V' aH w',VX V hp w V' aH w'->V'.has nx->V'.aE nx=w.heap.size->aH nx=e->w'.heap[w.heap.size]? = some (.cells aq el (0,0))->e.ok V' aH w' nx/\S.ok V' aH w' res v) :
 ∃ V',Good base M w0 V hp w nx res [e] none v (w.alloc (.cells aq el)) V':=by
 have k:=JO w (.cells aq el)
 have cS:∀ j,j<[e].length->hp (nx+j) = .dead:=fun j hj=>by
  have:j=0:=by simp at hj;omega
  subst this;exact hd
 have x:=VX.l_ m k (nx:=nx) (es:=[e]) (bs:=[some w.heap.size]) (Z:=fun _=>False) rfl cS
 have h1:(V.ext nx [some w.heap.size] (fun _=>False)).has nx:=by
  have:=Vl.fY (V:=V) (nx:=nx) (bs:=[some w.heap.size]) (Z:=fun _=>False) (j:=0) (b:=some w.heap.size) rfl
  exact this.2 rfl
 have h2:(V.ext nx [some w.heap.size] (fun _=>False)).aE nx=w.heap.size:=Vl.g9 (nx:=nx) (j:=0) rfl
 have h3:db hp nx [e] nx=e:=jZ (nx:=nx) (j:=0) rfl
 obtain⟨g1,g2⟩:=he _ _ _ x h1 h2 h3 (yZ w _)
 refine⟨_,⟨m.grow k rfl cS (by simp) (fun b hb=>?_) (fun b hb=>hb.elim) (fun j cs hj=>?_) (fun j e' hj=>?_) (fun e' fk=>by rw[List.mem_singleton.1 fk];exact nr),x,g2,fun p h=>by cases h⟩⟩
 ·simp at hb;subst hb;exact⟨Nat.le_refl _,by simp,fun h=>h⟩
 ·have:j=0:=by have:=(List.getElem?_eq_some_iff.1 hj).1;simp at this;omega
  subst this;exact⟨_,rfl⟩
 ·have:j=0:=by have:=(List.getElem?_eq_some_iff.1 hj).1;simp at this;omega
  subst this
  simp at hj;subst hj
  exact g1
end
end Go.SX
/- Arithmetic and choices: the symbolic value is the run's. No condition. -/
namespace Go.SX
open Go.RowKit
set_option linter.unusedVariables false
theorem fq(k:IntKind)(n:Int):k.min<=k.wrap n/\k.wrap n<=k.max:=by
 cases k<;>simp only[IntKind.wrap,IntKind.min,IntKind.max,IntKind.signed,IntKind.bits]<;>simp<;>(try split)<;>omega
section
variable {P : Program} {V : Vl} {hp : Nat → ax} {w : World}
theorem ok_int{k:IntKind}{n:Int}{v:Value}(h:C.ok V hp w (.val (.int k n)) v):v = .int k n/\k.min<=n/\n<=k.max:=h
theorem BN{b:Bool}{v:Value}(h:C.ok V hp w (.val (.bool b)) v):v = .bool b:=h.1
theorem iK{k:IntKind}{n:Int}(h:k.min<=n/\n<=k.max):C.ok V hp w (.val (.int k n)) (.int k n):=⟨rfl,h⟩
theorem kz(b:Bool):C.ok V hp w (.val (.bool b)) (.bool b):=⟨rfl,trivial⟩
theorem Kk{k:IntKind}{a b:Int}(ha:k.min<=a/\a<=k.max):k.min<=a.tmod b/\a.tmod b<=k.max:=by
 have UJ:k.min<=0:=(qy k).1
 have UI:0<=k.max:=(qy k).2
 rcases Int.le_total 0 a with h|h
 ·have h1:=Int.tmod_nonneg b h
  have h2:a.tmod b<=a:=by
   have:=Int.natAbs_tmod a b
   have h3:(a.tmod b).natAbs<=a.natAbs:=by rw[this];exact Nat.mod_le _ _
   omega
  omega
 ·have h2:(a.tmod b).natAbs<=a.natAbs:=by rw[Int.natAbs_tmod];exact Nat.mod_le _ _
  have h1:a.tmod b<=0:=by
   have:=Int.tmod_nonneg b (show 0 ≤ -a by omega)
   rw[Int.neg_tmod] at this
   omega
  omega
theorem m6(op:BinOp)(t:TypeId)(x y:Operand)(k k':IntKind)(a b:Int):(eqGuard op t x y (.int k a) (.int k' b)).run P w = .ok () w:=by
 unfold eqGuard
 simp only[Sem.run_ite]
 split<;>rfl
theorem HZ(a b:Int):(a == b)=decide (a=b):=by rw[Bool.eq_iff_iff];simp
theorem Nq{op:BinOp}{k:IntKind}{a b:Int}{p:Option Prop}{c:C}(h:Np op k a b=some (p,c))(aH:∀ q,p=some q->q)(ha:k.min<=a/\a<=k.max)(t:TypeId) :
 ∃ v,(binOp op t (.int k a) (.int k b)).run P w = .ok v w/\C.ok V hp w c v:=by
 cases op<;>simp only[Np,Option.some.injEq,Prod.mk.injEq,reduceCtorEq] at h<;>obtain⟨rfl,rfl⟩:=h
 case add=>exact⟨_,by simp[binOp,Op.intArith],iK (fq _ _)⟩
 case sub=>exact⟨_,by simp[binOp,Op.intArith],iK (fq _ _)⟩
 case mul=>exact⟨_,by simp[binOp,Op.intArith],iK (fq _ _)⟩
 case quo=>exact⟨_,by simp[binOp,Op.intDiv,aH _ rfl],iK (fq _ _)⟩
 case rem=>exact⟨_,by simp[binOp,Op.intDiv,aH _ rfl],iK (Kk ha)⟩
 case and=>exact⟨_,by simp[binOp,Op.intBits,pJ],iK (fq _ _)⟩
 case or=>exact⟨_,by simp[binOp,Op.intBits,T8],iK (fq _ _)⟩
 case xor=>exact⟨_,by simp[binOp,Op.intBits,BL],iK (fq _ _)⟩
 case eql=>exact⟨.bool (decide (a=b)),by simp[binOp,Op.intCmp,HZ],kz _⟩
 case neq=>exact⟨.bool (!decide (a=b)),by simp[binOp,Op.intCmp,bne,HZ],kz _⟩
 case lss=>exact⟨_,by simp[binOp,Op.intCmp],kz _⟩
 case leq=>exact⟨_,by simp[binOp,Op.intCmp],kz _⟩
 case gtr=>exact⟨_,by simp[binOp,Op.intCmp],kz _⟩
 case geq=>exact⟨_,by simp[binOp,Op.intCmp],kz _⟩
def fD(P:Program)(V:Vl)(hp:Nat->ax)(w:World)(r:QR)(e:Sem Value):Prop:=r.new=[]/\r.hy=none/\∃ v,e.run P w = .ok v w/\S.ok V hp w r.res v
theorem NU{op:BinOp}{x y:C}{r:QR}{u v:Value}(h:NT op x y=some r)(dr:∀ p,r.ob=some p->p)(hx:C.ok V hp w x u)(hy:C.ok V hp w y v)(t:TypeId)(ox oy:Operand) :
 fD P V hp w r (do eqGuard op t ox oy u v;binOp op t u v):=by
 unfold NT at h
 split at h
 ·injection h with h;subst h
  obtain⟨rfl,ha⟩:=ok_int hx
  obtain⟨rfl,hb⟩:=ok_int hy
  have h0:=dr _ rfl
  rename_i k a k' n
  refine⟨rfl,rfl,.int k (ju k a n),?_,⟨rfl,fq _ _⟩⟩
  simp[m6,binOp,Op.shift,ju,show ¬(n<(0:Int)) from by omega]
 ·injection h with h;subst h
  obtain⟨rfl,ha⟩:=ok_int hx
  obtain⟨rfl,hb⟩:=ok_int hy
  have h0:=dr _ rfl
  rename_i k a k' n
  refine⟨rfl,rfl,.int k (ix k a n),?_,⟨rfl,?_⟩⟩
  ·simp[m6,binOp,Op.shift,ix,show ¬(n<(0:Int)) from by omega]
  ·have UJ:=(qy k).1
   have UI:=(qy k).2
   unfold ix
   have fx:(0:Int)<2^min n.toNat k.bits:=Int.pow_pos (by decide)
   generalize (2:Int)^min n.toNat k.bits=d at fx
   rw[Int.fdiv_eq_ediv_of_nonneg _ (by omega)]
   constructor
   ·have h1:k.min<=a:=ha.1
    rcases Int.le_total 0 a with h|h
    ·have:=Int.ediv_nonneg h (show (0:Int)<=d by omega);omega
    ·have h2:a<=a/d:=by
      have h3:=Int.le_ediv_of_mul_le (a:=a) (b:=a) (c:=d) fx (by
       have:a*d<=a*1:=Int.mul_le_mul_of_nonpos_left h (show (1:Int)<=d by omega)
       omega)
      exact h3
     omega
   ·rcases Int.le_total 0 a with h|h
    ·have:=Int.ediv_le_self d h;omega
    ·have:a/d<=0:=Int.ediv_le_of_le_mul fx (by omega)
     omega
 ·split at h
  ·rename_i Yg k a k' b hk
   subst hk
   split at h
   ·rename_i p c hi
    injection h with h;subst h
    obtain⟨rfl,ha⟩:=ok_int hx
    obtain⟨rfl,hb⟩:=ok_int hy
    obtain⟨v,h1,h2⟩:=Nq (P:=P) (V:=V) (hp:=hp) (w:=w) hi dr ha t
    exact⟨rfl,rfl,v,by simp only[Sem.run_bind,m6,Result.andThen_ok];exact h1,h2⟩
   ·cases h
  ·cases h
 ·cases h
theorem P2{op:UnOp}{x:C}{r:QR}{u:Value}(h:Sk op x=some r)(hx:C.ok V hp w x u):fD P V hp w r (Op.unary op u):=by
 unfold Sk at h
 split at h<;>first|(cases h;done)|(injection h with h;subst h)
 ·rw[BN hx];exact⟨rfl,rfl,_,by unfold Op.unary;rfl,⟨rfl,trivial⟩⟩
 ·rw[show u=_ from hx];exact⟨rfl,rfl,.bool false,by simp[Op.unary],rfl⟩
 ·rw[show u=_ from hx];exact⟨rfl,rfl,.bool true,by simp[Op.unary],rfl⟩
 ·obtain⟨rfl,ha⟩:=ok_int hx
  exact⟨rfl,rfl,_,by unfold Op.unary Op.intArith;rfl,⟨rfl,fq _ _⟩⟩
theorem iF{c:C}{b:Bool}{v:Value}(h:oZ c=some b)(hc:C.ok V hp w c v):v = .bool b:=by
 unfold oZ at h
 split at h<;>first|(injection h with h;subst h;first|exact hc.1|exact hc)|cases h
theorem Mo{c a b s:S}{vc va vb:Value}(h:D6 c a b=some s)(hc:S.ok V hp w c vc)(ha:S.ok V hp w a va)(hb:S.ok V hp w b vb) :
 ∃ p,asBool vc=pure p/\S.ok V hp w s (if p then va else vb):=by
 unfold D6 at h
 split at h
 ·injection h with h;subst h
  exact⟨true,by rw[show vc=_ from hc];rfl,by simpa using ha⟩
 ·injection h with h;subst h
  exact⟨false,by rw[show vc=_ from hc];rfl,by simpa using hb⟩
 ·split at h
  ·rename_i p k x k' y hk
   subst hk
   injection h with h;subst h
   obtain⟨e1,h1⟩:=ok_int (V:=V) (hp:=hp) (w:=w) ha
   obtain⟨e2,h2⟩:=ok_int (V:=V) (hp:=hp) (w:=w) hb
   refine⟨p,by rw[BN (V:=V) (hp:=hp) (w:=w) hc];rfl,?_⟩
   subst e1;subst e2
   cases p
   ·exact⟨rfl,h2⟩
   ·exact⟨rfl,h1⟩
  ·cases h
 ·rename_i p x y _
  split at h
  ·rename_i a' b' h1 h2
   injection h with h;subst h
   refine⟨p,by rw[BN (V:=V) (hp:=hp) (w:=w) hc];rfl,?_⟩
   have e1:=iF (V:=V) (hp:=hp) (w:=w) h1 ha
   have e2:=iF (V:=V) (hp:=hp) (w:=w) h2 hb
   subst e1;subst e2
   cases p
   ·exact⟨rfl,trivial⟩
   ·exact⟨rfl,trivial⟩
  ·cases h
 ·cases h
end
end Go.SX
/- Loads, addresses, slices, composites. No condition. -/
namespace Go.SX
open Go.RowKit
set_option linter.unusedVariables false
section
variable {P : Program} {T : bN} {V : Vl} {hp lk : Nat → ax} {w : World}
theorem tb{α:Type}{xs:List α}{i:Nat}(d:α)(h:i<xs.length):xs.getD i d=xs[i]:=by simp[List.getD,h]
theorem uD(hT:bP P T){t:TypeId}{n:Nat}{cs:List C}{s:S}(hn:uR T t=some n)(aH:D4 T t cs=some s)(hlen:cs.length=n){b o:Nat}{vs:List Value}(ho:bz V hp w cs vs)
 (hc:∀(j:Nat) v,vs[j]? = some v->w.cell? ⟨b,o+j,none⟩=some v) :
 ∃ v,(Instr.loadAt t (.pointer (some ⟨b,o,none⟩))).run P w = .ok v w/\S.ok V hp w s v:=by
 unfold uR at hn
 unfold D4 at aH
 cases ht:T t with
 | none=>rw[ht] at hn;cases hn
 | some ti =>
   rw[ht] at hn aH
   have hb:=hT t ti ht
   simp only[omap,Option.some.injEq] at hn
   obtain⟨h1,h2⟩:=Kg hb w b o vs (by rw[<-ho.1,hlen,hn]) hc
   split at aH
   ·rename_i fs n' heq
    simp only[Option.some.injEq] at heq
    split at aH
    ·injection aH with aH;subst aH
     exact⟨_,h1 (by subst heq;rfl),vs.toArray,rfl,by simpa using ho⟩
    ·cases aH
   ·cases aH
   ·rename_i Yp jg Wu heq
    simp only[Option.some.injEq] at heq
    subst heq
    have CQ:ti.agg=false:=by
     unfold TI.agg
     split
     ·rename_i fs hk
      exact (jg fs ti.size ti.bytes ti.zero ti.ty ti.eq (by cases ti;simp only at hk;subst hk;rfl)).elim
     ·rename_i q1 q2 q3 q4 q5 hk
      exact (Wu q1 q2 q3 q4 q5 ti.size ti.bytes ti.zero ti.ty ti.eq (by cases ti;simp only at hk;subst hk;rfl)).elim
     ·rfl
    split at aH
    ·injection aH with aH;subst aH
     obtain⟨v,bO,rfl,h3,h4⟩:=cF ho
     have:bO=[]:=by have:=h4.1;simp at this;exact List.length_eq_zero_iff.1 this.symm
     subst this
     exact⟨v,h2 CQ v rfl,h3⟩
    ·cases aH
   ·rename_i heq;cases heq
theorem oU{cs r:List C}{off n:Nat}(h:partOf cs off n=some r):r=(cs.drop off).take n/\r.length=n:=by
 unfold partOf at h
 simp only[j8,j7,cy] at h
 split at h
 ·injection h with h;subst h;exact⟨rfl,by assumption⟩
 ·cases h
theorem Gj{n i:Nat}{fr:Bool}{e:Ty}{xs:List e.den}(he:(ax.row fr e xs).ok V hp w n)(hh:V.has n)(hi:i<xs.length) :
 ∃ es,es.length=e.size/\(∀(j:Nat) v,es[j]? = some v->w.cell? ⟨V.aE n,i*e.size+j,none⟩=some v)/\aF (V.Z fr) w e es (xs.getD i e.fe):=by
 rcases he with ⟨h1,_⟩|⟨_,aq,el,h2,h3,h4⟩
 ·exact absurd hh h1
 ·obtain⟨es,h5,h6,h7⟩:=h4 i hi
  refine⟨es,h5,fun j v hv=>?_,by rw[tb _ hi];exact h7⟩
  simp only[World.cell?,h2]
  exact h6 j v hv
theorem Da(hT:bP P T)(hl:gW V hp lk w){t:TypeId}{p:C}{r:QR}{v:Value}(h:A2 T lk t p=some r)(hv:C.ok V hp w p v):fD P V hp w r (Instr.loadAt t v):=by
 unfold A2 at h
 cases hn:uR T t with
 | none=>rw[hn] at h;cases h
 | some n =>
   rw[hn] at h
   simp only at h
   generalize eH:tV lk n p=cs at h
   cases cs with
   | none=>cases h
   | some cs =>
     simp only[ee] at h
     cases hs:D4 T t cs with
     | none=>rw[hs] at h;cases h
     | some s =>
       rw[hs] at h
       simp only[Option.map_some,Option.some.injEq] at h
       subst h
       unfold tV at eH
       refine⟨rfl,rfl,?_⟩
       cases p with
       | at_ fr ty d off =>
         obtain⟨h1,h2⟩:=oU eH
         obtain⟨b,o,rfl,hz,es,h3,h4,h5⟩:=hv
         have ho:=kv (ku (gg (V:=V) (hp:=hp) fr ty h5) off) n
         rw[<-h1] at ho
         exact uD hT hn hs h2 ho (fun j v hj=>by
          rw[List.getElem?_take] at hj
          split at hj
          ·rw[List.getElem?_drop] at hj
           have:=h4 (off+j) (List.getElem?_eq_some_iff.1 hj).1
           rw[show o+off+j=o+(off+j) by omega,this]
           exact (List.getElem?_eq_getElem _).symm.trans hj
          ·cases hj)
       | box m off =>
         simp only at eH
         split at eH
         ·rename_i cp hm
          obtain⟨h1,h2⟩:=oU eH
          obtain⟨rfl,hh,_⟩:=hv
          obtain⟨e1,e2⟩:=hl m (by rw[hm];rfl)
          rw[hm] at e2
          obtain⟨aq,el,h3,h4⟩:=e2
          have ho:=kv (ku h4 off) n
          rw[<-h1] at ho
          exact uD hT hn hs h2 ho (fun j v hj=>by
           rw[List.getElem?_take] at hj
           split at hj
           ·rw[List.getElem?_drop] at hj
            simp only[World.cell?,h3]
            simpa using hj
           ·cases hj)
         ·cases eH
       | dL m i off =>
         simp only at eH
         split at eH
         ·rename_i fr e xs hm
          obtain⟨h1,h2⟩:=oU eH
          obtain⟨hh,aV,e',a_,h6,hi,rfl⟩:=hv
          obtain⟨e1,e2⟩:=hl m (by rw[hm];rfl)
          rw[hm] at e2
          rw[<-e1,hm] at h6
          injection h6 with e3 e4 e5
          subst e3;subst e4;cases e5
          obtain⟨es,h7,h8,h9⟩:=Gj e2 hh hi
          have ho:=kv (ku (gg (V:=V) (hp:=hp) fr e h9) off) n
          rw[<-h1] at ho
          exact uD hT hn hs h2 ho (fun j v hj=>by
           rw[List.getElem?_take] at hj
           split at hj
           ·rw[List.getElem?_drop] at hj
            rw[show i*e.size+off+j=i*e.size+(off+j) by omega]
            exact h8 _ v hj
           ·cases hj)
         ·cases eH
       | _=>cases eH
theorem nY(hT:bP P T){t:TypeId}{f:Nat}{x:Nat×Nat×Bool}(h:qm T t f=some x) :
 ∃ fields fd j d,P.underlying t=some (.struct fields)/\fields[f]? = some fd/\fd.offset=x.1/\x.2.1≠0/\P.info? fd.type=some j/\j.size=x.2.1/\P.underlying fd.type=some d/\kg d=x.2.2:=by
 unfold qm at h
 split at h
 ·rename_i fs sz fv z ty m8 heq
  have hb:=(eQ (hT t _ heq)).2.2
  obtain⟨fields,h1,h2⟩:=Dh hb
  rw[dH] at h
  obtain⟨fd,j,d,h3,h4⟩:=uj h2 h
  exact⟨fields,fd,j,d,h1,by simpa using h3,h4⟩
 ·cases h
theorem BU(hT:bP P T){t:TypeId}{p:C}{f:Nat}{r:QR}{v:Value}(h:m4 T t p f=some r)(hv:C.ok V hp w p v):fD P V hp w r (Instr.fieldAt t v f):=by
 unfold m4 at h
 cases hf:qm T t f with
 | none=>rw[hf] at h;cases h
 | some x =>
   obtain⟨o,n,ag⟩:=x
   rw[hf] at h
   obtain⟨fields,fd,j,d,h1,h2,h3,h4,h5,h6,_⟩:=nY hT hf
   have run:∀ b off,(Instr.fieldAt t (.pointer (some ⟨b,off,none⟩)) f).run P w = .ok (.pointer (some ⟨b,off+o,none⟩)) w:=by
    intro b off
    have bb:¬(j.size=0):=by rw[h6];exact h4
    have QZ:fd.offset=o:=h3
    simp[Instr.fieldAt,run_underlying h1,h2,Instr.sureAddr,fieldPlace,run_sizeOf h5,bb,QZ,jS]
   simp only at h
   split at h
   ·rename_i fr ty dd off
    injection h with h;subst h
    obtain⟨b,o',rfl,hz,es,k1,k2,k3⟩:=hv
    exact⟨rfl,rfl,_,run _ _,b,o',by rw[Nat.add_assoc],hz,es,k1,k2,k3⟩
   ·injection h with h;subst h
    obtain⟨rfl,k1,k2⟩:=hv
    exact⟨rfl,rfl,_,run _ _,rfl,k1,k2⟩
   ·injection h with h;subst h
    obtain⟨k1,fr,e,xs,k2,k3,rfl⟩:=hv
    exact⟨rfl,rfl,_,run _ _,k1,fr,e,xs,k2,k3,by rw[Nat.add_assoc]⟩
   ·cases h
theorem BT(hT:bP P T){t:TypeId}{p:C}{f:Nat}{r:QR}{v:Value}(h:m4 T t p f=some r)(hv:C.ok V hp w p v) :
 r.ob=none/\r.hy=none/\r.new=[]/\∃ u,(∀ w',(Instr.fieldAt t v f).run P w' = .ok u w')/\S.ok V hp w r.res u:=by
 unfold m4 at h
 cases hf:qm T t f with
 | none=>rw[hf] at h;cases h
 | some x =>
   obtain⟨o,n,ag⟩:=x
   rw[hf] at h
   obtain⟨fields,fd,j,d,h1,h2,h3,h4,h5,h6,_⟩:=nY hT hf
   have run:∀ b off w',(Instr.fieldAt t (.pointer (some ⟨b,off,none⟩)) f).run P w' = .ok (.pointer (some ⟨b,off+o,none⟩)) w':=by
    intro b off w'
    have bb:¬(j.size=0):=by rw[h6];exact h4
    have QZ:fd.offset=o:=h3
    simp[Instr.fieldAt,run_underlying h1,h2,Instr.sureAddr,fieldPlace,run_sizeOf h5,bb,QZ,jS]
   simp only at h
   split at h
   ·rename_i fr ty dd off
    injection h with h;subst h
    obtain⟨b,o',rfl,hz,es,k1,k2,k3⟩:=hv
    exact⟨rfl,rfl,rfl,_,run _ _,b,o',by rw[Nat.add_assoc],hz,es,k1,k2,k3⟩
   ·injection h with h;subst h
    obtain⟨rfl,k1,k2⟩:=hv
    exact⟨rfl,rfl,rfl,_,run _ _,rfl,k1,k2⟩
   ·injection h with h;subst h
    obtain⟨k1,fr,e,xs,k2,k3,rfl⟩:=hv
    exact⟨rfl,rfl,rfl,_,run _ _,k1,fr,e,xs,k2,k3,by rw[Nat.add_assoc]⟩
   ·cases h
theorem vP(hT:bP P T){t:TypeId}{e:Ty}(h:i_ T t=some e) :
 ∃ te i z,P.underlying t=some (.slice te)/\P.info? te=some i/\i.size=e.size/\i.zero=some z/\z.cells=e.iX.toArray:=by
 unfold i_ at h
 split at h
 ·rename_i te es eb e' sz fv z ty m8 heq
  injection h with h;subst h
  obtain⟨h1,h2,i,z,h3,h4,h5,h6,h7⟩:=oq (eQ (hT t _ heq)).2.2
  exact⟨te,i,z,h1,h3,h4,h6,h7⟩
 ·cases h
theorem sK(hT:bP P T){t:TypeId}{e:Ty}(h:i_ T t=some e)(ad:Addr)(len cap:Nat)(k:IntKind)(n:Int)(h0:0<=n)(h1:n<(len:Int)) :
 (Instr.indexAt t (.slice (some ad) len cap) (.int k n)).run P w = .ok (.pointer (some (ad.add (n.toNat*e.size)))) w:=by
 obtain⟨te,i,z,h2,h3,h4,_⟩:=vP hT h
 simp[Instr.indexAt,run_underlying h2,asIntOf,h0,h1,run_sizeOf h3,h4]
theorem vZ(hT:bP P T){t:TypeId}{e:Ty}(he:i_ T t=some e.cc){m h:Nat}{v:Value}{k:IntKind}{n:Int}(hr:cR V w m e h v)(h0:0<=n)(h1:n<(h:Int)) :
 V.has m/\(Instr.indexAt t v (.int k n)).run P w = .ok (.pointer (some ⟨V.aE m,n.toNat*e.size+0,none⟩)) w:=by
 rcases hr with ⟨_,_,rfl⟩|⟨hh,cap,aq,el,rfl,_⟩
 ·omega
 ·refine⟨hh,?_⟩
  rw[sK hT he _ _ _ _ _ h0 h1,jS,bJ]
  simp
theorem Ht(hT:bP P T)(hl:gW V hp lk w){t:TypeId}{x i:C}{r:QR}{v u:Value}(h:BX T lk t x i=some r)(dr:∀ p,r.ob=some p->p)(hx:C.ok V hp w x v)(hi:C.ok V hp w i u) :
 fD P V hp w r (Instr.indexAt t v u):=by
 unfold BX at h
 split at h
 ·rename_i e' fr e xs k n he
  split at h
  ·rename_i kY
   subst kY
   injection h with h;subst h
   obtain⟨h0,h1⟩:=dr _ rfl
   obtain⟨rfl,_⟩:=ok_int hi
   obtain⟨a,cap,hv,h2,h3,h4⟩:=hx
   simp only[List.cons.injEq,and_true] at hv
   subst hv
   have aZ:n.toNat<xs.length:=by omega
   obtain⟨ad,rfl,h5,h6,es,h7,h8,h9⟩:=h4 n.toNat aZ
   obtain⟨b,o,sp⟩:=ad
   simp only at h5
   subst h5
   refine⟨rfl,rfl,_,sK hT he _ _ _ _ _ h0 h1,b,o+n.toNat*e.size,by rw[jS,bJ];rfl,h6,es,h7,h8,?_⟩
   rw[tb _ aZ]
   exact h9
  ·cases h
 ·rename_i e' fr wh e b0 xs k n he
  split at h
  ·rename_i kY
   subst kY
   injection h with h;subst h
   obtain⟨h0,h1⟩:=dr _ rfl
   obtain⟨rfl,_⟩:=ok_int hi
   obtain⟨a,cap,hv,h2,h3,h4⟩:=xo hx
   simp only[List.cons.injEq,and_true] at hv
   subst hv
   have aZ:n.toNat<xs.length:=by omega
   obtain⟨ad,rfl,h5,h6,es,h7,h8,h9⟩:=h4 n.toNat aZ
   obtain⟨b,o,sp⟩:=ad
   simp only at h5
   subst h5
   refine⟨rfl,rfl,_,sK hT he _ _ _ _ _ h0 h1,b,o+n.toNat*e.size,by rw[jS,bJ];rfl,h6,es,h7,h8,?_⟩
   rw[tb _ aZ]
   exact h9
  ·cases h
 ·rename_i e' m k n he
  split at h
  ·rename_i fr e xs hm
   split at h
   ·rename_i kY
    subst kY
    injection h with h;subst h
    obtain⟨h0,h1⟩:=dr _ rfl
    obtain⟨rfl,_⟩:=ok_int hi
    obtain⟨aV,e2,a_,h2,h3⟩:=hx
    obtain⟨e1,_⟩:=hl m (by rw[hm];rfl)
    rw[<-e1,hm] at h2
    injection h2 with e3 e4 e5
    subst e3;subst e4;cases e5
    obtain⟨h4,h5⟩:=vZ (k:=k) hT he h3 h0 h1
    exact⟨rfl,rfl,_,h5,h4,fr,e,xs,by rw[<-e1];exact hm,by omega,rfl⟩
   ·cases h
  ·cases h
 ·rename_i e' m hh k n he
  split at h
  ·rename_i fr e xs hm
   split at h
   ·rename_i kY
    subst kY
    injection h with h;subst h
    obtain⟨h0,h1⟩:=dr _ rfl
    obtain⟨rfl,_⟩:=ok_int hi
    obtain⟨aV,e2,a_,h2,h6,h3⟩:=hx
    obtain⟨e1,_⟩:=hl m (by rw[hm];rfl)
    rw[<-e1,hm] at h2
    injection h2 with e3 e4 e5
    subst e3;subst e4;cases e5
    obtain⟨h4,h5⟩:=vZ (k:=k) hT he h3 h0 h1
    exact⟨rfl,rfl,_,h5,h4,fr,e,xs,by rw[<-e1];exact hm,by omega,rfl⟩
   ·cases h
  ·cases h
 ·cases h
theorem Hs(hT:bP P T)(hl:gW V hp lk w){t:TypeId}{m i0:Nat}{kk:IntKind}{k:Int}{r:QR}{v:Value}(h:BV T lk t m i0 k=some r)(dr:∀ p,r.ob=some p->p)(hx:C.ok V hp w (.dL m i0 0) v) :
 fD P V hp w r (Instr.indexAt t v (.int kk k)):=by
 unfold BV at h
 split at h
 ·rename_i len te es n c6 sz fv z ty m8 ht
  split at h
  ·rename_i fr e xs hm
   split at h
   ·rename_i kY
    subst kY
    injection h with h;subst h
    obtain⟨h0,h1,h2⟩:=dr _ rfl
    obtain⟨_,a1,⟨i,a2,a3⟩,a4,a5,a6,a7,a8⟩:=Gz (hT t _ ht) rfl
    obtain⟨hh,aV,e2,a_,g1,g2,rfl⟩:=hx
    obtain⟨e1,_⟩:=hl m (by rw[hm];rfl)
    have nq:hp m = .row fr e xs:=by rw[<-e1];exact hm
    rw[nq] at g1
    injection g1 with g3 g4 g5
    subst g3;subst g4;cases g5
    have D0:es/e.size*e.size=es:=by
     have:=Nat.div_add_mod es e.size
     rw[a7,Nat.add_zero,Nat.mul_comm] at this
     exact this
    have fx:0<es:=by
     rcases Nat.eq_zero_or_pos es with h3|h3
     ·exfalso
      rw[h3,Nat.mul_zero] at a6
      have:=e.size_pos
      rcases Nat.mul_eq_zero.1 a6 with h4|h4<;>omega
     ·exact h3
    have hd:1<=es/e.size:=by
     rcases Nat.eq_zero_or_pos (es/e.size) with h3|h3
     ·rw[h3,Nat.zero_mul] at D0;omega
     ·exact h3
    refine⟨rfl,rfl,.pointer (some ⟨V.aE m,(i0+k.toNat*(es/e.size))*e.size+0,none⟩),?_,hh,fr,e,xs,nq,?_,rfl⟩
    ·simp only[Instr.indexAt,asIntOf,Sem.run_bind,Sem.run_pure,Result.andThen_ok,run_underlying a1,Instr.sureAddr]
     rw[if_pos ⟨h0,h1⟩]
     simp only[Sem.run_bind,run_sizeOf a2,a3,Result.andThen_ok,Sem.run_pure,jS]
     have Ru:i0*e.size+0+k.toNat*es=(i0+k.toNat*(es/e.size))*e.size+0:=by rw[Nat.add_mul,Nat.mul_assoc,D0];omega
     rw[Ru]
    ·rw[Nat.add_mul,Nat.one_mul] at h2
     omega
   ·cases h
  ·cases h
 ·cases h
theorem BW(hT:bP P T)(hl:gW V hp lk w){t:TypeId}{x i:C}{r:QR}{v u:Value}(h:uN T lk t x i=some r)(dr:∀ p,r.ob=some p->p)(hx:C.ok V hp w x v)(hi:C.ok V hp w i u) :
 fD P V hp w r (Instr.indexAt t v u):=by
 unfold uN at h
 split at h
 ·obtain⟨rfl,_⟩:=ok_int hi
  exact Hs hT hl h dr hx
 ·exact Ht hT hl h dr hx hi
end
end Go.SX
/- Cuts, composites, lengths. No condition. -/
namespace Go.SX
open Go.RowKit
set_option linter.unusedVariables false
set_option linter.unusedSimpArgs false
section
variable {P : Program} {T : bN} {V : Vl} {hp lk : Nat → ax} {w : World}
theorem Eo{Z:Nat->Prop}{e:Ty}{v:Value}{xs:List e.den}(h:aF Z w (.sl e) [v] xs){l h':Nat}(h0:l<=h')(h1:h'<=xs.length) :
 ∃ a cap,v = .slice a xs.length cap/\xs.length<=cap/\aF Z w (.sl e) [.slice (if cap=l then a else a.map (·.add (l*e.size))) (h'-l) (cap-l)] ((xs.take h').drop l):=by
 obtain⟨a,cap,hv,h2,h3,h4⟩:=h
 simp only[List.cons.injEq,and_true] at hv
 have hlen:((xs.take h').drop l).length=h'-l:=by rw[List.length_drop,List.length_take];omega
 refine⟨a,cap,hv,h2,_,cap-l,by rw[hlen],by rw[hlen];omega,by rw[hlen];omega,fun i hi=>?_⟩
 rw[hlen] at hi
 obtain⟨ad,rfl,h5,h6,es,h7,h8,h9⟩:=h4 (l+i) (by omega)
 obtain⟨b,o,sp⟩:=ad
 simp only at h5
 subst h5
 rw[if_neg (by omega)]
 refine⟨⟨b,o+l*e.size,none⟩,by rw[Option.map_some,jS],rfl,h6,es,h7,?_,?_⟩
 ·rw[Nat.add_mul] at h8
  rw[Nat.add_assoc];exact h8
 ·simp only[List.getElem_drop,List.getElem_take]
  exact h9
theorem tL(hT:bP P T){t:TypeId}{e:Ty}(he:i_ T t=some e)(a:Option Addr)(len cap:Nat)(lo hi:Option Value){l h':Nat}
 (hl:lo=none/\l=0\/∃ k,lo=some (.int k (l:Int))) (hh:hi=none/\h'=len\/∃ k,hi=some (.int k (h':Int))) (h0:l<=h') (h1:h'<=cap) :
 (Instr.sliceAt t (.slice a len cap) lo hi none).run P w = .ok (.slice (if cap=l then a else a.map (·.add (l*e.size))) (h'-l) (cap-l)) w:=by
 obtain⟨te,i,z,h2,h3,h4,_⟩:=vP hT he
 have c1:(h':Int)<=(cap:Int):=by omega
 have c2:(l:Int)<=(h':Int):=by omega
 have c3:(0:Int)<=(h':Int):=by omega
 have c4:(0:Int)<=(l:Int):=by omega
 rcases hl with ⟨rfl,rfl⟩|⟨k,rfl⟩<;>rcases hh with ⟨rfl,rfl⟩|⟨k',rfl⟩ <;>
  simp[Instr.sliceAt,Instr.slice,Instr.sliceBounds,Instr.sliceBound,run_underlying h2,asIntOf,run_sizeOf h3,h4,c1,c2,c3,c4,h0,h1]<;>first|done|(intros;omega)|omega
theorem iG{Oo:Int}{o:Option S}{n:Int}(h:mv Oo o=some n){ov:Option Value}(ho:∀ s v,o=some s->ov=some v->S.ok V hp w s v)(OO:o=none↔ov=none) :
 (o=none/\ov=none/\n=Oo)\/(∃ k,ov=some (.int k n)):=by
 unfold mv at h
 split at h
 ·injection h with h;exact .inl ⟨rfl,OO.1 rfl,h.symm⟩
 ·rename_i k m
  injection h with h;subst h
  cases ov with
  | none=>exact absurd (OO.2 rfl) (by simp)
  | some v=>exact .inr ⟨k,by rw[(ok_int (V:=V) (hp:=hp) (w:=w) (ho _ _ rfl rfl)).1]⟩
 ·cases h
theorem As{m h:Nat}{e:Ty}{v:Value}(hr:cR V w m e h v):∃ a cap,v = .slice a h cap/\h<=cap/\∀ h',h'<=h->cR V w m e h' (.slice (if cap=0 then a else a.map (·.add (0*e.size))) (h'-0) (cap-0)):=by
 rcases hr with ⟨h1,rfl,rfl⟩|⟨h1,cap,aq,el,rfl,h3,h4,h5⟩
 ·exact⟨none,0,rfl,Nat.le_refl _,fun h' hh=>by have:h'=0:=by omega
                                               subst this;exact .inl ⟨h1,rfl,rfl⟩⟩
 ·refine⟨_,cap,rfl,h5,fun h' hh=>.inr ⟨h1,cap,aq,el,?_,h3,h4,by omega⟩⟩
  have:(if cap=0 then (some ⟨V.aE m,0,none⟩:Option Addr) else (some (⟨V.aE m,0,none⟩:Addr)).map (·.add (0*e.size)))=some ⟨V.aE m,0,none⟩:=by
   split
   ·rfl
   ·simp[Addr.add]
  rw[this];simp
theorem J_(hT:bP P T)(hl:gW V hp lk w){t:TypeId}{x:C}{lo hi:Option S}{r:QR}{v:Value}{lv hv:Option Value}(h:F_ T lk t x lo hi=some r)(dr:∀ p,r.ob=some p->p)(hx:C.ok V hp w x v)
 (yf:∀ s v,lo=some s->lv=some v->S.ok V hp w s v) (E8:lo=none↔lv=none) (Lj:∀ s v,hi=some s->hv=some v->S.ok V hp w s v) (E0:hi=none↔hv=none) :
 fD P V hp w r (Instr.sliceAt t v lv hv none):=by
 have mk:∀ {n:Int} {m:Nat} {o:Option S} {ov:Option Value} {d:Nat},(o=none/\ov=none/\n=(d:Int))\/(∃ k,ov=some (.int k n))->0<=n->m=n.toNat->(ov=none/\m=d\/∃ k,ov=some (.int k (m:Int))):=by
  intro n m o ov d hc h0 hm
  rcases hc with ⟨_,h1,h2⟩|⟨k,h1⟩
  ·exact .inl ⟨h1,by omega⟩
  ·exact .inr ⟨k,by rw[h1,hm,Int.toNat_of_nonneg h0]⟩
 unfold F_ at h
 split at h
 ·rename_i e' fr e xs he
  split at h
  ·rename_i l h' v8 Au
   split at h
   ·rename_i kY
    subst kY
    injection h with h;subst h
    obtain⟨h0,h1,h2⟩:=dr _ rfl
    have bl:=iG (V:=V) (hp:=hp) (w:=w) v8 yf E8
    have bh:=iG (V:=V) (hp:=hp) (w:=w) Au Lj E0
    obtain⟨a,cap,rfl,h3,h4⟩:=Eo (l:=l.toNat) (h':=h'.toNat) hx (by omega) (by omega)
    have dM:=tL (P:=P) (w:=w) (l:=l.toNat) (h':=h'.toNat) hT he a _ cap lv hv (mk (d:=0) bl h0 rfl) (mk (d:=xs.length) bh (by omega) rfl) (by omega) (by omega)
    rw[bJ] at dM
    exact⟨rfl,rfl,_,dM,h4⟩
   ·cases h
  ·cases h
 ·rename_i e' fr wh e b0 xs he
  split at h
  ·rename_i l h' v8 Au
   split at h
   ·rename_i kY
    subst kY
    injection h with h;subst h
    obtain⟨h0,h1,h2⟩:=dr _ rfl
    have bl:=iG (V:=V) (hp:=hp) (w:=w) v8 yf E8
    have bh:=iG (V:=V) (hp:=hp) (w:=w) Au Lj E0
    have CX:aF (V.Z fr) w (.sl e) [v] xs:=hx.1
    obtain⟨a,cap,rfl,h3,h4⟩:=Eo (l:=l.toNat) (h':=h'.toNat) CX (by omega) (by omega)
    have dM:=tL (P:=P) (w:=w) (l:=l.toNat) (h':=h'.toNat) hT he a _ cap lv hv (mk (d:=0) bl h0 rfl) (mk (d:=xs.length) bh (by omega) rfl) (by omega) (by omega)
    rw[bJ] at dM
    exact⟨rfl,rfl,_,dM,h4⟩
   ·cases h
  ·cases h
 ·rename_i e' m he
  split at h
  ·rename_i fr e xs hm
   obtain⟨e1,e2⟩:=hl m (by rw[hm];rfl)
   obtain⟨aV,e3,a_,k2,k3⟩:=hx
   rw[<-e1,hm] at k2
   injection k2 with g3 g4 g5
   subst g3;subst g4;cases g5
   rw[hm] at e2
   split at h
   ·rename_i h' Au
    split at h
    ·rename_i kY
     subst kY
     injection h with h;subst h
     obtain⟨h0,h1⟩:=dr _ rfl
     have bh:=iG (V:=V) (hp:=hp) (w:=w) Au Lj E0
     have tf:lv=none:=E8.1 rfl
     obtain⟨a,cap,rfl,h3,h4⟩:=As k3
     have dM:=tL (P:=P) (w:=w) (l:=0) (h':=h'.toNat) hT he a _ cap lv hv (.inl ⟨tf,rfl⟩) (mk (d:=xs.length) bh h0 rfl) (by omega) (by omega)
     rw[bJ] at dM
     refine⟨rfl,rfl,_,dM,fr,e,xs,by rw[<-e1];exact hm,by omega,h4 _ (by omega)⟩
    ·cases h
   ·rename_i Yd h' Au
    split at h
    ·rename_i l v8
     split at h
     ·rename_i kY
      subst kY
      injection h with h;subst h
      obtain⟨h0,h1,h2⟩:=dr _ rfl
      have bl:=iG (V:=V) (hp:=hp) (w:=w) v8 yf E8
      have bh:=iG (V:=V) (hp:=hp) (w:=w) Au Lj E0
      have gp:=wX e2 k3 (Nat.le_refl _)
      rw[List.take_length] at gp
      obtain⟨a,cap,rfl,h3,h4⟩:=Eo (l:=l.toNat) (h':=h'.toNat) gp (by omega) (by omega)
      have dM:=tL (P:=P) (w:=w) (l:=l.toNat) (h':=h'.toNat) hT he a _ cap lv hv (mk (d:=0) bl h0 rfl) (mk (d:=xs.length) bh (by omega) rfl) (by omega) (by omega)
      rw[bJ] at dM
      refine⟨rfl,rfl,_,dM,⟨fr,e,xs,by rw[<-e1];exact hm⟩,?_⟩
      exact h4.mono (fun b hb=>hb.elim (fun h=>.inl (Vl.cN h)) .inr) (fun _ _=>rfl)
     ·cases h
    ·cases h
   ·cases h
  ·cases h
 ·rename_i e' m k he
  split at h
  ·rename_i fr e xs hm
   obtain⟨e1,e2⟩:=hl m (by rw[hm];rfl)
   obtain⟨aV,e3,a_,k2,k3,k4⟩:=hx
   rw[<-e1,hm] at k2
   injection k2 with g3 g4 g5
   subst g3;subst g4;cases g5
   rw[hm] at e2
   split at h
   ·rename_i h' Au
    split at h
    ·rename_i kY
     subst kY
     injection h with h;subst h
     obtain⟨h0,h1⟩:=dr _ rfl
     have bh:=iG (V:=V) (hp:=hp) (w:=w) Au Lj E0
     have tf:lv=none:=E8.1 rfl
     obtain⟨a,cap,rfl,h3,h4⟩:=As k4
     have dM:=tL (P:=P) (w:=w) (l:=0) (h':=h'.toNat) hT he a _ cap lv hv (.inl ⟨tf,rfl⟩) (mk (d:=k) bh h0 rfl) (by omega) (by omega)
     rw[bJ] at dM
     refine⟨rfl,rfl,_,dM,fr,e,xs,by rw[<-e1];exact hm,by omega,h4 _ (by omega)⟩
    ·cases h
   ·cases h
  ·cases h
 ·cases h
theorem LQ{n:Nat}(h:n<=cX):i64.min<=(n:Int)/\(n:Int)<=i64.max:=by
 have h1:i64.min = -9223372036854775808:=by decide
 have h2:i64.max=9223372036854775807:=by decide
 rw[h1,h2]
 unfold cX at h
 omega
theorem Gb{Z:Nat->Prop}{e:Ty}{v:Value}{xs:List e.den}(h:aF Z w (.sl e) [v] xs):∃ a cap,v = .slice a xs.length cap/\xs.length<=cX:=by
 obtain⟨a,cap,hv,h2,h3,h4⟩:=h
 simp only[List.cons.injEq,and_true] at hv
 exact⟨a,cap,hv,h3⟩
theorem B0(he:∀ n,(hp n).ok V hp w n){m h:Nat}{fr:Bool}{e:Ty}{xs:List e.den}{v:Value}(hm:hp m = .row fr e xs)(hr:cR V w m e h v)(hh:h<=xs.length):∃ a cap,v = .slice a h cap/\h<=cX:=by
 have h1:=he m
 rw[hm] at h1
 rcases hr with ⟨_,rfl,rfl⟩|⟨k1,cap,aq,el,rfl,k3,k4,k5⟩
 ·exact⟨none,0,rfl,Nat.zero_le _⟩
 ·rcases h1 with ⟨g1,_⟩|⟨_,bn,eg,g2,g3,_⟩
  ·exact absurd k1 g1
  ·exact⟨_,cap,rfl,by omega⟩
theorem PL(he:∀ n,(hp n).ok V hp w n)(hl:gW V hp lk w){x:C}{n:Int}{v:Value}(h:NA lk x=some n)(hx:C.ok V hp w x v):∃ a k cap,v = .slice a k cap/\n=(k:Int)/\k<=cX:=by
 unfold NA at h
 split at h
 ·injection h with h;subst h
  obtain⟨a,cap,h1,h2⟩:=Gb hx
  exact⟨a,_,cap,h1,rfl,h2⟩
 ·injection h with h;subst h
  obtain⟨a,cap,h1,h2⟩:=Gb hx.2
  exact⟨a,_,cap,h1,rfl,h2⟩
 ·rename_i m
  split at h
  ·rename_i fr e xs hm
   injection h with h;subst h
   obtain⟨aV,e',a_,h1,h2⟩:=hx
   obtain⟨e1,_⟩:=hl m (by rw[hm];rfl)
   rw[<-e1,hm] at h1
   injection h1 with g3 g4 g5
   subst g3;subst g4;cases g5
   obtain⟨a,cap,h3,h4⟩:=B0 he (e1.symm.trans hm) h2 (Nat.le_refl _)
   exact⟨a,_,cap,h3,rfl,h4⟩
  ·cases h
 ·rename_i m k
  injection h with h;subst h
  obtain⟨aV,e',a_,h1,h3,h2⟩:=hx
  obtain⟨a,cap,h5,h4⟩:=B0 he h1 h2 h3
  exact⟨a,_,cap,h5,rfl,h4⟩
 ·injection h with h;subst h
  obtain⟨a,cap,h1,h2⟩:=Gb (xo hx)
  exact⟨a,_,cap,h1,rfl,h2⟩
 ·injection h with h;subst h
  rw[hx.1]
  exact⟨none,0,0,rfl,rfl,Nat.zero_le _⟩
 ·cases h
theorem NB(hT:bP P T)(he:∀ n,(hp n).ok V hp w n)(hl:gW V hp lk w){t ty:TypeId}{x:C}{n:Int}{v:Value}(h:JP T lk t x=some n)(hx:C.ok V hp w x v) :
 (Builtin.len_ #[t] ty #[v]).run P w = .ok (.int .i64 n) w/\i64.min<=n/\n<=i64.max:=by
 unfold JP at h
 split at h
 ·rename_i sz fv z yK m8 s heq
  injection h with h;subst h
  have hk:=(eQ (hT t _ heq)).2.2
  have hu:P.underlying t=some .string:=by
   unfold ib at hk
   simp only at hk
   split at hk
   ·assumption
   ·cases hk
  obtain⟨rfl,hs⟩:=hx
  refine⟨by simp[Builtin.len_,run_underlying hu,goInt],?_⟩
  have h1:i64.min = -9223372036854775808:=by decide
  have h2:i64.max=9223372036854775807:=by decide
  have h3:s.size<=maxLen:=hs
  unfold maxLen at h3
  rw[h1,h2]
  omega
 ·rename_i e es eb c6 sz fv z yK m8 heq
  obtain⟨hu,_⟩:=oq (eQ (hT t _ heq)).2.2
  obtain⟨a,k,cap,rfl,rfl,hk⟩:=PL he hl h hx
  exact⟨by simp[Builtin.len_,run_underlying hu,goInt],LQ hk⟩
 ·rename_i heq
  injection h with h;subst h
  obtain⟨hu,_⟩:=wD (eQ (hT t _ heq)).2.2
  obtain⟨cap,⟨rfl,hl⟩,_⟩:=hx
  refine⟨by simp[Builtin.len_,run_underlying hu,goInt],?_⟩
  have h1:i64.min = -9223372036854775808:=by decide
  have h2:i64.max=9223372036854775807:=by decide
  rw[h1,h2]
  omega
 ·cases h
theorem Ae{t:TypeId}(ht:Program.underlying P t=some .bool)(a b:Bool)(w:World):(Op.equal t (.bool a) (.bool b)).run P w = .ok (a == b) w:=by
 unfold Op.equal Op.maxDepth
 rw[Op.equalIn]
 rw[Sem.run_bind,run_underlying ht,Result.andThen_ok]
 rfl
theorem bytes_beq(a b:ByteArray):(a.toList == b.toList)=decide (a=b):=by
 rw[ByteArray.toList_eq,ByteArray.toList_eq]
 by_cases h:a=b
 ·subst h;simp
 ·rw[decide_eq_false h]
  have:¬a.data.toList=b.data.toList:=fun e=>h (by
   cases a;cases b
   simp only[ByteArray.mk.injEq]
   exact Array.toList_inj.1 e)
  simpa using this
theorem Mm(hT:bP P T){t:TypeId}{op:BinOp}{x y:C}{r:QR}{u v:Value}(h:J8 T t op x y=some r)(dr:∀ p,r.ob=some p->p)(hx:C.ok V hp w x u)(hy:C.ok V hp w y v)(ox oy:Operand) :
 fD P V hp w r (do eqGuard op t ox oy u v;binOp op t u v):=by
 unfold J8 at h
 split at h
 ·rename_i r' hr
  injection h with h;subst h
  exact NU hr dr hx hy t ox oy
 ·split at h
  ·rename_i a b ht ha hb hz
   injection h with h;subst h
   have e1:=(iF (by assumption) hx:u = .bool _)
   have e2:=(iF (by assumption) hy:v = .bool _)
   subst e1;subst e2
   have hk:=(eQ (hT t _ (by assumption))).2.2
   have hu:Program.underlying P t=some .bool:=by
    unfold ib at hk
    simp only at hk
    split at hk<;>first|assumption|cases hk
   exact⟨rfl,rfl,.bool (a == b),by simp[eqGuard,binOp,Ae hu],rfl,trivial⟩
  ·rename_i a b ht ha hb hz
   injection h with h;subst h
   have e1:=(iF (by assumption) hx:u = .bool _)
   have e2:=(iF (by assumption) hy:v = .bool _)
   subst e1;subst e2
   have hk:=(eQ (hT t _ (by assumption))).2.2
   have hu:Program.underlying P t=some .bool:=by
    unfold ib at hk
    simp only at hk
    split at hk<;>first|assumption|cases hk
   exact⟨rfl,rfl,.bool (!(a == b)),by simp[eqGuard,binOp,Ae hu],rfl,trivial⟩
  ·split at h
   ·rename_i sa sb g1 g2 g3 g4 g5 g6
    injection h with h;subst h
    obtain⟨e1,_⟩:=kc (V:=V) (hp:=hp) (w:=w) (by assumption) hx
    obtain⟨e2,_⟩:=kc (V:=V) (hp:=hp) (w:=w) (by assumption) hy
    subst e1;subst e2
    exact⟨rfl,rfl,.bool (decide (sa=sb)),by simp only[eqGuard,binOp,Op.stringOp,bytes_beq];rfl,rfl,trivial⟩
   ·rename_i sa sb g1 g2 g3 g4 g5 g6
    injection h with h;subst h
    obtain⟨e1,_⟩:=kc (V:=V) (hp:=hp) (w:=w) (by assumption) hx
    obtain⟨e2,_⟩:=kc (V:=V) (hp:=hp) (w:=w) (by assumption) hy
    subst e1;subst e2
    exact⟨rfl,rfl,.bool (!decide (sa=sb)),by simp only[eqGuard,binOp,Op.stringOp,bytes_beq];rfl,rfl,trivial⟩
   ·cases h
theorem Jm{us vs:Array Value}(d:Nat):∀(fs:List Field) (o:Nat) (ks:List Bool) (xs ys:List C) (b:Bool),Ad P o fs ks=true->ub ks xs ys=some b →
 (∀(j:Nat) c,xs[j]? = some c->∃ u,us[o+j]? = some u/\C.ok V hp w c u)->(∀(j:Nat) c,ys[j]? = some c->∃ u,vs[o+j]? = some u/\C.ok V hp w c u) →
 (Op.eqFields (d+1) us vs fs).run P w = .ok b w:=by
 intro fs
 induction fs with
 | nil =>
   intro o ks xs ys b h hq _ _
   cases ks with
   | nil =>
     unfold ub at hq
     split at hq<;>first|(rename_i h0 _ _;cases h0;done)|(rename_i h0;cases h0;done)|skip
     ·injection hq with hq;subst hq;rfl
     all_goals first|(cases hq;done)|(simp_all;done)
   | cons k ks=>cases h
 | cons f fs ih =>
   intro o ks xs ys b h hq hx hy
   cases ks with
   | nil=>cases h
   | cons k ks =>
     unfold Ad at h
     simp only[Bool.and_eq_true,bne_iff_ne,ne_eq,beq_iff_eq] at h
     obtain⟨⟨⟨h1,h2⟩,h3⟩,h4⟩:=h
     have get:∀ {zs:List C} {ws:Array Value} {z:C} {zr:List C},zs=z::zr->(∀(j:Nat) c,zs[j]? = some c->∃ u,ws[o+j]? = some u/\C.ok V hp w c u) →
      (∃ u,ws[f.offset]? = some u/\C.ok V hp w z u)/\∀(j:Nat) c,zr[j]? = some c->∃ u,ws[o+1+j]? = some u/\C.ok V hp w c u:=by
      intro zs ws z zr e hz
      subst e
      refine⟨by rw[h2];exact hz 0 z rfl,fun j c hj=>?_⟩
      obtain⟨u,e1,e2⟩:=hz (j+1) c (by simpa using hj)
      exact⟨u,by rw[<-e1];congr 1;omega,e2⟩
     have DZ:∀ {ws:Array Value} {u:Value},ws[f.offset]? = some u->(part f.type ws f.offset).run P w = .ok u w:=by
      intro ws u hu
      split at h3
      ·rename_i hf;simp[part,pj hf,hu,kg]
      ·rename_i hf;simp[part,pj hf,hu,kg]
      ·cases h3
     unfold ub at hq
     split at hq
     ·rename_i h0;cases h0
     ·rename_i Xc kk a a_ Yc b' G8 e1
      injection e1 with e1 Ez
      subst e1;subst Ez;
      split at hq
      ·rename_i hk
       subst hk
       rw[ee] at hq
       cases hr:ub ks a_ G8 with
       | none=>rw[hr] at hq;cases hq
       | some r =>
         rw[hr] at hq
         injection hq with hq
         obtain⟨⟨u,g1,g2⟩,g3⟩:=get rfl hx
         obtain⟨⟨v,g4,g5⟩,g6⟩:=get rfl hy
         obtain⟨rfl,_⟩:=ok_int g2
         obtain⟨rfl,_⟩:=ok_int g5
         have Nm:=ih (o+1) ks a_ G8 r h4 hr g3 g6
         have hu:∃ k,P.underlying f.type=some (.int k):=by
          split at h3
          ·exact⟨_,‹_›⟩
          ·cases h3
          ·cases h3
         obtain⟨k0,hu⟩:=hu
         simp only[Op.eqFields]
         rw[if_pos h1]
         simp only[Sem.run_bind,DZ g1,DZ g4,Result.andThen_ok,Op.equalIn,run_underlying hu,if_true,Sem.run_pure,Sem.run_ite]
         subst hq
         by_cases rL:a=b'
         ·simp[rL,Nm]
         ·simp[rL]
      ·cases hq
     ·rename_i Xc x a_ y G8 e1
      injection e1 with e1 Ez
      subst e1;subst Ez
      split at hq
      ·rename_i a b' ha hb
       rw[ee] at hq
       cases hr:ub ks a_ G8 with
       | none=>rw[hr] at hq;cases hq
       | some r =>
         rw[hr] at hq
         injection hq with hq
         obtain⟨⟨u,g1,g2⟩,g3⟩:=get rfl hx
         obtain⟨⟨v,g4,g5⟩,g6⟩:=get rfl hy
         obtain rfl:=iF ha g2
         obtain rfl:=iF hb g5
         have Nm:=ih (o+1) ks a_ G8 r h4 hr g3 g6
         have hu:P.underlying f.type=some .bool:=by
          split at h3
          ·cases h3
          ·assumption
          ·cases h3
         simp only[Op.eqFields]
         rw[if_pos h1]
         simp only[Sem.run_bind,DZ g1,DZ g4,Result.andThen_ok,Op.equalIn,run_underlying hu,Sem.run_pure,Sem.run_ite]
         subst hq
         by_cases rL:a=b'
         ·simp[rL,Nm]
         ·simp[rL]
      ·cases hq
     ·cases hq
theorem Ml(hT:bP P T){t:TypeId}{op:BinOp}{xs ys:List C}{r:QR}{us vs:Array Value}(h:J7 T t op xs ys=some r)(hx:bz V hp w xs us.toList)(hy:bz V hp w ys vs.toList)(ox oy:Operand) :
 fD P V hp w r (do eqGuard op t ox oy (.agg us) (.agg vs);binOp op t (.agg us) (.agg vs)):=by
 unfold J7 at h
 rw[uG] at h
 cases ht:T t with
 | none=>rw[ht] at h;cases h
 | some ti =>
   rw[ht] at h
   simp only[Option.bind_some] at h
   cases hk:ti.eq with
   | none=>rw[hk] at h;cases h
   | some ks =>
     rw[hk] at h
     simp only at h
     have he:=Tf (hT t _ ht) hk
     unfold QM at he
     split at he
     ·rename_i fs hu
      simp only[Bool.and_eq_true,Bool.not_eq_true'] at he
      obtain⟨⟨h1,h2⟩,h3⟩:=he
      have TB:P.fieldsOf t=fs:=by unfold Program.fieldsOf;rw[hu]
      have each:∀ {zs:List C} {ws:Array Value},bz V hp w zs ws.toList->∀(j:Nat) c,zs[j]? = some c->∃ u,ws[0+j]? = some u/\C.ok V hp w c u:=by
       intro zs ws ho j c hj
       have aZ:=(List.getElem?_eq_some_iff.1 hj).1
       have uz:j<ws.size:=by have:=ho.1;simp at this;omega
       have hv:ws[j]? = some ws[j]:=Array.getElem?_eq_getElem uz
       exact⟨ws[j],by rw[Nat.zero_add];exact hv,ho.2 j c _ hj (by simp)⟩
      have key:∀ b,ub ks xs ys=some b->(Op.equalIn 10000 t (.agg us) (.agg vs)).run P w = .ok b w:=by
       intro b hb
       rw[show (10000:Nat)=9999+1 from rfl,run_equalIn_agg w 9999 t us vs (by rw[TB];exact hu) h1,TB]
       exact Jm 9998 fs.toList 0 ks xs ys b h3 hb (each hx) (each hy)
      split at h
      ·rename_i b hb
       injection h with h;subst h
       exact⟨rfl,rfl,.bool b,by rw[Sem.run_bind,run_eqGuard_agg w _ t ox oy us vs h2,Result.andThen_ok,run_eql_struct,key b hb];rfl,rfl,trivial⟩
      ·rename_i b hb
       injection h with h;subst h
       exact⟨rfl,rfl,.bool (!b),by rw[Sem.run_bind,run_eqGuard_agg w _ t ox oy us vs h2,Result.andThen_ok,run_neq_struct,key b hb];rfl,rfl,trivial⟩
      ·cases h
     ·cases he
theorem dA:∀ e:Ty,e.iX.length=e.size
 | .int _=>rfl
 | .bool=>rfl
 | .str=>rfl
 | .sl _=>rfl
 | .st t=>dA t
 | .pr a b=>by
   show (a.iX++b.iX).length=a.size+b.size
   rw[List.length_append,dA a,dA b]
 | .ptr _=>rfl
 | .bZ _ _=>rfl
 | .gs _ _=>rfl
theorem NG(z:Array Value)(n k:Nat)(h:k<n):(madeCells z n)[k]? = some z[k%z.size]! := by
 unfold madeCells
 rw[Array.getElem?_map]
 have:(Array.range n)[k]? = some k:=by rw[Array.getElem?_range];simp[h]
 rw[this];rfl
theorem BY(hT:bP P T){base:Nat}{M:LM}{w0:World}(m:Mem base M w0 V hp w){nx:Nat}(hd:hp nx = .dead){t:TypeId}{l c:C}{r:QR}{u v:Value}(h:qf T nx t l c=some r)(dr:∀ p,r.ob=some p->p)
 (hu:C.ok V hp w l u) (hv:C.ok V hp w c v):∃ x w' V',(Instr.makeSlice t u v).run P w = .ok x w'/\Good base M w0 V hp w nx r.res r.new r.hy x w' V':=by
 unfold qf at h
 split at h
 ·rename_i te es eb e sz fv z0 yK m8 n mm heq
  split at h
  ·rename_i dW
   rw[Bool.and_eq_true] at dW
   obtain⟨dW,OP⟩:=dW
   replace dW:=of_decide_eq_true dW
   injection h with h;subst h
   obtain⟨h0,h1,h2⟩:=dr _ rfl
   obtain⟨rfl,_⟩:=ok_int hu
   obtain⟨rfl,Lv⟩:=ok_int hv
   obtain⟨g1,g2,i,z,g3,g4,g5,g6,g7⟩:=oq (eQ (hT t _ heq)).2.2
   have hb:(i.bytes:Int)*mm<=281474976710656:=by rw[g5,Int.mul_comm];omega
   have Tt:mm<=9223372036854775807:=Lv.2
   have XH:mm<=140737488355328:=by
    have:mm*1<=mm*(eb:Int):=Int.mul_le_mul_of_nonneg_left (by omega) (by omega)
    omega
   have dM:=run_make (P:=P) w t te i z g1 g3 g6 .i64 .i64 n mm h0 h1 hb Tt
   rw[g4] at dM
   have jh:z.cells.size=e.size:=by rw[g7];simpa using dA e
   obtain⟨V',hg⟩:=ko m hd (madeCells z.cells (mm.toNat*e.size)) te (.row true e (List.replicate n.toNat e.fe)) (.c (.own nx)) (.slice (some ⟨w.heap.size,0,none⟩) n.toNat mm.toNat) (fun h=>h)
    (fun V' aH w' x k1 k2 k3 k4=>by
      constructor
      ·refine .inr ⟨k1,_,te,by rw[k2];exact k4,by rw[List.length_replicate];unfold cX;omega,fun j hj=>?_⟩
       rw[List.length_replicate] at hj
       refine⟨e.iX,dA e,fun q u hq=>?_,by rw[List.getElem_replicate];exact aF.zero e OP⟩
       have eT:=(List.getElem?_eq_some_iff.1 hq).1
       rw[dA e] at eT
       have aZ:j*e.size+q<mm.toNat*e.size:=by
        have:(j+1)*e.size<=mm.toNat*e.size:=Nat.mul_le_mul_right _ (by omega)
        rw[Nat.add_mul] at this;omega
       rw[NG _ _ _ aZ,jh]
       have sC:(j*e.size+q)%e.size=q:=by rw[Nat.mul_comm,Nat.mul_add_mod];exact Nat.mod_eq_of_lt eT
       rw[sC,g7]
       have RB:q<e.iX.length:=by rw[dA e];exact eT
       rw[List.getElem?_eq_getElem RB] at hq
       simp only[Option.some.injEq] at hq
       rw[<-hq]
       simp[RB]
      ·refine⟨true,e,_,k3,.inr ⟨k1,mm.toNat,_,te,by rw[k2,List.length_replicate],by rw[k2];exact k4,size_madeCells _ _,by rw[List.length_replicate];omega⟩⟩)
   exact⟨_,_,V',dM,hg⟩
  ·cases h
 ·cases h
theorem EL(off:Nat):∀(l:List Value) (k:Nat) (a:Array Value),off+k+l.length<=a.size →
 ((l.zipIdx k).foldl (fun cs (x:Value×Nat)=>cs.setIfInBounds (off+x.2) x.1) a).toList=a.toList.take (off+k)++l++a.toList.drop (off+k+l.length)
 | [],k,a,_=>by simp
 | v::l,k,a,h=>by
   simp only[List.zipIdx_cons,List.foldl_cons]
   rw[EL off l (k+1) _ (by simp at h ⊢;omega)]
   have aZ:off+k<a.toList.length:=by simp at h ⊢;omega
   simp only[Array.toList_setIfInBounds,List.length_cons]
   rw[show off+(k+1)=off+k+1 by omega,List.take_set,List.drop_set,if_pos (by omega)]
   rw[show off+k+(l.length+1)=off+k+1+l.length by omega]
   have hm:(a.toList.take (off+k)).length=off+k:=by rw[List.length_take];omega
   rw[List.take_succ_eq_append_getElem aZ,List.set_append_right _ _ (by rw[hm];exact Nat.le_refl _),hm]
   simp
theorem CI(place:Nat->Option (Nat×Nat))(cells:Array Value)(i off size:Nat)(v:Value)(rest:List (Nat×Value))(aH:place i=some (off,size))(h1:v.cells.size=size)(h2:off+size<=cells.size) :
 Instr.fill place cells ((i,v)::rest)=Instr.fill place ((cells.toList.take off++v.cells.toList++cells.toList.drop (off+size)).toArray) rest:=by
 have:=EL off v.cells.toList 0 cells (by simp[h1];exact h2)
 simp only[Nat.add_zero,Array.length_toList,h1] at this
 have e:v.cells.zipIdx.foldl (fun cs (x:Value×Nat)=>cs.setIfInBounds (off+x.2) x.1) cells=(cells.toList.take off++v.cells.toList++cells.toList.drop (off+size)).toArray:=by
  apply Array.ext'
  rw[<-this,<-Array.foldl_toList]
  simp[Array.toList_zipIdx]
 rw[<-e]
 simp only[Instr.fill,aH]
 rw[if_neg (by simp[h1];omega)]
theorem tW{s:S}{cs:List C}{v:Value}(h:s.cells=some cs)(ho:S.ok V hp w s v):bz V hp w cs v.cells.toList:=by
 cases s with
 | c x =>
   simp only[S.cells,Option.some.injEq] at h;subst h
   have h1:=C.cO ho
   have:v.cells = #[v]:=by cases v<;>first|rfl|(simp[Value.oneCell'] at h1)
   rw[this]
   exact bd ho ca
 | agg xs =>
   simp only[S.cells,Option.some.injEq] at h;subst h
   obtain⟨vs,rfl,h1⟩:=ho
   exact h1
 | _=>cases h
def kf(V:Vl)(hp:Nat->ax)(w:World):List (Nat×S)->List (Nat×Value)->Prop
 | [],[]=>True
 | p::ps,q::qs=>p.1=q.1/\S.ok V hp w p.2 q.2/\kf V hp w ps qs
 | _,_=>False
theorem EI{fs:List (Nat×Nat×Bool)}{place:Nat->Option (Nat×Nat)}(OP:∀(i:Nat) x,fs[i]? = some x->place i=some (x.1,x.2.1)) :
 ∀ {ps:List (Nat×S)} {qs:List (Nat×Value)} {cs cp:List C} {cells:Array Value},uk fs cs ps=some cp->kf V hp w ps qs->bz V hp w cs cells.toList →
  ∃ dV,Instr.fill place cells qs=some dV/\bz V hp w cp dV.toList
 | [],[],cs,cp,cells,h,_,ho=>by
   simp only[uk,Option.some.injEq] at h;subst h
   exact⟨cells,rfl,ho⟩
 | (i,s)::ps,(j,v)::qs,cs,cp,cells,h,hq,ho=>by
   obtain⟨h1,h2,h3⟩:=hq
   simp only at h1 h2
   subst h1
   unfold uk at h
   split at h
   ·rename_i o n ag xs hi eH
    rw[dH] at hi
    simp only[cy,j8,j7,bT] at h
    split at h
    ·rename_i hc
     have qY:=tW eH h2
     have hlen:v.cells.size=n:=by have:=qY.1;rw[hc.1] at this;simpa using this.symm
     have cv:cells.size=cs.length:=by have:=ho.1;simpa using this.symm
     rw[CI place cells i o n v qs (OP i _ hi) hlen (by omega)]
     refine EI OP h h3 ?_
     have:=gq (gq (kv ho o) qY) (ku ho (o+n))
     simpa[List.append_assoc] using this
    ·cases h
   ·cases h
 | [],_::_,_,_,_,_,hq,_=>hq.elim
 | _::_,[],_,_,_,_,hq,_=>hq.elim
theorem C7:∀ {fl:List Field} {fs:List (Nat×Nat×Bool)},nZ P fl fs=true →
 ∃ pe,fl.mapM (fun f=>(P.info? f.type).map fun i=>(f.offset,i.size))=some pe/\∀(i:Nat) x,fs[i]? = some x->pe[i]? = some (x.1,x.2.1)
 | [],fs,k2=>⟨[],rfl,fun i x hx=>by obtain⟨f,_,_,h,_⟩:=uj k2 hx;simp at h⟩
 | f::fl,[],k2=>by cases k2
 | f::fl,y::ys,k2=>by
   obtain⟨f',j,d,e1,e2,e3,e4,e5,_⟩:=uj k2 (i:=0) (x:=y) rfl
   simp only[List.getElem?_cons_zero,Option.some.injEq] at e1
   subst e1
   unfold nZ at k2
   simp only[Bool.and_eq_true] at k2
   obtain⟨pe,m1,m2⟩:=C7 k2.2
   refine⟨(f.offset,j.size)::pe,by simp[e4,m1],fun i x hx=>?_⟩
   cases i with
   | zero=>simp only[List.getElem?_cons_zero,Option.some.injEq] at hx;subst hx;simp[e2,e5]
   | succ i=>simpa using m2 i x (by simpa using hx)
theorem Hr(hT:bP P T){t:TypeId}{fs:List (Nat×Nat×Bool)}{sz fv:Nat}{z:List Value}{ty:Option Ty}{m8:Option (List Bool)}(heq:T t=some { k:=.st fs,size:=sz,bytes:=fv,zero:=z,ty:=ty,eq:=m8 })
 {ps:List (Nat×S)} {qs:Array (Nat×Value)} {r:QR} (h:omap (fun cs=>({ res:=.agg cs }:QR)) (uk fs (lmap cell z) ps)=some r) (hq:kf V hp w ps qs.toList):fD P V hp w r (Instr.build t qs):=by
 simp only[ee] at h
 cases hf:uk fs (lmap cell z) ps with
 | none=>rw[hf] at h;cases h
 | some cs =>
   rw[hf] at h
   simp only[Option.map_some,Option.some.injEq] at h
   subst h
   obtain⟨⟨i,zv,g1,g2,g3,g4,g5,g6⟩,g7,g8⟩:=eQ (hT t _ heq)
   obtain⟨fields,k1,k2⟩:=Dh g8
   have pe:=C7 k2
   obtain⟨pe,m1,m2⟩:=pe
   obtain⟨dV,n1,n2⟩:=EI (place:=fun i=>pe.toArray[i]?) (cells:=z.toArray) (fun i x hx=>by simpa using m2 i x hx) hf hq (by simpa using g6 V hp w)
   refine⟨rfl,rfl,.agg dV,?_,dV,rfl,n2⟩
   refine run_build w t qs dV ?_
   unfold Program.built
   simp only[g1,k1,g4,m1]
   rw[g5]
   exact n1
end
end Go.SX
/- Literals of slices; calls under a contract; every operation that writes nothing. No condition. -/
namespace Go.SX
open Go.RowKit
set_option linter.unusedVariables false
set_option linter.unusedSimpArgs false
section
variable {P : Program} {T : bN} {V : Vl} {hp lk : Nat → ax} {w : World}
theorem iM{fr aV:Bool}(h:fr=true->aV=true){b:Nat}(hz:V.Z aV b):V.Z fr b:=by
 cases fr with
 | false=>exact Vl.cN hz
 | true=>have:=h rfl;subst this;exact hz
theorem Mq{fr:Bool}{e:Ty}{c:C}{xs:List e.den}{v:Value}(h:oc lk e c=some xs)(ho:C.ok V hp w c v)(h1:c.dI=true)(h2:fr=true->c.ek=true):aF (V.Z fr) w (.sl e) [v] xs:=by
 unfold oc at h
 split at h
 ·rename_i aV e' a_
  have b5:aF (V.Z aV) w (.sl e') [v] a_:=ho
  exact oY (b5.mono (fun b hb=>iM h2 hb) (fun _ _=>rfl)) h
 ·cases h1
 ·cases h1
 ·cases h1
 ·rename_i aV wh e' b a_
  have b5:aF (V.Z aV) w (.gs wh e') [v] (b,a_):=ho
  exact oY (xo (b5.mono (fun b hb=>iM h2 hb) (fun _ _=>rfl))) h
 ·injection h with h;subst h
  rw[ho.1]
  exact aF.zero (.sl e) rfl
 ·cases h
theorem Kc{fr:Bool}:∀(t:Ty) {cs:List C} {d:t.den} {rest:List C} {vs:List Value},gA lk t cs=some (d,rest)->bz V hp w cs vs->(∀ c∈cs,c.dI=true/\(fr=true->c.ek=true)) →
 ∃ us ws,vs=us++ws/\aF (V.Z fr) w t us d/\bz V hp w rest ws/\∃ ps,cs=ps++rest:=by
 intro t
 induction t with
 | int k =>
   intro cs d rest vs h ho hz
   obtain⟨c,rfl,hc⟩:=bX h
   obtain⟨v,bO,rfl,h1,h2⟩:=cF ho
   obtain⟨h3,h4⟩:=uO hc h1
   exact⟨[v],bO,rfl,⟨by rw[h3],h4⟩,h2,[c],rfl⟩
 | bool =>
   intro cs d rest vs h ho hz
   obtain⟨c,rfl,hc⟩:=bX h
   obtain⟨v,bO,rfl,h1,h2⟩:=cF ho
   exact⟨[v],bO,rfl,by rw[wT hc h1];exact rfl,h2,[c],rfl⟩
 | str =>
   intro cs d rest vs h ho hz
   obtain⟨c,rfl,hc⟩:=bX h
   obtain⟨v,bO,rfl,h1,h2⟩:=cF ho
   obtain⟨h3,h4⟩:=kc hc h1
   exact⟨[v],bO,rfl,⟨by rw[h3],h4⟩,h2,[c],rfl⟩
 | sl e ih =>
   intro cs d rest vs h ho hz
   obtain⟨c,rfl,hc⟩:=bX h
   obtain⟨v,bO,rfl,h1,h2⟩:=cF ho
   obtain⟨h3,h4⟩:=hz c (by simp)
   exact⟨[v],bO,rfl,Mq hc h1 h3 h4,h2,[c],rfl⟩
 | st t ih=>exact fun h ho hz=>ih h ho hz
 | pr a b fy fA =>
   intro cs d rest vs h ho hz
   unfold gA at h
   cases ha:gA lk a cs with
   | none=>simp[ha] at h
   | some x =>
     obtain⟨x,r⟩:=x
     simp only[ha] at h
     cases hb:gA lk b r with
     | none=>simp[hb] at h
     | some y =>
       obtain⟨y,r'⟩:=y
       simp only[hb,Option.some.injEq,Prod.mk.injEq] at h
       obtain⟨rfl,rfl⟩:=h
       obtain⟨us,ws,rfl,h1,h2,ps,rfl⟩:=fy ha ho hz
       obtain⟨MF,SJ,rfl,h3,h4,Xj,rfl⟩:=fA hb h2 (fun c hc=>hz c (List.mem_append_right _ hc))
       exact⟨us++MF,SJ,by rw[List.append_assoc],⟨us,MF,rfl,h1,h3⟩,h4,ps++Xj,by rw[List.append_assoc]⟩
 | ptr t ih =>
   intro cs d rest vs h ho hz
   obtain⟨c,rfl,hc⟩:=bX h
   obtain⟨v,bO,rfl,h1,h2⟩:=cF ho
   obtain⟨h3,h4⟩:=hz c (by simp)
   refine⟨[v],bO,rfl,?_,h2,[c],rfl⟩
   unfold Kb at hc
   split at hc
   ·split at hc
    ·rename_i hk;subst hk;injection hc with hc;subst hc
     obtain⟨b,o,e1,e2,es,e3,e4,e5⟩:=h1
     exact⟨b,o,by rw[e1,Nat.add_zero],iM h4 e2,es,e3,e4,e5.mono (fun b hb=>iM h4 hb) (fun _ _=>rfl)⟩
    ·cases hc
   ·cases h3
   ·cases hc
 | bZ f t ih =>
   intro cs d rest vs h ho hz
   obtain⟨c,rfl,hc⟩:=bX h
   obtain⟨v,bO,rfl,h1,h2⟩:=cF ho
   obtain⟨h3,h4⟩:=hz c (by simp)
   refine⟨[v],bO,rfl,?_,h2,[c],rfl⟩
   unfold Ka at hc
   split at hc
   ·split at hc
    ·rename_i hf
     split at hc
     ·rename_i hk;subst hk;subst hf;injection hc with hc;subst hc
      exact aF.mono (t:=.bZ _ _) (fun b hb=>iM h4 hb) (fun _ _=>rfl) h1
     ·cases hc
    ·cases hc
   ·rename_i f' ns
    split at hc
    ·rename_i hf
     subst hf
     cases ns with
     | cons n ns=>cases h3
     | nil =>
       obtain⟨us,ws,e5,e6,e7,_⟩:=ih (u5 hc) (show bz V hp w [] [] from ca) (fun c hc=>by cases hc)
       have hu:us=[]:=(List.append_eq_nil_iff.1 e5.symm).1
       subst hu
       exact⟨#[],congrArg (fun x=>[x]) h1.1,e6⟩
    ·cases hc
   ·cases hc
 | gs wh e ih =>
   intro cs d rest vs h ho hz
   obtain⟨c,rfl,hc⟩:=bX h
   obtain⟨v,bO,rfl,h1,h2⟩:=cF ho
   obtain⟨h3,h4⟩:=hz c (by simp)
   exact⟨[v],bO,rfl,Ga hc h1 h4,h2,[c],rfl⟩
theorem eP{fr:Bool}{t:Ty}{cs:List C}{d:t.den}{vs:List Value}(h:readAll lk t cs=some d)(ho:bz V hp w cs vs)(hz:∀ c∈cs,c.dI=true/\(fr=true->c.ek=true)):aF (V.Z fr) w t vs d:=by
 unfold readAll at h
 split at h
 ·rename_i d' hr
  injection h with h;subst h
  obtain⟨us,ws,rfl,h1,h2,_⟩:=Kc t hr ho hz
  have:ws=[]:=by have:=h2.1;simp at this;exact List.length_eq_zero_iff.1 this.symm
  rw[this,List.append_nil]
  exact h1
 ·cases h
theorem Kd{fr:Bool}{t:Ty}{s:S}{d:t.den}{v:Value}(h:lu lk t s=some d)(ho:S.ok V hp w s v)(h1:s.dI=true)(h2:fr=true->s.ek=true):aF (V.Z fr) w t v.cells.toList d:=by
 unfold lu at h
 split at h
 ·rename_i x
  split at h
  ·cases h
  ·have kO:=C.cO ho
   have hc:v.cells = #[v]:=by cases v<;>first|rfl|(simp[Value.oneCell'] at kO)
   rw[hc]
   exact eP h (bd ho ca) (fun c hc=>by simp at hc;subst hc;exact⟨h1,h2⟩)
 ·rename_i cs
  split at h
  ·obtain⟨vs,rfl,h3⟩:=ho
   refine eP h h3 (fun c hc=>⟨?_,fun hf=>?_⟩)
   ·have je:df C.dI cs=true:=h1
    rw[dG,List.all_eq_true] at je
    exact je c hc
   ·have vm:df C.ek cs=true:=h2 hf
    rw[dG,List.all_eq_true] at vm
    exact vm c hc
  ·cases h
 ·cases h
theorem x_(fr:Bool):∀(t:Ty) (d:t.den),∀ c∈expand fr t d,c.dI=true/\(fr=true->c.ek=true):=by
 intro t
 induction t with
 | int k=>intro d c hc;simp[expand] at hc;subst hc;exact⟨rfl,fun _=>rfl⟩
 | bool=>intro d c hc;simp[expand] at hc;subst hc;exact⟨rfl,fun _=>rfl⟩
 | str=>intro d c hc;simp[expand] at hc;subst hc;exact⟨rfl,fun _=>rfl⟩
 | sl e ih=>intro d c hc;simp[expand] at hc;subst hc;exact⟨rfl,fun h=>h⟩
 | st t ih=>exact fun d=>ih d
 | pr a b fy fA =>
   intro d c hc
   unfold expand at hc
   rw[bT,List.mem_append] at hc
   exact hc.elim (fy _ c) (fA _ c)
 | ptr t ih=>intro d c hc;simp[expand] at hc;subst hc;exact⟨rfl,fun h=>h⟩
 | bZ f t ih=>intro d c hc;simp[expand] at hc;subst hc;exact⟨rfl,fun h=>h⟩
 | gs wh e ih=>intro d c hc;simp[expand] at hc;subst hc;exact⟨rfl,fun h=>h⟩
theorem zo{fr:Bool}{e:Ty}:∀ {ps:List (Nat×S)} {qs:List (Nat×Value)} {k:Nat} {xs:List e.den} {cells:Array Value},iV lk e k ps=some xs->kf V hp w ps qs →
 (∀ p∈ps,p.2.dI=true/\(fr=true->p.2.ek=true))->(k+ps.length)*e.size<=cells.size →
 ∃ dV,Instr.fill (fun i=>some (i*e.size,e.size)) cells qs=some dV/\dV.size=cells.size/\(∀ j,j<k*e.size->dV[j]? = cells[j]?)/\xs.length=ps.length ∧
  ∀ i (h:i<xs.length),∃ es,es.length=e.size/\(∀(j:Nat) u,es[j]? = some u->dV[(k+i)*e.size+j]? = some u)/\aF (V.Z fr) w e es xs[i]
 | [],[],k,xs,cells,h,_,_,_=>by
   simp only[iV,Option.some.injEq] at h;subst h
   exact⟨cells,rfl,rfl,fun _ _=>rfl,rfl,fun i hi=>by simp at hi⟩
 | (i,s)::ps,(j,v)::qs,k,xs,cells,h,hq,hz,cv=>by
   obtain⟨h1,h2,h3⟩:=hq
   simp only at h1 h2
   subst h1
   unfold iV at h
   simp only at h
   split at h
   ·rename_i gD
    subst gD
    split at h
    ·rename_i x a_ hx qY
     injection h with h;subst h
     obtain⟨z1,z2⟩:=hz (i,s) (by simp)
     have gp:=Kd (fr:=fr) hx h2 z1 z2
     have hlen:=aF.length gp
     simp only[Array.length_toList] at hlen
     have sD:i*e.size+e.size<=cells.size:=by
      have:(i+1)*e.size<=(i+((i,s)::ps).length)*e.size:=Nat.mul_le_mul_right _ (by simp)
      rw[Nat.add_mul,Nat.one_mul] at this
      omega
     rw[CI _ cells i (i*e.size) e.size v qs rfl hlen sD]
     obtain⟨dV,g1,g2,g3,g4,g5⟩:=zo (fr:=fr) (k:=i+1) qY h3 (fun p aH=>hz p (by simp[aH])) (cells:=(cells.toList.take (i*e.size)++v.cells.toList++cells.toList.drop (i*e.size+e.size)).toArray) (by
      have hh:(cells.toList.take (i*e.size)++v.cells.toList++cells.toList.drop (i*e.size+e.size)).length=cells.size:=by
       simp only[List.length_append,List.length_take,List.length_drop,Array.length_toList,hlen];omega
      simp only[List.size_toArray,hh]
      rw[show i+1+ps.length=i+((i,s)::ps).length by simp;omega]
      exact cv)
     have S0:(cells.toList.take (i*e.size)++v.cells.toList++cells.toList.drop (i*e.size+e.size)).length=cells.size:=by
      simp only[List.length_append,List.length_take,List.length_drop,Array.length_toList,hlen];omega
     have Fh:(cells.toList.take (i*e.size)).length=i*e.size:=by rw[List.length_take,Array.length_toList];omega
     refine⟨dV,g1,by rw[g2];simp only[List.size_toArray,S0],fun j hj=>?_,by simp[g4],fun q eT=>?_⟩
     ·rw[g3 j (by rw[Nat.add_mul];omega)]
      rw[List.getElem?_toArray,List.append_assoc,List.getElem?_append_left (by rw[Fh];exact hj),List.getElem?_take,if_pos hj]
      simp
     ·cases q with
      | zero =>
        refine⟨v.cells.toList,by simpa using hlen,fun j u hu=>?_,gp⟩
        have hj:=(List.getElem?_eq_some_iff.1 hu).1
        simp only[Array.length_toList,hlen] at hj
        rw[Nat.add_zero,g3 (i*e.size+j) (by rw[Nat.add_mul,Nat.one_mul];omega)]
        rw[List.getElem?_toArray,List.append_assoc,List.getElem?_append_right (by rw[Fh];omega),Fh,show i*e.size+j-i*e.size=j by omega,List.getElem?_append_left (by simp[hlen];exact hj)]
        exact hu
      | succ q =>
        obtain⟨es,k1,k2,k3⟩:=g5 q (by simpa using eT)
        refine⟨es,k1,fun j u hu=>?_,k3⟩
        rw[show i+(q+1)=i+1+q by omega]
        exact k2 j u hu
    ·cases h
   ·cases h
 | [],_::_,_,_,_,_,hq,_,_=>hq.elim
 | _::_,[],_,_,_,_,hq,_,_=>hq.elim
theorem qj(e:Ty):∀ n,(iD n e).length=n*e.size
 | 0=>by simp[iD]
 | n+1=>by simp only[iD,List.length_append,dA,qj e n,Nat.add_mul,Nat.one_mul];omega
theorem Bk(e:Ty):∀(n i j:Nat),i<n->j<e.size->(iD n e)[i*e.size+j]? = e.iX[j]?
 | 0,i,j,h,_=>by omega
 | n+1,0,j,_,hj=>by
   rw[Nat.zero_mul,Nat.zero_add]
   simp only[iD]
   rw[List.getElem?_append_left (by rw[dA];exact hj)]
 | n+1,i+1,j,h,hj=>by
   simp only[iD]
   rw[List.getElem?_append_right (by rw[dA,Nat.add_mul,Nat.one_mul];omega),dA,show (i+1)*e.size+j-e.size=i*e.size+j by rw[Nat.add_mul,Nat.one_mul];omega]
   exact Bk e n i j (by omega) hj
theorem Dn{e:Ty}(aH:e.plain=true)(n:Nat){Z:Nat->Prop}{w':World}:∀ i (h:i<(List.replicate n e.fe).length),∃ es,es.length=e.size/\(∀(j:Nat) u,es[j]? = some u->(iD n e)[i*e.size+j]? = some u)/\aF Z w' e es (List.replicate n e.fe)[i]:=by
 intro i h
 rw[List.length_replicate] at h
 refine⟨e.iX,dA e,fun j u hu=>?_,?_⟩
 ·have hj:=(List.getElem?_eq_some_iff.1 hu).1
  rw[dA] at hj
  rw[Bk e n i j h hj];exact hu
 ·rw[List.getElem_replicate]
  exact aF.zero e aH
theorem Hp(hT:bP P T){t:TypeId}{len te es n:Nat}{c6:Ty}{sz fv:Nat}{z:List Value}{ty:Option Ty}{m8:Option (List Bool)}(heq:T t=some { k:=.arr len te es n c6,size:=sz,bytes:=fv,zero:=z,ty:=ty,eq:=m8 })
 {ps:List (Nat×S)} {qs:Array (Nat×Value)} {r:QR} (h:BS len es n c6 ps=some r) (hq:kf V hp w ps qs.toList):fD P V hp w r (Instr.build t qs):=by
 obtain⟨⟨i,zv,g1,g2,g3,g4,g5,g6⟩,g7,g8⟩:=eQ (hT t _ heq)
 obtain⟨a0,a1,⟨i2,a2,a3⟩,a4,a5,a6,a7,a8⟩:=Gz (hT t _ heq) rfl
 simp only at a0 g5
 subst a0
 have Ld:∀ dV,Instr.fill (fun i=>some (i*es,es)) (iD n c6).toArray qs.toList=some dV->(Instr.build t qs).run P w = .ok (.agg dV) w:=by
  intro dV hf
  simp only[Instr.build,Sem.run_bind,jj g1 g4,Result.andThen_ok,run_underlying a1,run_sizeOf a2,a3,g5,hf,Sem.run_pure]
 unfold BS at h
 split at h
 ·injection h with h;subst h
  have WA:qs.toList=[]:=by
   cases RD:qs.toList with
   | nil=>rfl
   | cons q r=>rw[RD] at hq;exact hq.elim
  refine⟨rfl,rfl,_,Ld (iD n c6).toArray (by rw[WA];rfl),a4,_,rfl,by simp[qj],fun i hi=>?_⟩
  obtain⟨iI,k1,k2,k3⟩:=Dn (Z:=fun _=>False) (w':=w) a5 n i hi
  exact⟨iI,k1,fun j u hu=>by simpa using k2 j u hu,k3⟩
 ·split at h
  case isFalse=>cases h
  case isTrue hc =>
  simp only[Bool.and_eq_true,decide_eq_true_eq,dG,List.all_eq_true,cy] at hc
  obtain⟨⟨c1,c2⟩,c3⟩:=hc
  rw[ee] at h
  cases hx:iV (fun _=>.dead) c6 0 ps with
  | none=>rw[hx] at h;cases h
  | some xs =>
    rw[hx] at h
    simp only[Option.map_some,Option.some.injEq] at h
    subst h
    have nr:n=len:=by
     rw[c3] at a6
     exact Nat.eq_of_mul_eq_mul_right c6.size_pos a6
    obtain⟨dV,k1,k2,k3,k4,k5⟩:=zo (fr:=false) (k:=0) (cells:=(iD n c6).toArray) hx hq (fun p aH=>⟨c1 p aH,fun hf=>by cases hf⟩) (by simp[qj,c2,nr])
    rw[<-c3] at k1
    refine⟨rfl,rfl,_,Ld dV k1,a4,dV,rfl,by rw[k2,k4,c2];simp[qj,nr],fun i hi=>?_⟩
    obtain⟨iI,p1,p2,p3⟩:=k5 i hi
    exact⟨iI,p1,fun j u hu=>by have:=p2 j u hu;rwa [Nat.zero_add] at this,p3.flat a4⟩
theorem J9(hT:bP P T){t:TypeId}{ps:List (Nat×S)}{qs:Array (Nat×Value)}{r:QR}(h:F8 T t ps=some r)(hq:kf V hp w ps qs.toList):fD P V hp w r (Instr.build t qs):=by
 unfold F8 at h
 split at h
 ·rename_i heq;exact Hr hT heq h hq
 ·rename_i heq;exact Hp hT heq h hq
 ·cases h
theorem JQ(e:Ty)(ps:List (Nat×S)):(AI e ps).size=e.size:=by
 unfold AI
 split
 ·rename_i h
  rw[Bool.and_eq_true,decide_eq_true_eq] at h
  rw[<-bJ e.xp,h.2]
 ·rfl
theorem Hq(hT:bP P T){base:Nat}{M:LM}{w0:World}(m:Mem base M w0 V hp w){nx:Nat}(hd:hp nx = .dead){t:TypeId}{n:Nat}{ps:List (Nat×S)}{qs:Array (Nat×Value)}{r:QR}
 (h:xA T nx t n ps=some r) (hq:kf V hp w ps qs.toList):∃ x w' V',(Instr.buildSlice t n qs).run P w = .ok x w'/\Good base M w0 V hp w nx r.res r.new r.hy x w' V':=by
 unfold xA at h
 split at h
 ·rename_i e sz fv z ty m8 a o b p heq
  split at h
  ·rename_i hn
   injection h with h;subst h;subst hn
   obtain⟨hu,i,zv,h3,h4,_,h5,h6⟩:=wD (eQ (hT t _ heq)).2.2
   obtain⟨u,v,RD,Tz,Le⟩:∃ u v,qs.toList=[(0,u),(1,v)]/\C.ok V hp w (.box a o) u/\C.ok V hp w (.box b p) v:=by
    generalize qs.toList=l at hq
    match l,hq with
    | [(k0,u),(k1,v)],⟨e0,s0,e1,s1,_⟩ =>
      have e0:0=k0:=e0
      have e1:1=k1:=e1
      subst e0;subst e1
      exact⟨u,v,rfl,s0,s1⟩
   obtain⟨V',hg⟩:=ko m hd #[u,v] e (.bx [.box a o,.box b p]) (.c (.iY nx 2)) (.slice (some ⟨w.heap.size,0,none⟩) 2 2) (fun h=>h)
    (fun V' aH w' x k1 k2 k3 k4=>⟨⟨_,e,by rw[k2];exact k4,ma x (bd Tz (bd Le ca))⟩,⟨2,⟨by rw[k2],by omega⟩,k1,_,k3⟩⟩)
   refine⟨_,_,V',?_,hg⟩
   have Js:Instr.fill (fun i=>some (i*1,1)) ((Array.range (2*1)).map (zv.cells[·%zv.cells.size]!)) qs.toList=some #[u,v]:=by
    have hz:(Array.range (2*1)).map (zv.cells[·%zv.cells.size]!) = #[.pointer none,.pointer none]:=by
     rw[h6]
     apply Array.ext'
     simp[List.range_succ]
    rw[hz,RD,Tz.1,Le.1]
    simp[Instr.fill,Value.cells]
   simp only[Instr.buildSlice,Sem.run_bind,run_underlying hu,Result.andThen_ok,run_sizeOf h3,h4,Sem.run_ite]
   rw[if_neg (by omega)]
   simp only[Result.andThen_ok,Sem.run_pure,Sem.run_bind]
   rw[if_neg (by omega)]
   simp only[jj h3 h5,Result.andThen_ok,Sem.run_pure,Js,newRow,Sem.run_bind,run_newObj_alloc]
  ·cases h
 ·cases h
theorem rX(hT:bP P T){base:Nat}{M:LM}{w0:World}(m:Mem base M w0 V hp w){nx:Nat}(hd:hp nx = .dead){t:TypeId}{n:Nat}{ps:List (Nat×S)}{qs:Array (Nat×Value)}{r:QR}
 (h:jq T lk nx t n ps=some r) (hq:kf V hp w ps qs.toList):∃ x w' V',(Instr.buildSlice t n qs).run P w = .ok x w'/\Good base M w0 V hp w nx r.res r.new r.hy x w' V':=by
 unfold jq at h
 cases he:i_ T t with
 | none=>rw[he] at h;exact Hq hT m hd h hq
 | some e0 =>
   rw[he] at h
   simp only at h
   have cv:=JQ e0 ps
   generalize AI e0 ps=e at h cv
   unfold pM at h
   split at h
   ·rename_i hc
    rw[Bool.and_eq_true] at hc
    obtain⟨hc,c4⟩:=hc
    simp only[Bool.and_eq_true,decide_eq_true_eq,dG,List.all_eq_true,cy] at hc
    obtain⟨⟨c1,c2⟩,c3⟩:=hc
    rw[ee] at h
    cases hx:iV lk e 0 ps with
    | none=>rw[hx] at h;cases h
    | some xs =>
      rw[hx] at h
      simp only[Option.map_some,Option.some.injEq] at h
      subst h
      obtain⟨te,i,z,h2,h3,h4,h5,h6⟩:=vP hT he
      rw[<-cv] at h4
      generalize gb:(e.flat||df (fun p=>p.2.ek) ps)=fl
      have jh:z.cells.size=e.size:=by rw[h6,cv];simpa using dA e0
      generalize la:(if n*e.size=0 then (#[]:Array Value) else z.cells)=z0
      have Js:=zo (fr:=df (fun p=>p.2.ek) ps) (k:=0) (cells:=(Array.range (n*e.size)).map (z0[·%z0.size]!)) hx hq (fun p aH=>⟨c1 p aH,fun hf=>by rw[dG,List.all_eq_true] at hf;exact hf p aH⟩) (by simp[c2])
      obtain⟨dV,g1,g2,g3,g4,g5⟩:=Js
      simp only[Array.size_map,Array.size_range] at g2
      obtain⟨V',hg⟩:=ko m hd dV te (.row fl e xs) (.c (.own nx)) (.slice (some ⟨w.heap.size,0,none⟩) n n)
       (by
         intro hl
         cases fl with
         | true=>exact hl
         | false =>
           have dm:(e.flat||e.bU)=true:=hl
           rw[Bool.or_eq_false_iff] at gb
           rw[gb.1,Bool.false_or] at dm
           rw[dm,gb.2] at c4
           cases c4)
       (fun V' aH w' x k1 k2 k3 k4=>by
         constructor
         ·refine .inr ⟨k1,_,te,by rw[k2];exact k4,?_,fun j hj=>?_⟩
          ·rw[g4,c2]
           have:n*1<=n*e.size:=Nat.mul_le_mul_left _ e.size_pos
           unfold cX;omega
          ·obtain⟨es,q1,q2,q3⟩:=g5 j hj
           refine⟨es,q1,fun a u hu=>by have:=q2 a u hu;rwa [Nat.zero_add] at this,?_⟩
           cases o9:e.flat with
           | true=>exact q3.flat o9
           | false =>
             rw[o9,Bool.false_or] at gb
             rw[<-gb]
             exact x.rd q3
         ·exact⟨fl,e,xs,k3,.inr ⟨k1,n,_,te,by rw[k2,g4,c2],by rw[k2];exact k4,g2,by rw[g4,c2];exact Nat.le_refl _⟩⟩)
      refine⟨_,_,V',?_,hg⟩
      have TQ:¬(16777216<n*e.size):=by omega
      simp only[Instr.buildSlice,Sem.run_bind,run_underlying h2,Result.andThen_ok,run_sizeOf h3,h4,Sem.run_ite]
      rw[if_neg (by omega)]
      simp only[Result.andThen_ok,Sem.run_pure,Sem.run_bind]
      by_cases hn:n*e.size=0
      ·rw[if_pos hn] at la
       rw[if_pos hn,la]
       simp only[Sem.run_pure,Result.andThen_ok,g1,newRow,Sem.run_bind,run_newObj_alloc]
      ·rw[if_neg hn] at la
       rw[if_neg hn]
       simp only[jj h3 h5,Result.andThen_ok,la,Sem.run_pure,g1,newRow,Sem.run_bind,run_newObj_alloc]
   ·cases h
theorem rK:∀ {t:Ty} {Z:Nat->Prop} {cs:List Value} {d:t.den} {bs:List (Option Nat)} (nx:Nat),fQ Z w t cs d bs->(fresh t d nx).2.length=bs.length:=by
 intro t
 induction t with
 | int k=>intro Z cs d bs nx h;rw[h.2];rfl
 | bool=>intro Z cs d bs nx h;rw[h.2];rfl
 | str=>intro Z cs d bs nx h;rw[h.2];rfl
 | sl e ih =>
   intro Z cs d bs nx h
   rcases h with ⟨_,_,rfl⟩|⟨b,cap,aq,el,_,rfl,_⟩<;>rfl
 | st t ih=>exact fun nx h=>ih nx h
 | pr a b fy fA =>
   intro Z cs d bs nx h
   obtain⟨c1,c2,b1,b2,rfl,rfl,h1,h2⟩:=h
   show (cM _ _).length=_
   rw[bT,List.length_append,List.length_append,fy nx h1,fA _ h2]
 | ptr t ih=>intro Z cs d bs nx h;exact h.elim
 | bZ f t ih=>intro Z cs d bs nx h;exact h.elim
 | gs wh e ih=>intro Z cs d bs nx h;exact h.elim
structure lA (V:Vl) (hp:Nat->ax) (Z:Nat->Prop) (nx:Nat) (es:List ax) (bs:List (Option Nat)):Prop where
 has:∀(j:Nat) b,bs[j]? = some b->(V.has (nx+j)↔b.isSome=true)
 aE:∀(j:Nat) b,bs[j]? = some (some b)->V.aE (nx+j)=b
 au:∀(j:Nat) e,es[j]? = some e->hp (nx+j)=e
 u7:∀ b,Z b->V.Z1 b
theorem lA.left{Z:Nat->Prop}{nx:Nat}{e1 e2:List ax}{b1 b2:List (Option Nat)}(h:lA V hp Z nx (e1++e2) (b1++b2)):lA V hp Z nx e1 b1 where
 has j b hb:=h.has j b (by rw[List.getElem?_append_left (List.getElem?_eq_some_iff.1 hb).1];exact hb)
 aE j b hb:=h.aE j b (by rw[List.getElem?_append_left (List.getElem?_eq_some_iff.1 hb).1];exact hb)
 au j e he:=h.au j e (by rw[List.getElem?_append_left (List.getElem?_eq_some_iff.1 he).1];exact he)
 u7:=h.u7
theorem lA.right{Z:Nat->Prop}{nx:Nat}{e1 e2:List ax}{b1 b2:List (Option Nat)}(hl:e1.length=b1.length)(h:lA V hp Z nx (e1++e2) (b1++b2)):lA V hp Z (nx+e1.length) e2 b2 where
 has j b hb:=by
  rw[Nat.add_assoc]
  exact h.has (e1.length+j) b (by rw[hl,List.getElem?_append_right (by omega)];rw[show b1.length+j-b1.length=j by omega];exact hb)
 aE j b hb:=by
  rw[Nat.add_assoc]
  exact h.aE (e1.length+j) b (by rw[hl,List.getElem?_append_right (by omega)];rw[show b1.length+j-b1.length=j by omega];exact hb)
 au j e he:=by
  rw[Nat.add_assoc]
  exact h.au (e1.length+j) e (by rw[List.getElem?_append_right (by omega)];rw[show e1.length+j-e1.length=j by omega];exact he)
 u7:=h.u7
theorem M9{Z:Nat->Prop}:∀ {t:Ty} {cs:List Value} {d:t.den} {bs:List (Option Nat)} {nx:Nat},fQ Z w t cs d bs->lA V hp Z nx (fresh t d nx).2 bs →
 bz V hp w (fresh t d nx).1 cs/\∀(j:Nat) e,(fresh t d nx).2[j]? = some e->e.ok V hp w (nx+j):=by
 intro t
 induction t with
 | int k=>intro cs d bs nx h _;obtain⟨⟨rfl,h1⟩,_⟩:=h;exact⟨bd ⟨rfl,h1⟩ ca,fun j e he=>by simp[fresh] at he⟩
 | bool=>intro cs d bs nx h _;obtain⟨h1,_⟩:=h;rw[show cs=_ from h1];exact⟨bd ⟨rfl,trivial⟩ ca,fun j e he=>by simp[fresh] at he⟩
 | str=>intro cs d bs nx h _;obtain⟨⟨rfl,h1⟩,_⟩:=h;exact⟨bd ⟨rfl,h1⟩ ca,fun j e he=>by simp[fresh] at he⟩
 | sl e ih =>
   intro cs d bs nx h hl
   have h0:hp nx = .row true e d:=hl.au 0 _ rfl
   rcases h with ⟨rfl,rfl,rfl⟩|⟨b,cap,aq,el,rfl,rfl,h1,h2,h3,h4,h5⟩
   ·have hh:¬V.has nx:=fun h=>by have:=(hl.has 0 none rfl).1 h;cases this
    refine⟨bd ⟨true,e,[],h0,.inl ⟨hh,rfl,rfl⟩⟩ ca,fun j e' he=>?_⟩
    cases j with
    | zero=>simp only[fresh,List.getElem?_cons_zero,Option.some.injEq] at he;subst he;exact .inl ⟨hh,rfl⟩
    | succ j=>simp[fresh] at he
   ·have hh:V.has nx:=(hl.has 0 (some b) rfl).2 rfl
    have hb:V.aE nx=b:=hl.aE 0 b rfl
    refine⟨bd ⟨true,e,d,h0,.inr ⟨hh,cap,aq,el,by rw[hb],by rw[hb];exact h1,h2,h3⟩⟩ ca,fun j e' he=>?_⟩
    cases j with
    | zero =>
      simp only[fresh,List.getElem?_cons_zero,Option.some.injEq] at he;subst he
      refine .inr ⟨hh,aq,el,by rw[Nat.add_zero,hb];exact h1,h4,fun i hi=>?_⟩
      obtain⟨es,g1,g2,g3⟩:=h5 i hi
      exact⟨es,g1,g2,g3.mono (fun b hb=>.inl (hl.u7 b hb)) (fun _ _=>rfl)⟩
    | succ j=>simp[fresh] at he
 | st t ih=>exact fun h hl=>ih h hl
 | pr a b fy fA =>
   intro cs d bs nx h hl
   obtain⟨c1,c2,b1,b2,rfl,rfl,h1,h2⟩:=h
   have hlen:=rK nx h1
   have dm:lA V hp Z nx ((fresh a d.1 nx).2++(fresh b d.2 (nx+(fresh a d.1 nx).2.length)).2) (b1++b2):=by
    have:=hl
    unfold fresh at this
    simp only[bT,cy] at this
    exact this
   obtain⟨g1,g2⟩:=fy h1 dm.left
   obtain⟨g3,g4⟩:=fA h2 (dm.right hlen)
   unfold fresh
   simp only[bT,cy]
   refine⟨gq g1 g3,fun j e he=>?_⟩
   rcases Nat.lt_or_ge j (fresh a d.1 nx).2.length with hj|hj
   ·rw[List.getElem?_append_left hj] at he
    exact g2 j e he
   ·rw[List.getElem?_append_right hj] at he
    have:=g4 _ e he
    rwa [show nx+(fresh a d.1 nx).2.length+(j-(fresh a d.1 nx).2.length)=nx+j by omega] at this
 | ptr t ih=>intro cs d bs nx h _;exact h.elim
 | bZ f t ih=>intro cs d bs nx h _;exact h.elim
 | gs wh e ih=>intro cs d bs nx h _;exact h.elim
theorem yd{Z:Nat->Prop}{t:Ty}{v:Value}{d:t.den}{bs:List (Option Nat)}{nx:Nat}(h:zI Z w t v d bs)(hl:lA V hp Z nx (ey t d nx).2 bs) :
 eZ V hp w (ey t d nx).1 v/\∀(j:Nat) e,(ey t d nx).2[j]? = some e->e.ok V hp w (nx+j):=by
 obtain⟨cs,h1,h2⟩:=h
 obtain⟨g1,g2⟩:=M9 h2 hl
 refine⟨?_,g2⟩
 unfold eZ ey
 unfold iW at h1
 simp only
 split
 ·rename_i ht;rw[if_pos ht] at h1;exact⟨_,h1,by simpa using g1⟩
 ·rename_i ht;rw[if_neg ht] at h1;rw[<-h1];exact g1
theorem pG{Z:Nat->Prop}:∀ {ts:List Ty} {vs:List Value} {d:aY ts} {bs:List (Option Nat)} (nx:Nat),dw Z w ts vs d bs->(bG ts d nx).2.length=bs.length
 | [],vs,d,bs,nx,h=>by rw[h.2];rfl
 | [t],vs,d,bs,nx,h=>by obtain⟨v,_,cs,_,h2⟩:=h;exact rK nx h2
 | t::u::r,vs,d,bs,nx,h=>by
   obtain⟨v,bO,b1,b2,rfl,rfl,⟨cs,_,h2⟩,h3⟩:=h
   show (cM _ _).length=_
   rw[bT,List.length_append,List.length_append]
   have e1:(ey t d.1 nx).2.length=b1.length:=rK nx h2
   rw[e1,pG _ h3]
theorem qU{Z:Nat->Prop}:∀ {ts:List Ty} {vs:List Value} {d:aY ts} {bs:List (Option Nat)} {nx:Nat},dw Z w ts vs d bs->lA V hp Z nx (bG ts d nx).2 bs →
 (bG ts d nx).1.length=vs.length/\(∀(j:Nat) x v,(bG ts d nx).1[j]? = some x->vs[j]? = some v->eZ V hp w x v)/\∀(j:Nat) e,(bG ts d nx).2[j]? = some e->e.ok V hp w (nx+j)
 | [],vs,d,bs,nx,h,_=>by rw[h.1];exact⟨rfl,fun j x v hx=>by simp[bG] at hx,fun j e he=>by simp[bG] at he⟩
 | [t],vs,d,bs,nx,h,hl=>by
   obtain⟨v,rfl,h1⟩:=h
   obtain⟨g1,g2⟩:=yd h1 hl
   refine⟨rfl,fun j x v' hx hv=>?_,g2⟩
   cases j with
   | zero=>simp only[bG,List.getElem?_cons_zero,Option.some.injEq] at hx hv;subst hx;subst hv;exact g1
   | succ j=>simp at hv
 | t::u::r,vs,d,bs,nx,h,hl=>by
   obtain⟨v,bO,b1,b2,rfl,rfl,h1,h3⟩:=h
   have e1:(ey t d.1 nx).2.length=b1.length:=by obtain⟨cs,_,h2⟩:=h1;exact rK nx h2
   have dm:lA V hp Z nx ((ey t d.1 nx).2++(bG (u::r) d.2 (nx+(ey t d.1 nx).2.length)).2) (b1++b2):=by
    have:=hl
    unfold bG at this
    simp only[bT,cy] at this
    exact this
   obtain⟨g1,g2⟩:=yd h1 dm.left
   obtain⟨k1,k2,k3⟩:=qU h3 (dm.right e1)
   unfold bG
   simp only[bT,cy]
   refine⟨by simp[k1],fun j x v' hx hv=>?_,fun j e he=>?_⟩
   ·cases j with
    | zero=>simp only[List.getElem?_cons_zero,Option.some.injEq] at hx hv;subst hx;subst hv;exact g1
    | succ j=>exact k2 j x v' (by simpa using hx) (by simpa using hv)
   ·rcases Nat.lt_or_ge j (ey t d.1 nx).2.length with hj|hj
    ·rw[List.getElem?_append_left hj] at he
     exact g2 j e he
    ·rw[List.getElem?_append_right hj] at he
     have:=k3 _ e he
     rwa [show nx+(ey t d.1 nx).2.length+(j-(ey t d.1 nx).2.length)=nx+j by omega] at this
theorem IK{x:Bool×List C}{v:Value}(h:eZ V hp w x v):S.ok V hp w (kR x) v:=by
 unfold kR
 unfold eZ at h
 split
 ·rename_i hx;rw[if_pos hx] at h;exact h
 ·rename_i hx;rw[if_neg hx] at h
  split
  ·rename_i c hc
   rw[hc] at h
   exact h.2 0 c v rfl rfl
  ·trivial
theorem CL{Z:Nat->Prop}{ts:List Ty}{vs:List Value}{d:aY ts}{bs:List (Option Nat)}{nx:Nat}(h:dw Z w ts vs d bs)(hl:lA V hp Z nx (bR ts d nx).2 bs) :
 S.ok V hp w (bR ts d nx).1 (e_ vs)/\∀(j:Nat) e,(bR ts d nx).2[j]? = some e->e.ok V hp w (nx+j):=by
 have e2:(bR ts d nx).2=(bG ts d nx).2:=by unfold bR;split<;>rename_i h<;>rw[h]
 rw[e2] at hl ⊢
 obtain⟨g1,g2,g3⟩:=qU h hl
 refine⟨?_,g3⟩
 unfold bR
 split
 ·rename_i x es hx
  rw[hx] at g1 g2
  cases vs with
  | nil=>simp at g1
  | cons v bO =>
    have:bO=[]:=by simp at g1;exact g1
    subst this
    exact IK (g2 0 x v rfl rfl)
 ·rename_i xs es jg hx
  rw[hx] at g1 g2
  have hv:e_ vs = .tuple vs.toArray:=by
   unfold e_
   split
   ·rename_i v
    cases xs with
    | nil=>simp at g1
    | cons x a_ =>
      have:a_=[]:=by simp at g1;exact g1
      subst this
      exact (jg x rfl).elim
   ·rfl
  rw[hv]
  exact⟨vs.toArray,rfl,by simpa using g1,fun j x v j0 cd=>g2 j x v j0 (by simpa using cd)⟩
theorem Ap{Z:Nat->Prop}{ts:List Ty}{vs:List Value}{d:aY ts}{bs:List (Option Nat)}(nx:Nat)(h:dw Z w ts vs d bs):(bR ts d nx).2.length=bs.length:=by
 have e2:(bR ts d nx).2=(bG ts d nx).2:=by unfold bR;split<;>rename_i h<;>rw[h]
 rw[e2];exact pG nx h
theorem ur(ts:List Ty)(d:aY ts)(nx:Nat):∀ e∈(bR ts d nx).2,∀ cs,e ≠ .bx cs:=by
 have e2:(bR ts d nx).2=(bG ts d nx).2:=by unfold bR;split<;>rename_i h<;>rw[h]
 rw[e2];clear e2
 have one:∀(t:Ty) (d:t.den) (nx:Nat),∀ e∈(fresh t d nx).2,∀ cs,e ≠ .bx cs:=by
  intro t
  induction t with
  | int k=>intro d nx e he;simp[fresh] at he
  | bool=>intro d nx e he;simp[fresh] at he
  | str=>intro d nx e he;simp[fresh] at he
  | sl e ih=>intro d nx e' he cs hc;simp[fresh] at he;rw[he] at hc;cases hc
  | st t ih=>exact fun d nx e he=>ih d nx e he
  | pr a b fy fA =>
    intro d nx e he
    unfold fresh at he
    simp only[bT,List.mem_append] at he
    exact he.elim (fy _ _ e) (fA _ _ e)
  | ptr t ih=>intro d nx e he;simp[fresh] at he
  | bZ f t ih=>intro d nx e he;simp[fresh] at he
  | gs wh e ih=>intro d nx e he;simp[fresh] at he
 induction ts generalizing nx with
 | nil=>intro e he;simp[bG] at he
 | cons t r ih =>
   cases r with
   | nil=>exact one t d nx
   | cons u r =>
     intro e he
     unfold bG at he
     simp only[bT,List.mem_append] at he
     exact he.elim (one t d.1 nx e) (ih d.2 _ e)
theorem Md{Z:Nat->Prop}:∀ {t:Ty} {cs:List Value} {d:t.den} {bs:List (Option Nat)},fQ Z w t cs d bs->t.wf d:=by
 intro t
 induction t with
 | int k=>exact fun h=>h.1.wf
 | bool=>exact fun h=>trivial
 | str=>exact fun h=>h.1.wf
 | sl e ih =>
   intro cs d bs h
   rcases h with ⟨_,rfl,_⟩|⟨b,cap,aq,el,_,_,_,_,_,h4,h5⟩
   ·exact⟨Nat.zero_le _,fun x hx=>by simp at hx⟩
   ·refine⟨h4,fun x hx=>?_⟩
    obtain⟨i,hi,rfl⟩:=List.getElem_of_mem hx
    obtain⟨es,_,_,g3⟩:=h5 i hi
    exact g3.wf
 | st t ih=>exact fun h=>ih h
 | pr a b fy fA=>intro cs d bs h;obtain⟨c1,c2,b1,b2,_,_,h1,h2⟩:=h;exact⟨fy h1,fA h2⟩
 | ptr t ih=>intro cs d bs h;exact h.elim
 | bZ f t ih=>intro cs d bs h;exact h.elim
 | gs wh e ih=>intro cs d bs h;exact h.elim
theorem fX{Z:Nat->Prop}:∀ {ts:List Ty} {vs:List Value} {d:aY ts} {bs:List (Option Nat)},dw Z w ts vs d bs->gB ts d
 | [],_,_,_,_=>trivial
 | [t],_,_,_,h=>by obtain⟨v,_,cs,_,h2⟩:=h;exact Md h2
 | t::u::r,_,_,_,h=>by obtain⟨v,bO,b1,b2,_,_,⟨cs,_,h2⟩,h3⟩:=h;exact⟨Md h2,fX h3⟩
theorem sA(ts:List Ty)(d:aY ts)(nx:Nat):∀ e∈(bR ts d nx).2,¬e.fH:=by
 have e2:(bR ts d nx).2=(bG ts d nx).2:=by unfold bR;split<;>rename_i h<;>rw[h]
 rw[e2];clear e2
 have one:∀(t:Ty) (d:t.den) (nx:Nat),∀ e∈(fresh t d nx).2,¬e.fH:=by
  intro t
  induction t with
  | int k=>intro d nx e he;simp[fresh] at he
  | bool=>intro d nx e he;simp[fresh] at he
  | str=>intro d nx e he;simp[fresh] at he
  | sl e ih=>intro d nx e' he hc;simp[fresh] at he;rw[he] at hc;exact hc
  | st t ih=>exact fun d nx e he=>ih d nx e he
  | pr a b fy fA =>
    intro d nx e he
    unfold fresh at he
    simp only[bT,List.mem_append] at he
    exact he.elim (fy _ _ e) (fA _ _ e)
  | ptr t ih=>intro d nx e he;simp[fresh] at he
  | bZ f t ih=>intro d nx e he;simp[fresh] at he
  | gs wh e ih=>intro d nx e he;simp[fresh] at he
 induction ts generalizing nx with
 | nil=>intro e he;simp[bG] at he
 | cons t ts ih =>
   cases ts with
   | nil=>exact fun e he=>one t d nx e he
   | cons u r =>
     intro e he
     have fk:e∈cM (ey t d.1 nx).2 (bG (u::r) d.2 (nx+aL (ey t d.1 nx).2)).2:=he
     rw[bT,List.mem_append] at fk
     exact fk.elim (one t d.1 nx e) (ih d.2 _ e)
theorem K6{base:Nat}{M:LM}{w0 w':World}(m:Mem base M w0 V hp w){nx:Nat}{rs:List Ty}{d:aY rs}{v:Value}(hr:oD w w' rs v d)(hd:∀ j,j<(bR rs d nx).2.length->hp (nx+j) = .dead) :
 ∃ V',Good base M w0 V hp w nx (bR rs d nx).1 (bR rs d nx).2 (pI rs d) v w' V':=by
 obtain⟨⟨Z1,bs,vs,rfl,h1,h2,h3,h4⟩,hk⟩:=hr
 have hlen:=Ap nx h1
 have x:=VX.l_ m hk (nx:=nx) (es:=(bR rs d nx).2) (bs:=bs) (Z:=Z1) hlen.symm hd
 have hl:lA (V.ext nx bs Z1) (db hp nx (bR rs d nx).2) Z1 nx (bR rs d nx).2 bs:=⟨fun j b hb=>Vl.fY hb,fun j b hb=>Vl.g9 hb,fun j e he=>jZ he,fun b hb=>.inr hb⟩
 obtain⟨g1,g2⟩:=CL h1 hl
 refine⟨_,⟨m.grow hk hlen.symm hd h2 h3 h4 (fun j cs hj=>?_) (fun j e he=>g2 j e he) (sA rs d nx),x,g1,fun p aH=>?_⟩⟩
 ·exact (ur rs d nx _ (List.mem_of_getElem? hj) cs rfl).elim
 ·unfold pI at aH
  split at aH
  ·injection aH with aH;subst aH;exact fX h1
  ·cases aH
theorem QU{Z1:Nat->Prop}:∀ {t:Ty} {cs:List Value} {d:t.den} {bs:List (Option Nat)},fQ Z1 w t cs d bs->(∀ b,Z1 b->V.Z true b)->(∀ b,some b∈bs->V.Z true b)->bz V hp w (CN t d) cs:=by
 intro t
 induction t with
 | int k=>intro cs d bs h _ _;obtain⟨⟨rfl,h1⟩,_⟩:=h;exact bd ⟨rfl,h1⟩ ca
 | bool=>intro cs d bs h _ _;obtain⟨h1,_⟩:=h;rw[show cs=_ from h1];exact bd ⟨rfl,trivial⟩ ca
 | str=>intro cs d bs h _ _;obtain⟨⟨rfl,h1⟩,_⟩:=h;exact bd ⟨rfl,h1⟩ ca
 | sl e ih =>
   intro cs d bs h hz hb
   rcases h with ⟨rfl,rfl,rfl⟩|⟨b,cap,aq,el,rfl,rfl,h1,h2,h3,h4,h5⟩
   ·exact bd ⟨none,0,rfl,Nat.le_refl _,Nat.zero_le _,fun i hi=>absurd hi (Nat.not_lt_zero _)⟩ ca
   ·refine bd ⟨some ⟨b,0,none⟩,cap,rfl,h3,h4,fun i hi=>?_⟩ ca
    obtain⟨es,g1,g2,g3⟩:=h5 i hi
    refine⟨⟨b,0,none⟩,rfl,rfl,hb b (List.mem_singleton.2 rfl),es,g1,fun j hj=>?_,g3.mono (fun b hb=>hz b hb) (fun _ _=>rfl)⟩
    rw[Nat.zero_add,show w.cell? ⟨b,i*e.size+j,none⟩=aq[i*e.size+j]? from by simp[World.cell?,h1]]
    exact g2 j _ (List.getElem?_eq_getElem hj)
 | st t ih=>exact fun h hz hb=>ih h hz hb
 | pr a b fy fA =>
   intro cs d bs h hz hb
   obtain⟨c1,c2,b1,b2,rfl,rfl,h1,h2⟩:=h
   unfold CN
   rw[bT]
   exact gq (fy h1 hz (fun b h=>hb b (List.mem_append_left _ h))) (fA h2 hz (fun b h=>hb b (List.mem_append_right _ h)))
 | ptr t ih=>intro cs d bs h _ _;exact h.elim
 | bZ f t ih=>intro cs d bs h _ _;exact h.elim
 | gs wh e ih=>intro cs d bs h _ _;exact h.elim
theorem PE{Z1:Nat->Prop}{ts:List Ty}{vs:List Value}{d:aY ts}{bs:List (Option Nat)}(h:dw Z1 w ts vs d bs)(hz:∀ b,Z1 b->V.Z true b)(hb:∀ b,some b∈bs->V.Z true b):S.ok V hp w (M_ ts d) (e_ vs):=by
 match ts,d,h with
 | [],d,h=>exact trivial
 | [t],d,h =>
   obtain⟨v,rfl,cs,h1,h2⟩:=h
   have g1:=QU (V:=V) (hp:=hp) h2 hz hb
   show S.ok V hp w (kR (jt t,CN t d)) v
   unfold iW at h1
   unfold kR
   simp only
   split
   ·rename_i ht;rw[if_pos ht] at h1;exact⟨_,h1,by simpa using g1⟩
   ·rename_i ht
    rw[if_neg ht] at h1
    subst h1
    match hf:CN t d,g1 with
    | [c],g1=>exact g1.2 0 c v rfl rfl
    | [],g1=>exact trivial
    | _::_::_,g1=>exact trivial
 | t::u::r,d,h=>exact trivial
theorem Aq{base:Nat}{M:LM}{w0 w':World}(m:Mem base M w0 V hp w){nx:Nat}{fz:Bool}{rs:List Ty}{d:aY rs}{v:Value}(hr:oD w w' rs v d)(hd:∀ j,j<(xe fz rs d nx).2.length->hp (nx+j) = .dead) :
 ∃ V',Good base M w0 V hp w nx (xe fz rs d nx).1 (xe fz rs d nx).2 (pI rs d) v w' V':=by
 cases fz with
 | false=>exact K6 m hr hd
 | true =>
   obtain⟨⟨Z1,bs,vs,rfl,h1,h2,h3,h4⟩,hk⟩:=hr
   have cS:∀ j,j<([]:List ax).length->hp (nx+j) = .dead:=fun j hj=>absurd hj (Nat.not_lt_zero _)
   have x:=VX.l_ m hk (nx:=nx) (es:=[]) (bs:=[]) (Z:=fun b=>w.heap.size<=b/\b<w'.heap.size) rfl cS
   have g1:S.ok (V.ext nx [] (fun b=>w.heap.size<=b/\b<w'.heap.size)) (db hp nx []) w' (M_ rs d) (e_ vs):=PE h1 (fun b hb=>.inl (.inr (h4 b hb))) (fun b hb=>.inl (.inr ⟨(h3 b hb).1,(h3 b hb).2.1⟩))
   refine⟨_,⟨m.grow hk rfl cS (by simp) (fun b hb=>by cases hb) (fun b hb=>hb) (fun j cs hj=>by cases hj) (fun j e he=>by cases he) (fun e he=>by cases he),x,g1,fun p aH=>?_⟩⟩
   unfold pI at aH
   split at aH
   ·injection aH with aH;subst aH;exact fX h1
   ·cases aH
end
end Go.SX
/- Every operation that writes nothing. No condition. -/
namespace Go.SX
open Go.RowKit
set_option linter.unusedVariables false
set_option linter.unusedSimpArgs false
def ft (P : Program) (f : FuncId) : Prop := ∃ fn, P.funcs[f]? = some fn ∧ (fn.name == "runtime.NumGoroutine") = false ∧ fn.body.isNone = false
def dh(P:Program)(Γ:FuncId->Option PC):Prop:=∀ f c,Γ f=some c->rq P f c/\ft P f
theorem Gl{P:Program}{f:FuncId}(h:ft P f)(args:Array Value)(w:World):(callFunc f args).run P w = .ok (.enter f args) w:=by
 obtain⟨fn,h1,h2,h3⟩:=h
 simp only[callFunc,Sem.run_bind,run_program,Result.andThen_ok,h1]
 rw[if_neg (by rw[h2];simp)]
 rw[if_neg (by rw[h3];simp)]
 rfl
section
variable {P : Program} {T : bN} {Γ : FuncId → Option PC} {base : Nat} {M : LM} {w0 : World} {V : Vl} {hp lk : Nat → ax} {w : World} {a : Act} {ev : Operand → S}
  {next : Act → World → Prop} {Q : Exit → Act → World → Prop}
theorem cU{o:Oper}{v:Value}{w':World}(hr:(execOp a.eval o).run P w = .ok (.value v) w')(h:next (a.put o.dst v) w'):o.wp P a w next Q:=by
 unfold Oper.wp
 rw[hr]
 exact h
theorem wp_pure(m:Mem base M w0 V hp w){o:Oper}{r:QR}{e:Sem Value}{nx:Nat}(aH:fD P V hp w r e)(he:execOp a.eval o=(do pure (.value (<-e))))
 (h:∀ v w' V',Good base M w0 V hp w nx r.res r.new r.hy v w' V'->next (a.put o.dst v) w'):o.wp P a w next Q:=by
 obtain⟨h1,h2,v,h3,h4⟩:=aH
 refine cU (v:=v) (w':=w) ?_ (h v w V ?_)
 ·rw[he];simp[h3]
 ·rw[h1,h2];exact d_ m h4
theorem oV{f:Operand->S}{g:Operand->Value}(h:∀ x,S.ok V hp w (f x) (g x)):∀ l:List (Nat×Operand),kf V hp w (l.map fun p=>(p.1,f p.2)) (l.map fun p=>(p.1,g p.2))
 | []=>trivial
 | p::r=>⟨rfl,h p.2,oV h r⟩
theorem Cy(dq:∀ x,S.ok V hp w (ev x) (a.eval x)):∀ {l:List Operand} {ns:List Nat},qD (l.map ev)=some ns →
 l.map a.eval=ns.map (fun n=>Value.pointer (some ⟨V.aE n,0,none⟩))/\∀ n∈ns,V.has n/\∃ cs,hp n = .bx cs
 | [],ns,h=>by simp only[List.map_nil,qD,Option.some.injEq] at h;subst h;exact⟨rfl,fun n hn=>by simp at hn⟩
 | x::l,ns,h=>by
   simp only[List.map_cons] at h
   unfold qD at h
   split at h
   ·rename_i heq;cases heq
   ·rename_i n r heq
    simp only[List.cons.injEq] at heq
    obtain⟨e1,e2⟩:=heq
    rw[ee] at h
    cases hc:qD r with
    | none=>rw[hc] at h;cases h
    | some ms =>
      rw[hc] at h
      simp only[Option.map_some,Option.some.injEq] at h
      subst h
      rw[<-e2] at hc
      obtain⟨g1,g2⟩:=Cy dq hc
      have hx:=dq x
      rw[e1] at hx
      obtain⟨k1,k2,k3⟩:=hx
      refine⟨by simp[g1,k1],fun q hq=>?_⟩
      simp only[List.mem_cons] at hq
      rcases hq with rfl|hq
      ·exact⟨k2,k3⟩
      ·exact g2 q hq
   ·cases h
theorem MO(dq:∀ x,S.ok V hp w (ev x) (a.eval x)){l:Array Operand}{x:C}(h:l.toList.map ev=[.c x]):∃ y,l = #[y]/\C.ok V hp w x (a.eval y):=by
 cases l with
 | mk l =>
   cases l with
   | nil=>cases h
   | cons y l =>
     simp only[List.map_cons,List.cons.injEq,List.map_eq_nil_iff] at h
     obtain⟨h1,rfl⟩:=h
     have:=dq y
     rw[h1] at this
     exact⟨y,rfl,this⟩
theorem Ei(dq:∀ x,S.ok V hp w (ev x) (a.eval x)){l:Array Operand}{x y:C}(h:l.toList.map ev=[.c x,.c y]):∃ p q,l = #[p,q]/\C.ok V hp w x (a.eval p)/\C.ok V hp w y (a.eval q):=by
 cases l with
 | mk l =>
   cases l with
   | nil=>cases h
   | cons p l =>
     cases l with
     | nil=>simp at h
     | cons q l =>
       simp only[List.map_cons,List.cons.injEq,List.map_eq_nil_iff] at h
       obtain⟨h1,h2,rfl⟩:=h
       have g1:=dq p
       have g2:=dq q
       rw[h1] at g1
       rw[h2] at g2
       exact⟨p,q,rfl,g1,g2⟩
theorem G7{o:Oper}{c:Call}{g:FuncId}{x:Operand}{di:Array Value}(ho:o.op = .call c)(hc:c.callee = .value x)(hv:a.eval x = .func (.func g) #[] di)(hk:ft P g){R:Ending->World->Prop}
 (uw:Calls P g (c.args.map a.eval++di) w R) (h:∀ e w',R e w'->∃ v,e = .returned v/\next (a.put o.dst v) w'):o.wp P a w next Q:=by
 unfold Oper.wp execOp
 simp only[ho,resolve,hc,hv,Deferred.ofValue,invoke,Sem.run_bind,Sem.run_pure,Result.andThen_ok,Array.append_empty,Array.empty_append,Gl hk]
 refine Calls.mono uw fun e w' hr=>?_
 obtain⟨v,rfl,hn⟩:=h e w' hr
 exact hn
theorem Cm{o:Oper}{c:Call}{g:FuncId}{x:Operand}(ho:o.op = .call c)(hc:c.callee = .value x)(hx:C.ok V hp w (.fn g []) (a.eval x))(hk:ft P g){R:Ending->World->Prop}
 (uw:Calls P g (c.args.map a.eval) w R) (h:∀ e w',R e w'->∃ v,e = .returned v/\next (a.put o.dst v) w'):o.wp P a w next Q :=
 G7 (di := #[]) ho hc (by rw[hx.1];rfl) hk (by rw[Array.append_empty];exact uw) h
theorem Mn(hT:bP P T)(hΓ:dh P Γ)(m:Mem base M w0 V hp w)(hl:gW V hp lk w)(dq:∀ x,S.ok V hp w (ev x) (a.eval x)){o:Oper}{r:QR}{nx:Nat}
 (hq:gF T Γ lk nx ev o.op=some r) (hd:∀ j,j<r.new.length->hp (nx+j) = .dead) (dr:∀ p,r.ob=some p->p)
 (h:∀ v w' V',Good base M w0 V hp w nx r.res r.new r.hy v w' V'->next (a.put o.dst v) w'):o.wp P a w next Q:=by
 obtain⟨dst,op,ty,pos,XP,gd⟩:=o
 simp only at hq
 cases op with
 | move x =>
   simp only[gF,Option.some.injEq] at hq;subst hq
   exact cU (v:=a.eval x) rfl (h _ _ _ (d_ m (dq x)))
 | assign x =>
   simp only[gF,Option.some.injEq] at hq;subst hq
   exact cU (v:=a.eval x) rfl (h _ _ _ (d_ m (dq x)))
 | pick c x y =>
   simp only[gF,ee] at hq
   cases hs:D6 (ev c) (ev x) (ev y) with
   | none=>rw[hs] at hq;cases hq
   | some s =>
     rw[hs] at hq
     simp only[Option.map_some,Option.some.injEq] at hq;subst hq
     obtain⟨p,h1,h2⟩:=Mo hs (dq c) (dq x) (dq y)
     refine cU (v:=if p then a.eval x else a.eval y) ?_ (h _ _ _ (d_ m h2))
     simp only[execOp,h1,Sem.run_bind,Sem.run_pure,Result.andThen_ok]
 | alloc t =>
   simp only[gF] at hq
   unfold Mk at hq
   cases ht:T t with
   | none=>rw[ht] at hq;cases hq
   | some ti =>
     rw[ht] at hq
     simp only at hq
     obtain⟨⟨i,z,g1,g2,g3,g4,g5,g6⟩,g7,g8⟩:=eQ (hT t ti ht)
     have td:hp nx = .dead:=by
      split at hq<;>(simp only[Option.some.injEq] at hq;subst hq;exact hd 0 (by simp))
     split at hq
     ·rename_i len te es n c6 hk
      simp only[Option.some.injEq] at hq;subst hq
      obtain⟨a0,a1,⟨i2,a2,a3⟩,a4,a5,a6,a7,a8,a9⟩:=Gz (hT t ti ht) hk
      obtain⟨V',hg⟩:=ko m td ti.zero.toArray t (.row true c6 (List.replicate n c6.fe)) (.c (.dL nx 0 0)) (.pointer (some ⟨w.heap.size,0,none⟩)) (fun h=>h)
       (fun V' aH w' x k1 k2 k3 k4=>by
         refine⟨.inr ⟨k1,_,t,by rw[k2];exact k4,by rw[List.length_replicate];unfold cX;omega,fun j hj=>?_⟩,k1,true,c6,_,k3,by rw[List.length_replicate];omega,by rw[k2,Nat.zero_mul]⟩
         obtain⟨iI,q1,q2,q3⟩:=Dn (Z:=V'.Z true) (w':=w') a5 n j hj
         exact⟨iI,q1,fun a u hu=>by rw[a0];simpa using q2 a u hu,q3⟩)
      refine cU ?_ (h _ _ _ hg)
      simp only[execOp,Instr.alloc,Sem.run_bind,jj g1 g4,Result.andThen_ok,newVar,newRow,g5,run_newObj_alloc,Sem.run_pure]
     ·simp only[Option.some.injEq] at hq;subst hq
      obtain⟨V',hg⟩:=ko m td ti.zero.toArray t (.bx (lmap cell ti.zero)) (.c (.box nx 0)) (.pointer (some ⟨w.heap.size,0,none⟩)) (fun h=>h)
       (fun V' aH w' x k1 k2 k3 k4=>⟨⟨_,t,by rw[k2];exact k4,by simpa using g6 V' aH w'⟩,by rw[<-k2];exact⟨rfl,k1,_,k3⟩⟩)
      refine cU ?_ (h _ _ _ hg)
      simp only[execOp,Instr.alloc,Sem.run_bind,jj g1 g4,Result.andThen_ok,newVar,newRow,g5,run_newObj_alloc,Sem.run_pure]
 | box t x =>
   simp only[gF] at hq
   cases hc:(ev x).cells with
   | none=>rw[hc] at hq;cases hq
   | some cs =>
     rw[hc] at hq
     simp only[Option.some.injEq] at hq;subst hq
     have ho:=tW hc (dq x)
     have td:hp nx = .dead:=hd 0 (by simp)
     obtain⟨V',hg⟩:=ko m td (a.eval x).cells t (.bx cs) (.c (.box nx 0)) (.pointer (some ⟨w.heap.size,0,none⟩)) (fun h=>h)
      (fun V' aH w' x k1 k2 k3 k4=>⟨⟨_,t,by rw[k2];exact k4,ma x ho⟩,by rw[<-k2];exact⟨rfl,k1,_,k3⟩⟩)
     refine cU ?_ (h _ _ _ hg)
     simp only[execOp,Instr.box,Sem.run_bind,newVar,newRow,run_newObj_alloc,Result.andThen_ok,Sem.run_pure]
 | build t parts =>
   simp only[gF,bt] at hq
   have rR:=oV dq parts.toList
   exact wp_pure m (J9 (qs:=parts.map fun (i,x)=>(i,a.eval x)) hT hq (by simpa using rR)) rfl h
 | buildSlice t n parts =>
   simp only[gF,bt] at hq
   have rR:=oV dq parts.toList
   have jY:hp nx = .dead:=by
    have bb:0<r.new.length:=by
     unfold jq at hq
     cases he:i_ T t with
     | none =>
       rw[he] at hq
       simp only at hq
       unfold xA at hq
       split at hq
       ·split at hq
        ·injection hq with hq;subst hq;simp
        ·cases hq
       ·cases hq
     | some e =>
       rw[he] at hq
       simp only at hq
       unfold pM at hq
       split at hq
       ·rw[ee] at hq
        cases hs:iV lk (AI e (parts.toList.map fun p=>(p.1,ev p.2))) 0 (parts.toList.map fun p=>(p.1,ev p.2)) with
        | none=>rw[hs] at hq;cases hq
        | some xs=>rw[hs] at hq;simp only[Option.map_some,Option.some.injEq] at hq;subst hq;simp
       ·cases hq
    exact hd 0 bb
   obtain⟨v,w',V',h1,h2⟩:=rX (qs:=parts.map fun (i,x)=>(i,a.eval x)) hT m jY hq (by simpa using rR)
   refine cU (v:=v) (w':=w') ?_ (h _ _ _ h2)
   simp only[execOp,Sem.run_bind,h1,Result.andThen_ok,Sem.run_pure]
 | load t p =>
   simp only[gF] at hq
   have fb:=dq p
   cases hc:ev p with
   | c x =>
     rw[hc] at hq fb
     exact wp_pure m (Da hT hl hq fb) rfl h
   | _=>rw[hc] at hq;cases hq
 | nilCheck x =>
   simp only[gF] at hq
   split at hq
   ·rename_i Jy
    simp only[Option.some.injEq] at hq;subst hq
    have hx:=dq x
    refine cU (v:=a.eval x) (w':=w) ?_ (h _ _ _ (d_ m hx))
    cases hc:ev x with
    | c y =>
      rw[hc] at Jy hx
      cases y with
      | box n off=>simp only[execOp,hx.1,Sem.run_bind,Sem.run_pure]
      | at_ fr t d off=>obtain⟨b,o,e1,_⟩:=hx;simp only[execOp,e1,Sem.run_bind,Sem.run_pure]
      | dL n i off=>obtain⟨_,_,_,_,_,_,e1⟩:=hx;simp only[execOp,e1,Sem.run_bind,Sem.run_pure]
      | fn f di=>simp only[execOp,hx.1,Sem.run_bind,Sem.run_pure]
      | _=>cases Jy
    | _=>rw[hc] at Jy;cases Jy
   ·cases hq
 | binOp op xt x y yt =>
   simp only[gF] at hq
   have h1:=dq x
   have h2:=dq y
   cases hc:ev x with
   | c u =>
     cases eu:ev y with
     | c v=>rw[hc,eu] at hq;rw[hc] at h1;rw[eu] at h2;exact wp_pure m (Mm hT hq dr h1 h2 x y) rfl h
     | _=>rw[hc,eu] at hq;cases hq
   | agg u =>
     cases eu:ev y with
     | agg v =>
       rw[hc,eu] at hq;rw[hc] at h1;rw[eu] at h2
       obtain⟨us,e1,g1⟩:=h1
       obtain⟨vs,e2,g2⟩:=h2
       have hr:=Ml hT hq g1 g2 x y
       rw[<-e1,<-e2] at hr
       exact wp_pure m hr rfl h
     | _=>rw[hc,eu] at hq;cases hq
   | _=>rw[hc] at hq;cases hq
 | unOp op xt x =>
   simp only[gF] at hq
   have h1:=dq x
   cases hc:ev x with
   | c u=>rw[hc] at hq h1;exact wp_pure m (P2 hq h1) rfl h
   | _=>rw[hc] at hq;cases hq
 | convert s t x =>
   simp only[gF] at hq
   have h1:=dq x
   split at hq
   ·rename_i ti k sz fv z yK m8 k' n hs heq hx
    simp only[Option.some.injEq] at hq;subst hq
    rw[hx] at h1
    obtain⟨e1,_⟩:=ok_int (V:=V) (hp:=hp) (w:=w) h1
    have hu:=LG (eQ (hT t _ heq)).2.2
    obtain⟨d,cS,_⟩:=MA (hT s ti hs)
    refine cU (v:=.int k (k.wrap n)) (w':=w) ?_ (h _ _ _ (d_ m ⟨rfl,fq _ _⟩))
    simp[execOp,convert,run_underlying cS,run_underlying hu,e1,Conv.intToInt]
   ·rename_i e es eb c6 sz fv z yK m8 Yn XR z2 Yq XN c UB UC hx
    split at hq
    ·rename_i Yo XS z3 Yr XO UD
     cases gp:oc lk (.int .u8) c with
     | none=>rw[gp] at hq;cases hq
     | some xs =>
       rw[gp] at hq
       simp only[omap,Option.some.injEq] at hq;subst hq
       rw[hx] at h1
       obtain⟨T1,_⟩:=oq (eQ (hT s _ UB)).2.2
       have T0:=LG (eQ (hT e _ UD)).2.2
       have T2:Program.underlying P t=some .string:=by
        have hk:=(eQ (hT t _ UC)).2.2
        unfold ib at hk
        simp only at hk
        split at hk<;>first|assumption|cases hk
       obtain⟨av,cap,Rb,Uw,hlen,o8⟩:=IE hl gp h1
       have Rb:a.eval x = .slice av xs.length cap:=by injection Rb
       have cv:(strOfNums xs).size<=maxLen:=by
        rw[strOfNums_size]
        unfold cX at hlen
        unfold maxLen
        omega
       have SQ:(convert s t (.slice av xs.length cap)).run P w = .ok (.string (strOfNums xs)) w:=by
        match xs,o8 with
        | [],_ =>
          show (convert s t (.slice av 0 cap)).run P w=_
          rw[run_convert_bytes_string w s t e av 0 cap T1 T0 T2]
          cases av<;>simp[Conv.bytesToString,loadCells]
          all_goals rfl
        | y::ys,o8 =>
          obtain⟨ad,e5,e6,_,_⟩:=o8 0 (by simp)
          obtain⟨b,o,sp⟩:=ad
          simp only at e6
          subst e6;subst e5
          refine run_convert_bytes_arg w s e T1 T0 b o _ cap (y::ys) rfl (fun i hi=>?_) t T2
          obtain⟨ad,f1,f2,_,cs,f3,f4,f5⟩:=o8 i hi
          injection f1 with f1
          subst f1
          obtain⟨f6,_⟩:=(f5:cs=[.int .u8 _]/\_)
          subst f6
          have f7:=f4 0 (by simp)
          rw[show (Ty.int u8).size=1 from rfl,Nat.mul_one,Nat.add_zero] at f7
          rw[f7,List.getD_eq_getElem?_getD,List.getElem?_eq_getElem hi]
          rfl
       refine cU (v:=.string (strOfNums xs)) (w':=w) ?_ (h _ _ _ (d_ m ⟨rfl,cv⟩))
       simp[execOp,Rb,SQ]
    ·cases hq
   ·cases hq
 | makeSlice t l c =>
   simp only[gF] at hq
   have h1:=dq l
   have h2:=dq c
   cases hc:ev l with
   | c u =>
     cases eu:ev c with
     | c v =>
       rw[hc,eu] at hq;rw[hc] at h1;rw[eu] at h2
       have td:hp nx = .dead:=by
        have bb:0<r.new.length:=by
         simp only at hq
         unfold qf at hq
         split at hq
         ·split at hq
          ·injection hq with hq;subst hq;simp
          ·cases hq
         ·cases hq
        exact hd 0 bb
       obtain⟨x,w',V',g1,g2⟩:=BY hT m td hq dr h1 h2
       refine cU (v:=x) (w':=w') ?_ (h _ _ _ g2)
       simp only[execOp,Sem.run_bind,g1,Result.andThen_ok,Sem.run_pure]
     | _=>rw[hc,eu] at hq;cases hq
   | _=>rw[hc] at hq;cases hq
 | slice t x lo hi mx =>
   cases mx with
   | some _=>cases hq
   | none =>
     simp only[gF,ee] at hq
     have h1:=dq x
     cases hc:ev x with
     | c u =>
       rw[hc] at hq h1
       refine wp_pure m (J_ (lv:=lo.map a.eval) (hv:=hi.map a.eval) hT hl hq dr h1 ?_ ?_ ?_ ?_) rfl h
       ·intro s v hs hv
        cases lo with
        | none=>cases hs
        | some y=>simp only[Option.map_some,Option.some.injEq] at hs hv;rw[<-hs,<-hv];exact dq y
       ·cases lo<;>simp
       ·intro s v hs hv
        cases hi with
        | none=>cases hs
        | some y=>simp only[Option.map_some,Option.some.injEq] at hs hv;rw[<-hs,<-hv];exact dq y
       ·cases hi<;>simp
     | _=>rw[hc] at hq;cases hq
 | fieldAddr t x f =>
   simp only[gF] at hq
   have h1:=dq x
   cases hc:ev x with
   | c u=>rw[hc] at hq h1;exact wp_pure m (BU hT hq h1) rfl h
   | _=>rw[hc] at hq;cases hq
 | field t x f =>
   simp only[gF] at hq
   have h1:=dq x
   split at hq
   ·rename_i off n ag cs hf hx
    rw[hx] at h1
    rw[ee] at hq
    cases Rz:partOf cs off n with
    | none=>rw[Rz] at hq;cases hq
    | some r' =>
      rw[Rz] at hq
      simp only[Option.map_some,Option.some.injEq] at hq;subst hq
      obtain⟨vs,e1,ho⟩:=h1
      obtain⟨k1,k2⟩:=oU Rz
      obtain⟨fields,fd,j,d,g1,g2,g3,g4,g5,g6,g7,g8⟩:=nY hT hf
      have b5:=kv (ku ho off) n
      rw[<-k1] at b5
      simp only at g3 g6 g8
      have hlen:((vs.toList.drop off).take n).length=n:=by rw[<-b5.1,k2]
      have Ru:off+n<=vs.size:=by
       rw[List.length_take,List.length_drop] at hlen
       have:0<n:=Nat.pos_of_ne_zero g4
       simp at hlen;omega
      cases ag with
      | true =>
        refine cU (v:=.agg (vs.extract off (off+n))) (w':=w) ?_ (h _ _ _ (d_ m ⟨vs.extract off (off+n),rfl,?_⟩))
        ·simp only[execOp,Instr.field,part,e1,asAgg,Sem.run_bind,run_underlying g1,Result.andThen_ok,g2,Sem.run_pure,pj g7,g8,if_true,run_sizeOf g5,g6,g3]
        ·rw[Array.toList_extract]
         have:(vs.toList.take (off+n)).drop off=(vs.toList.drop off).take n:=by rw[List.drop_take];simp
         simpa[List.extract_eq_take_drop,this] using b5
      | false =>
        have E_:n=1\/n≠1:=by omega
        have vr:∃ v,vs[off]? = some v:=⟨vs[off]'(by have:0<n:=Nat.pos_of_ne_zero g4;omega),Array.getElem?_eq_getElem _⟩
        obtain⟨v,hv⟩:=vr
        refine cU (v:=v) (w':=w) ?_ (h _ _ _ (d_ m ?_))
        ·simp only[execOp,Instr.field,part,e1,asAgg,Sem.run_bind,run_underlying g1,Result.andThen_ok,g2,Sem.run_pure,pj g7,g8,Bool.false_eq_true,if_false,g3,hv]
        ·show S.ok V hp w (kR (false,r')) v
         unfold kR
         simp only[Bool.false_eq_true,if_false]
         split
         ·obtain⟨v',bO,e2,k3,_⟩:=cF b5
          have hn:n=1:=by simpa using k2.symm
          have:((vs.toList.drop off).take n)[0]? = some v:=by
           rw[List.getElem?_take,if_pos (by omega),List.getElem?_drop]
           simpa using hv
          rw[e2] at this
          simp only[List.getElem?_cons_zero,Option.some.injEq] at this
          rw[<-this];exact k3
         ·trivial
   ·cases hq
 | indexAddr t x i =>
   simp only[gF] at hq
   have h1:=dq x
   have h2:=dq i
   cases hc:ev x with
   | c u =>
     cases eu:ev i with
     | c v=>rw[hc,eu] at hq;rw[hc] at h1;rw[eu] at h2;exact wp_pure m (BW hT hl hq dr h1 h2) rfl h
     | _=>rw[hc,eu] at hq;cases hq
   | _=>rw[hc] at hq;cases hq
 | extract x i =>
   simp only[gF] at hq
   have h1:=dq x
   cases hc:ev x with
   | m_ vs =>
     rw[hc] at hq h1
     simp only[ee,dH] at hq
     cases hv:vs[i]? with
     | none=>rw[hv] at hq;cases hq
     | some y =>
       rw[hv] at hq
       simp only[Option.map_some,Option.some.injEq] at hq;subst hq
       obtain⟨us,e1,e2,e3⟩:=h1
       have aZ:=(List.getElem?_eq_some_iff.1 hv).1
       have hu:us[i]? = some (us[i]'(by omega)):=Array.getElem?_eq_getElem _
       refine cU (v:=us[i]'(by omega)) (w':=w) ?_ (h _ _ _ (d_ m (IK (e3 i y _ hv hu))))
       simp only[execOp,Instr.extract,e1,hu,Sem.run_bind,Sem.run_pure,Result.andThen_ok]
   | _=>rw[hc] at hq;cases hq
 | makeFunc fn first captured =>
   cases fn with
   | func f =>
     simp only[gF] at hq
     split at hq
     ·rename_i V7
      rw[ee,bt] at hq
      cases hc:qD (captured.toList.map ev) with
      | none=>rw[hc] at hq;cases hq
      | some ns =>
        rw[hc] at hq
        simp only[Option.map_some,Option.some.injEq] at hq;subst hq
        obtain⟨g1,g2⟩:=Cy dq hc
        refine cU (v:=.func (.func f) #[] (captured.map a.eval)) (w':=w) ?_ (h _ _ _ (d_ m ⟨?_,g2⟩))
        ·have:first = #[]:=by cases first;simp_all
         subst this
         simp[execOp,Instr.makeFunc]
        ·congr 1
         apply Array.ext'
         simpa using g1
     ·cases hq
   | _=>cases hq
 | call c =>
   simp only[gF] at hq
   split at hq
   ·rename_i b hb
    rw[bt] at hq
    unfold F9 at hq
    split at hq
    ·rename_i t x La K_
     rw[ee] at hq
     cases hn:JP T lk t x with
     | none=>rw[hn] at hq;cases hq
     | some n =>
       rw[hn] at hq
       simp only[Option.map_some,Option.some.injEq] at hq;subst hq
       obtain⟨y,hy,WX⟩:=MO dq K_
       have Uv:c.argTypes = #[t]:=by cases VZ:c.argTypes;rw[VZ] at La;simp at La;rw[La]
       obtain⟨g1,g2⟩:=NB (ty:=ty) hT m.ck hl hn WX
       refine cU (v:=.int .i64 n) (w':=w) ?_ (h _ _ _ (d_ m ⟨rfl,g2⟩))
       simp only[execOp,resolve,hb,invoke,builtin,hy,Uv,Sem.run_bind,Sem.run_pure,Result.andThen_ok,List.map_toArray,List.map_cons,List.map_nil,g1]
    ·rename_i k x k' y K_
     split at hq
     ·rename_i hk
      subst hk
      simp only[Option.some.injEq] at hq;subst hq
      obtain⟨p,q,RA,h1,h2⟩:=Ei dq K_
      obtain⟨e1,g1⟩:=ok_int h1
      obtain⟨e2,g2⟩:=ok_int h2
      refine cU (v:=.int k' (BI x y)) (w':=w) ?_ (h _ _ _ (d_ m ⟨rfl,?_⟩))
      ·simp[execOp,resolve,hb,invoke,builtin,RA,e1,e2,Builtin.min_,Builtin.min2,BI]
      ·show k'.min<=BI x y/\BI x y<=k'.max
       unfold BI;split<;>assumption
     ·cases hq
    ·rename_i k x k' y K_
     split at hq
     ·rename_i hk
      subst hk
      simp only[Option.some.injEq] at hq;subst hq
      obtain⟨p,q,RA,h1,h2⟩:=Ei dq K_
      obtain⟨e1,g1⟩:=ok_int h1
      obtain⟨e2,g2⟩:=ok_int h2
      refine cU (v:=.int k' (imax x y)) (w':=w) ?_ (h _ _ _ (d_ m ⟨rfl,?_⟩))
      ·simp[execOp,resolve,hb,invoke,builtin,RA,e1,e2,Builtin.max_,Builtin.max2,imax]
      ·show k'.min<=imax x y/\imax x y<=k'.max
       unfold imax;split<;>assumption
     ·cases hq
    ·cases hq
   ·rename_i x hx
    have h1:=dq x
    split at hq
    ·rename_i g hg
     rw[hg] at h1
     rw[bt] at hq
     unfold D5 at hq
     cases hc:Γ g with
     | none=>rw[hc] at hq;cases hq
     | some pc =>
       rw[hc] at hq
       simp only at hq
       cases cS:dP lk pc.ts (c.args.toList.map ev) with
       | none=>rw[cS] at hq;cases hq
       | some d =>
         rw[cS] at hq
         simp only[Option.some.injEq] at hq;subst hq
         obtain⟨k1,k2⟩:=hΓ g pc hc
         have hargs:=lg hl pc.ts (vs:=c.args.toList.map a.eval) cS (by simp) (fun i s v hi hv=>by
          rw[List.getElem?_map] at hi hv
          cases j0:c.args.toList[i]? with
          | none=>rw[j0] at hi;cases hi
          | some y =>
            rw[j0] at hi hv
            simp only[Option.map_some,Option.some.injEq] at hi hv
            rw[<-hi,<-hv];exact dq y)
         have uw:=k1 w _ d hargs (dr _ rfl)
         refine Cm (R:=fun e w'=>∃ v,e = .returned v/\oD w w' pc.rs v (pc.F d)) rfl hx h1 k2 (by rw[show c.args.map a.eval=(c.args.toList.map a.eval).toArray from Array.ext' (by simp)];exact uw) (fun e w' hr=>?_)
         obtain⟨v,rfl,hr⟩:=hr
         obtain⟨V',pS⟩:=Aq m hr hd
         exact⟨v,rfl,h v w' V' pS⟩
    ·rename_i fr g t d0 hg
     rw[hg] at h1
     rw[bt,bt,bT] at hq
     unfold D5 at hq
     cases hc:Γ g with
     | none=>rw[hc] at hq;cases hq
     | some pc =>
       rw[hc] at hq
       simp only at hq
       cases cS:dP lk pc.ts (c.args.toList.map ev++(expand fr t d0).map S.c) with
       | none=>rw[cS] at hq;cases hq
       | some d =>
         rw[cS] at hq
         simp only[Option.some.injEq] at hq;subst hq
         obtain⟨k1,k2⟩:=hΓ g pc hc
         have je:aF (V.Z fr) w (.bZ g t) [a.eval x] d0:=h1
         obtain⟨di,e1,e2⟩:=je
         injection e1 with e1 _
         have ho:=gg (V:=V) (hp:=hp) fr t e2
         have hargs:=lg hl pc.ts (vs:=c.args.toList.map a.eval++di.toList) cS (by simp[ho.1]) (fun i s v hi hv=>by
          rcases Nat.lt_or_ge i c.args.toList.length with aZ|lW
          ·rw[List.getElem?_append_left (by simpa using aZ),List.getElem?_map] at hi
           rw[List.getElem?_append_left (by simpa using aZ),List.getElem?_map] at hv
           cases j0:c.args.toList[i]? with
           | none=>rw[j0] at hi;cases hi
           | some y =>
             rw[j0] at hi hv
             simp only[Option.map_some,Option.some.injEq] at hi hv
             rw[<-hi,<-hv];exact dq y
          ·rw[List.getElem?_append_right (by simpa using lW),List.getElem?_map] at hi
           rw[List.getElem?_append_right (by simpa using lW)] at hv
           simp only[List.length_map] at hi hv
           cases hy:(expand fr t d0)[i-c.args.toList.length]? with
           | none=>rw[hy] at hi;cases hi
           | some y =>
             rw[hy] at hi
             simp only[Option.map_some,Option.some.injEq] at hi
             rw[<-hi]
             exact ho.2 _ y v hy hv)
         have uw:=k1 w _ d hargs (dr _ rfl)
         refine G7 (R:=fun e w'=>∃ v,e = .returned v/\oD w w' pc.rs v (pc.F d)) rfl hx e1 k2 (by rw[show c.args.map a.eval++di=(c.args.toList.map a.eval++di.toList).toArray from Array.ext' (by simp)];exact uw) (fun e w' hr=>?_)
         obtain⟨v,rfl,hr⟩:=hr
         obtain⟨V',pS⟩:=Aq m hr hd
         exact⟨v,rfl,h v w' V' pS⟩
    ·cases hq
   ·cases hq
 | _=>cases hq
end
end Go.SX
