/- A verified symbolic executor and its contracts (part SxA). No condition. -/
import Derived.Orders
import Derived.Below
import GoSem.ClaimData
import Derived.Laws.BytesArg
import Derived.Laws.OwnMore
import Derived.Laws.CopyRow
import Derived.Laws.NewFold
import Derived.Laws.Tables
import Derived.Laws.StructEq
open Go.IntKind (i64 u8)
/- The data that a Go value of plain types reads as, and what keeps such a reading: types, typed data, readings of cells. No condition. -/
namespace Go.SX
open Go.RowKit
set_option linter.unusedVariables false
inductive Ty where
 | int (k:IntKind)
 | bool
 | str
 | sl (e:Ty)
 | st (t:Ty)
 | pr (a b:Ty)
 | ptr (t:Ty)
 | ca (f:Nat) (t:Ty)
 | gs (wh:Bool) (e:Ty)
 deriving DecidableEq
@[reducible] def Ty.den:Ty->Type
 | .int _=>Int
 | .bool=>Bool
 | .str=>ByteArray
 | .sl e=>List e.den
 | .st t=>t.den
 | .pr a b=>a.den×b.den
 | .ptr t=>t.den
 | .ca _ t=>t.den
 | .gs _ e=>Nat×List e.den
def Ty.size:Ty->Nat
 | .st t=>t.size
 | .pr a b=>a.size+b.size
 | _=>1
def Ty.gh:(t:Ty)->t.den
 | .int _=>(0:Int)
 | .bool=>false
 | .str=>ByteArray.empty
 | .sl _=>[]
 | .st t=>t.gh
 | .pr a b=>(a.gh,b.gh)
 | .ptr t=>t.gh
 | .ca _ t=>t.gh
 | .gs _ _=>(0,[])
def Ty.flat:Ty->Bool
 | .sl _=>false
 | .st t=>t.flat
 | .pr a b=>a.flat&&b.flat
 | .ptr _=>false
 | .ca _ _=>false
 | .gs _ _=>false
 | _=>true
def Ty.plain:Ty->Bool
 | .st t=>t.plain
 | .pr a b=>a.plain&&b.plain
 | .ptr _=>false
 | .ca _ _=>false
 | _=>true
def cY:Nat:=9223372036854775807
def Ty.wf:(t:Ty)->t.den->Prop
 | .int k,n=>k.min<=n/\n<=k.max
 | .bool,_=>True
 | .str,s=>s.size<=maxLen
 | .sl e,xs=>xs.length<=cY/\∀ x∈xs,e.wf x
 | .st t,d=>t.wf d
 | .pr a b,d=>a.wf d.1/\b.wf d.2
 | .ptr t,d=>t.wf d
 | .ca _ t,d=>t.wf d
 | .gs _ e,d=>d.2.length<=cY/\∀ x∈d.2,e.wf x
def oS(w:World)(b off:Nat)(cs:List Value):Prop:=∀ j (h:j<cs.length),w.cell? ⟨b,off+j,none⟩=some cs[j]
def acL(b:Nat)(cs:List Value):Prop:=∃ o n cap,cs=[.slice (some ⟨b,o,none⟩) n cap]
def Y2(w:World)(b:Nat)(cs:List Value)(sz:Nat):Prop:=∃ n cap ak el,cs=[.slice (some ⟨b,0,none⟩) n cap]/\w.heap[b]? = some (.cells ak el (0,0))/\ak.size=cap*sz
def aI(Z:Nat->Prop)(w:World):(t:Ty)->List Value->t.den->Prop
 | .int k,cs,n=>cs=[.int k n]/\k.min<=n/\n<=k.max
 | .bool,cs,b=>cs=[.bool b]
 | .str,cs,s=>cs=[.string s]/\s.size<=maxLen
 | .sl e,cs,xs=>∃ a cap,cs=[.slice a xs.length cap]/\xs.length<=cap/\xs.length<=cY ∧
    ∀ i (h:i<xs.length),∃ ad:Addr,a=some ad/\ad.spot=none/\Z ad.block ∧
     ∃ es,es.length=e.size/\oS w ad.block (ad.off+i*e.size) es/\aI Z w e es xs[i]
 | .st t,cs,d=>aI Z w t cs d
 | .pr a b,cs,d=>∃ c1 c2,cs=c1++c2/\aI Z w a c1 d.1/\aI Z w b c2 d.2
 | .ptr t,cs,d=>∃ b o,cs=[.pointer (some ⟨b,o,none⟩)]/\Z b/\∃ es,es.length=t.size/\oS w b o es/\aI Z w t es d
 | .ca f t,cs,d=>∃ ea:Array Value,cs=[.func (.func f) #[] ea]/\aI Z w t ea.toList d
 | .gs wh e,cs,d=>(∃ a cap,cs=[.slice a d.2.length cap]/\d.2.length<=cap/\d.2.length<=cY ∧
    ∀ i (h:i<d.2.length),∃ ad:Addr,a=some ad/\ad.spot=none/\Z ad.block ∧
     ∃ es,es.length=e.size/\oS w ad.block (ad.off+i*e.size) es/\aI Z w e es d.2[i])/\(0<d.2.length->acL d.1 cs)/\(wh=true->0<d.2.length->Y2 w d.1 cs e.size)
def ph(Z:Nat->Prop)(w w':World):Prop:=∀ b,Z b->w'.heap[b]? = w.heap[b]?
theorem ph.refl(Z:Nat->Prop)(w:World):ph Z w w:=fun _ _=>rfl
theorem ph.trans{Z:Nat->Prop}{a b c:World}(h:ph Z a b)(k:ph Z b c):ph Z a c:=fun x hx=>(k x hx).trans (h x hx)
theorem ph.mono{Z Z':Nat->Prop}{a b:World}(h:ph Z a b)(hz:∀ x,Z' x->Z x):ph Z' a b:=fun x hx=>h x (hz x hx)
theorem jo{w w':World}{b off:Nat}{cs:List Value}(hb:w'.heap[b]? = w.heap[b]?)(h:oS w b off cs):oS w' b off cs :=
 fun j hj=>(World.cell?_of_block hb).trans (h j hj)
theorem aI.mono{Z Z':Nat->Prop}{w w':World}(hz:∀ b,Z b->Z' b)(ha:ph Z w w'):∀ {t:Ty} {cs:List Value} {d:t.den},aI Z w t cs d->aI Z' w' t cs d:=by
 intro t
 induction t with
 | int k=>exact fun h=>h
 | bool=>exact fun h=>h
 | str=>exact fun h=>h
 | sl e ih =>
   intro cs xs h
   obtain⟨a,cap,h1,h2,h3,h4⟩:=h
   refine⟨a,cap,h1,h2,h3,fun i hi=>?_⟩
   obtain⟨ad,e1,e2,e3,es,e4,e5,e6⟩:=h4 i hi
   exact⟨ad,e1,e2,hz _ e3,es,e4,jo (ha _ e3) e5,ih e6⟩
 | st t ih=>exact fun h=>ih h
 | pr a b fX fR =>
   intro cs d h
   obtain⟨c1,c2,h1,h2,h3⟩:=h
   exact⟨c1,c2,h1,fX h2,fR h3⟩
 | ptr t ih =>
   intro cs d h
   obtain⟨b,o,h1,h2,es,h3,h4,h5⟩:=h
   exact⟨b,o,h1,hz b h2,es,h3,jo (ha b h2) h4,ih h5⟩
 | ca f t ih =>
   intro cs d h
   obtain⟨ea,h1,h2⟩:=h
   exact⟨ea,h1,ih h2⟩
 | gs wh e ih =>
   intro cs d h
   obtain⟨⟨a,cap,h1,h2,h3,h4⟩,h5,h6⟩:=h
   refine⟨⟨a,cap,h1,h2,h3,fun i hi=>?_⟩,h5,fun hw hp=>?_⟩
   ·obtain⟨ad,e1,e2,e3,es,e4,e5,e6⟩:=h4 i hi
    exact⟨ad,e1,e2,hz _ e3,es,e4,jo (ha _ e3) e5,ih e6⟩
   ·obtain⟨n,j9,ak,el,k1,k2,k3⟩:=h6 hw hp
    obtain⟨ad,e1,e2,e3,_⟩:=h4 0 hp
    rw[k1] at h1
    injection h1 with h1 _
    injection h1 with q1 q2 q3
    rw[e1] at q1
    injection q1 with q1
    rw[<-q1] at e3
    exact⟨n,j9,ak,el,k1,by rw[ha _ e3];exact k2,k3⟩
theorem aI.length{Z:Nat->Prop}{w:World}:∀ {t:Ty} {cs:List Value} {d:t.den},aI Z w t cs d->cs.length=t.size:=by
 intro t
 induction t with
 | int k=>intro cs d h;rw[h.1];rfl
 | bool=>intro cs d h;rw[show cs=_ from h];rfl
 | str=>intro cs d h;rw[h.1];rfl
 | sl e ih=>intro cs d h;obtain⟨a,cap,h1,_⟩:=h;rw[h1];rfl
 | st t ih=>exact fun h=>ih h
 | pr a b fX fR =>
   intro cs d h
   obtain⟨c1,c2,h1,h2,h3⟩:=h
   rw[h1,List.length_append,fX h2,fR h3];rfl
 | ptr t ih=>intro cs d h;obtain⟨b,o,h1,_⟩:=h;rw[h1];rfl
 | ca f t ih=>intro cs d h;obtain⟨ea,h1,_⟩:=h;rw[h1];rfl
 | gs wh e ih=>intro cs d h;obtain⟨⟨a,cap,h1,_⟩,_⟩:=h;rw[h1];rfl
theorem aI.wf{Z:Nat->Prop}{w:World}:∀ {t:Ty} {cs:List Value} {d:t.den},aI Z w t cs d->t.wf d:=by
 intro t
 induction t with
 | int k=>exact fun h=>h.2
 | bool=>exact fun h=>trivial
 | str=>exact fun h=>h.2
 | sl e ih =>
   intro cs xs h
   obtain⟨a,cap,h1,h2,h3,h4⟩:=h
   refine⟨h3,fun x hx=>?_⟩
   obtain⟨i,hi,rfl⟩:=List.getElem_of_mem hx
   obtain⟨ad,e1,e2,e3,es,e4,e5,e6⟩:=h4 i hi
   exact ih e6
 | st t ih=>exact fun h=>ih h
 | pr a b fX fR =>
   intro cs d h
   obtain⟨c1,c2,h1,h2,h3⟩:=h
   exact⟨fX h2,fR h3⟩
 | ptr t ih=>intro cs d h;obtain⟨b,o,h1,h2,es,h3,h4,h5⟩:=h;exact ih h5
 | ca f t ih=>intro cs d h;obtain⟨ea,h1,h2⟩:=h;exact ih h2
 | gs wh e ih =>
   intro cs d h
   obtain⟨⟨a,cap,h1,h2,h3,h4⟩,_⟩:=h
   refine⟨h3,fun x hx=>?_⟩
   obtain⟨i,hi,rfl⟩:=List.getElem_of_mem hx
   obtain⟨ad,e1,e2,e3,es,e4,e5,e6⟩:=h4 i hi
   exact ih e6
theorem aI.flat{Z Z':Nat->Prop}{w w':World}:∀ {t:Ty},t.flat=true->∀ {cs:List Value} {d:t.den},aI Z w t cs d->aI Z' w' t cs d:=by
 intro t
 induction t with
 | int k=>exact fun _ _ _ h=>h
 | bool=>exact fun _ _ _ h=>h
 | str=>exact fun _ _ _ h=>h
 | sl e ih=>intro h;cases h
 | st t ih=>exact fun hf _ _ h=>ih hf h
 | pr a b fX fR =>
   intro hf cs d h
   obtain⟨c1,c2,h1,h2,h3⟩:=h
   have Ui:(a.flat&&b.flat)=true:=hf
   simp only[Bool.and_eq_true] at Ui
   exact⟨c1,c2,h1,fX Ui.1 h2,fR Ui.2 h3⟩
 | ptr t ih=>intro h;cases h
 | ca f t ih=>intro h;cases h
 | gs wh e ih=>intro h;cases h
theorem aI.dA{Z:Nat->Prop}{w:World}:∀ {t:Ty} {cs:List Value} {d:t.den},aI Z w t cs d->∀ v∈cs,v.oneCell'=true:=by
 intro t
 induction t with
 | int k=>intro cs d h;rw[h.1];simp[Value.oneCell']
 | bool=>intro cs d h;rw[show cs=_ from h];simp[Value.oneCell']
 | str=>intro cs d h;rw[h.1];simp[Value.oneCell']
 | sl e ih=>intro cs d h;obtain⟨a,cap,h1,_⟩:=h;rw[h1];simp[Value.oneCell']
 | st t ih=>exact fun h=>ih h
 | pr a b fX fR =>
   intro cs d h
   obtain⟨c1,c2,h1,h2,h3⟩:=h
   intro v hv
   rw[h1,List.mem_append] at hv
   exact hv.elim (fX h2 v) (fR h3 v)
 | ptr t ih=>intro cs d h;obtain⟨b,o,h1,_⟩:=h;rw[h1];simp[Value.oneCell']
 | ca f t ih=>intro cs d h;obtain⟨ea,h1,_⟩:=h;rw[h1];simp[Value.oneCell']
 | gs wh e ih=>intro cs d h;obtain⟨⟨a,cap,h1,_⟩,_⟩:=h;rw[h1];simp[Value.oneCell']
theorem aI.Wz{Z:Nat->Prop}{w:World}(k:IntKind):aI Z w (.int k) [.int k 0] (Ty.gh (.int k)):=⟨rfl,by cases k<;>decide,by cases k<;>decide⟩
def Ty.lj:Ty->List Value
 | .int k=>[.int k 0]
 | .bool=>[.bool false]
 | .str=>[.string ByteArray.empty]
 | .sl _=>[.slice none 0 0]
 | .st t=>t.lj
 | .pr a b=>a.lj++b.lj
 | .ptr _=>[.pointer none]
 | .ca _ _=>[.nilFunc]
 | .gs _ _=>[.slice none 0 0]
theorem aI.zero{Z:Nat->Prop}{w:World}:∀(t:Ty),t.plain=true->aI Z w t t.lj t.gh:=by
 intro t
 induction t with
 | int k=>exact fun _=>aI.Wz k
 | bool=>exact fun _=>rfl
 | str=>exact fun _=>⟨rfl,by decide⟩
 | sl e ih=>exact fun _=>⟨none,0,rfl,Nat.le_refl _,Nat.zero_le _,fun i hi=>absurd hi (Nat.not_lt_zero _)⟩
 | st t ih=>exact fun h=>ih h
 | pr a b fX fR =>
   intro h
   have h':(a.plain&&b.plain)=true:=h
   rw[Bool.and_eq_true] at h'
   exact⟨_,_,rfl,fX h'.1,fR h'.2⟩
 | ptr t ih=>intro h;cases h
 | ca f t ih=>intro h;cases h
 | gs wh e ih=>exact fun _=>⟨⟨none,0,rfl,Nat.le_refl _,Nat.zero_le _,fun i hi=>absurd hi (Nat.not_lt_zero _)⟩,fun hp=>absurd hp (Nat.lt_irrefl _),fun _ hp=>absurd hp (Nat.lt_irrefl _)⟩
def Ty.cO:Ty->Ty
 | .gs _ e=>.sl e.cO
 | .sl e=>.sl e.cO
 | .st t=>.st t.cO
 | .pr a b=>.pr a.cO b.cO
 | t=>t
def aU:(t:Ty)->t.den->t.cO.den
 | .gs _ e,d=>d.2.map (aU e)
 | .sl e,d=>d.map (aU e)
 | .st t,d=>aU t d
 | .pr a b,d=>(aU a d.1,aU b d.2)
 | .int _,d=>d
 | .bool,d=>d
 | .str,d=>d
 | .ptr _,d=>d
 | .ca _ _,d=>d
def bH(e:Ty)(xs:List e.den):List e.cO.den:=xs.map (aU e)
theorem b_:∀ t:Ty,t.cO.size=t.size
 | .gs _ _=>rfl
 | .st t=>b_ t
 | .pr a b=>by show a.cO.size+b.cO.size=a.size+b.size;rw[b_ a,b_ b]
 | .int _=>rfl
 | .bool=>rfl
 | .str=>rfl
 | .sl _=>rfl
 | .ptr _=>rfl
 | .ca _ _=>rfl
theorem z6:∀ t:Ty,t.cO.flat=t.flat
 | .gs _ _=>rfl
 | .st t=>z6 t
 | .pr a b=>by show (a.cO.flat&&b.cO.flat)=(a.flat&&b.flat);rw[z6 a,z6 b]
 | .int _=>rfl
 | .bool=>rfl
 | .str=>rfl
 | .sl _=>rfl
 | .ptr _=>rfl
 | .ca _ _=>rfl
theorem aI.YY{Z:Nat->Prop}{w:World}{e:Ty}{es:List Value}{l:List e.den}{i:Nat}(hi:i<(l.map (aU e)).length)(h:∀ cF:i<l.length,aI Z w e.cO es (aU e (l[i]'cF))):aI Z w e.cO es ((l.map (aU e))[i]'hi):=by
 rw[List.getElem_map];exact h _
theorem aI.un{Z:Nat->Prop}{w:World}:∀(t:Ty) {cs:List Value} {d:t.den},aI Z w t cs d->aI Z w t.cO cs (aU t d)
 | .gs _ e,_,d,h=>by
   obtain⟨⟨a,cap,h1,h2,h3,h4⟩,_⟩:=h
   refine⟨a,cap,?_,?_,?_,fun i hi=>?_⟩
   ·show _=[Value.slice a (d.2.map (aU e)).length cap];rw[List.length_map];exact h1
   ·show (d.2.map (aU e)).length<=_;rw[List.length_map];exact h2
   ·show (d.2.map (aU e)).length<=_;rw[List.length_map];exact h3
   ·have cF:i<d.2.length:=by have:i<(d.2.map (aU e)).length:=hi;rwa [List.length_map] at this
    obtain⟨ad,e1,e2,e3,es,e4,e5,e6⟩:=h4 i cF
    refine⟨ad,e1,e2,e3,es,by rw[b_];exact e4,by rw[b_];exact e5,?_⟩
    exact aI.YY (l:=d.2) hi (fun _=>aI.un e e6)
 | .sl e,_,d,h=>by
   obtain⟨a,cap,h1,h2,h3,h4⟩:=h
   refine⟨a,cap,?_,?_,?_,fun i hi=>?_⟩
   ·show _=[Value.slice a (List.map (aU e) d).length cap];rw[List.length_map];exact h1
   ·show (List.map (aU e) d).length<=_;rw[List.length_map];exact h2
   ·show (List.map (aU e) d).length<=_;rw[List.length_map];exact h3
   ·have cF:i<List.length d:=by have:i<(List.map (aU e) d).length:=hi;rwa [List.length_map] at this
    obtain⟨ad,e1,e2,e3,es,e4,e5,e6⟩:=h4 i cF
    refine⟨ad,e1,e2,e3,es,by rw[b_];exact e4,by rw[b_];exact e5,?_⟩
    exact aI.YY (l:=d) hi (fun _=>aI.un e e6)
 | .st t,_,_,h=>aI.un t h
 | .pr a b,_,_,h=>by obtain⟨c1,c2,h1,h2,h3⟩:=h;exact⟨c1,c2,h1,aI.un a h2,aI.un b h3⟩
 | .int _,_,_,h=>h
 | .bool,_,_,h=>h
 | .str,_,_,h=>h
 | .ptr _,_,_,h=>h
 | .ca _ _,_,_,h=>h
def ids:(t:Ty)->t.den->List Nat
 | .gs _ e,d=>match d.2 with|[]=>[]|x::r=>d.1::(x::r).flatMap (ids e)
 | .sl e,d=>d.flatMap (ids e)
 | .st t,d=>ids t d
 | .pr a b,d=>ids a d.1++ids b d.2
 | _,_=>[]
def aX(e:Ty)(xs:List e.den):List Nat:=xs.flatMap (ids e)
theorem Mx{wh:Bool}{e:Ty}{b:Nat}{xs:List e.den}:ids (.gs wh e) (b,xs)=if xs.isEmpty then [] else b::aX e xs:=by
 cases xs<;>rfl
theorem Ei{Z:Nat->Prop}{w:World}{wh:Bool}{e:Ty}{cs:List Value}{d:Nat×List e.den}(h:aI Z w (.gs wh e) cs d)(hp:0<d.2.length):Z d.1/\∃ o cap,cs=[.slice (some ⟨d.1,o,none⟩) d.2.length cap]:=by
 obtain⟨⟨a,cap,h1,h2,h3,h4⟩,h5,_⟩:=h
 obtain⟨o,n,j9,k1⟩:=h5 hp
 obtain⟨ad,e1,e2,e3,_⟩:=h4 0 hp
 rw[k1] at h1
 injection h1 with h1 _
 injection h1 with q1 q2 q3
 rw[e1] at q1
 injection q1 with q1
 rw[<-q1] at e3
 exact⟨e3,o,cap,by rw[k1,q2,q3]⟩
theorem aI.jz{Z:Nat->Prop}{w:World}:∀(t:Ty) {cs:List Value} {d:t.den},aI Z w t cs d->∀ i∈ids t d,Z i
 | .gs wh e,cs,(b,xs),h,i,hi=>by
   cases xs with
   | nil=>cases hi
   | cons x xr =>
     rcases List.mem_cons.1 hi with rfl|hi
     ·exact (Ei h (Nat.succ_pos _)).1
     ·obtain⟨y,hy,hiy⟩:=List.mem_flatMap.1 hi
      obtain⟨j,hj,rfl⟩:=List.getElem_of_mem hy
      obtain⟨⟨a,cap,h1,h2,h3,h4⟩,_⟩:=h
      obtain⟨_,_,_,_,es,_,_,h6⟩:=h4 j hj
      exact aI.jz e h6 i hiy
 | .st t,_,_,h,i,hi=>aI.jz t h i hi
 | .pr a b,_,d,h,i,hi=>by
   obtain⟨c1,c2,h1,h2,h3⟩:=h
   rcases List.mem_append.1 hi with hi|hi
   ·exact aI.jz a h2 i hi
   ·exact aI.jz b h3 i hi
 | .int _,_,_,_,i,hi=>by cases hi
 | .bool,_,_,_,i,hi=>by cases hi
 | .str,_,_,_,i,hi=>by cases hi
 | .sl e,_,d,h,i,hi=>by
   obtain⟨y,hy,hiy⟩:=List.mem_flatMap.1 (show i∈List.flatMap (ids e) d from hi)
   obtain⟨j,hj,rfl⟩:=List.getElem_of_mem hy
   obtain⟨a,cap,h1,h2,h3,h4⟩:=h
   obtain⟨_,_,_,_,es,_,_,h6⟩:=h4 j hj
   exact aI.jz e h6 i hiy
 | .ptr _,_,_,_,i,hi=>by cases hi
 | .ca _ _,_,_,_,i,hi=>by cases hi
def Ty.ir:Ty->Bool
 | .gs _ e=>e.ir
 | .st t=>t.ir
 | .pr a b=>a.ir&&b.ir
 | .sl _=>false
 | .ptr _=>false
 | .ca _ _=>false
 | _=>true
def Ty.bQ:Ty->Bool
 | .gs _ _=>true
 | .sl e=>e.bQ
 | .st t=>t.bQ
 | .pr a b=>a.bQ||b.bQ
 | _=>false
def zB:(t:Ty)->t.cO.den->Prop
 | .gs _ _,d=>d=[]
 | .sl _,d=>d=[]
 | .st t,d=>zB t d
 | .pr a b,d=>zB a d.1/\zB b d.2
 | _,_=>True
def gq:(t:Ty)->t.cO.den->t.den
 | .gs _ _,_=>(0,[])
 | .sl _,_=>[]
 | .st t,d=>gq t d
 | .pr a b,d=>(gq a d.1,gq b d.2)
 | .int _,d=>d
 | .bool,d=>d
 | .str,d=>d
 | .ptr _,d=>d
 | .ca _ _,d=>d
theorem aI.gq{Z:Nat->Prop}{w:World}:∀(t:Ty) {cs:List Value} {d:t.cO.den},aI Z w t.cO cs d->zB t d->aI Z w t cs (SX.gq t d)
 | .gs wh e,cs,d,h,hn=>by
   have hn:d=[]:=hn
   subst hn
   obtain⟨a,cap,h1,h2,h3,h4⟩:=h
   exact⟨⟨a,cap,h1,Nat.zero_le _,Nat.zero_le _,fun i hi=>absurd hi (Nat.not_lt_zero _)⟩,fun hp=>absurd hp (Nat.lt_irrefl _),fun _ hp=>absurd hp (Nat.lt_irrefl _)⟩
 | .sl e,cs,d,h,hn=>by
   have hn:d=[]:=hn
   subst hn
   obtain⟨a,cap,h1,h2,h3,h4⟩:=h
   exact⟨a,cap,h1,Nat.zero_le _,Nat.zero_le _,fun i hi=>absurd hi (Nat.not_lt_zero _)⟩
 | .st t,_,_,h,hn=>aI.gq t h hn
 | .pr a b,_,_,h,hn=>by
   obtain⟨c1,c2,h1,h2,h3⟩:=h
   exact⟨c1,c2,h1,aI.gq a h2 hn.1,aI.gq b h3 hn.2⟩
 | .int _,_,_,h,_=>h
 | .bool,_,_,h,_=>h
 | .str,_,_,h,_=>h
 | .ptr _,_,_,h,_=>h
 | .ca _ _,_,_,h,_=>h
theorem aI.mv{Z Z':Nat->Prop}{w w':World}:∀(t:Ty),t.ir=true->∀ {cs:List Value} {d:t.den},aI Z w t cs d->(∀ i∈ids t d,Z' i/\w'.heap[i]? = w.heap[i]?)->aI Z' w' t cs d
 | .gs wh e,hg,cs,(b,xs),h,hi=>by
   have h':=h
   obtain⟨⟨a,cap,h1,h2,h3,h4⟩,h5,h6⟩:=h
   cases xs with
   | nil=>exact⟨⟨a,cap,h1,h2,h3,fun i hi=>absurd hi (Nat.not_lt_zero _)⟩,fun hp=>absurd hp (Nat.lt_irrefl _),fun _ hp=>absurd hp (Nat.lt_irrefl _)⟩
   | cons x xr =>
     obtain⟨hz,hw⟩:=hi b (List.mem_cons_self ..)
     obtain⟨_,o,Wq,fA⟩:=Ei h' (Nat.succ_pos _)
     refine⟨⟨a,cap,h1,h2,h3,fun i cF=>?_⟩,h5,fun F6 hp=>?_⟩
     ·obtain⟨ad,e1,e2,e3,es,e4,e5,e6⟩:=h4 i cF
      have hb:ad.block=b:=by
       rw[fA] at h1
       injection h1 with h1 _
       injection h1 with q1 q2 q3
       rw[e1] at q1
       injection q1 with q1
       rw[<-q1]
      refine⟨ad,e1,e2,by rw[hb];exact hz,es,e4,jo (by rw[hb];exact hw) e5,aI.mv e hg e6 (fun j hj=>hi j (List.mem_cons_of_mem _ (List.mem_flatMap.2 ⟨_,List.getElem_mem cF,hj⟩)))⟩
     ·obtain⟨n,j9,ak,el,k1,k2,k3⟩:=h6 F6 hp
      exact⟨n,j9,ak,el,k1,by rw[hw];exact k2,k3⟩
 | .st t,hg,_,_,h,hi=>aI.mv t hg h hi
 | .pr a b,hg,_,d,h,hi=>by
   have kH:(a.ir&&b.ir)=true:=hg
   rw[Bool.and_eq_true] at kH
   obtain⟨c1,c2,h1,h2,h3⟩:=h
   exact⟨c1,c2,h1,aI.mv a kH.1 h2 (fun i hm=>hi i (List.mem_append_left _ hm)),aI.mv b kH.2 h3 (fun i hm=>hi i (List.mem_append_right _ hm))⟩
 | .int _,_,_,_,h,_=>h
 | .bool,_,_,_,h,_=>h
 | .str,_,_,_,h,_=>h
 | .sl _,hg,_,_,_,_=>by cases hg
 | .ptr _,hg,_,_,_,_=>by cases hg
 | .ca _ _,hg,_,_,_,_=>by cases hg
def nth{α:Type}(d:α):List α->Nat->α
 | [],_=>d
 | x::_,0=>x
 | _::r,n+1=>nth d r n
def mK{α:Type}:List α->Nat->Option α
 | [],_=>none
 | x::_,0=>some x
 | _::r,n+1=>mK r n
def bP{α:Type}:List α->Nat->α->List α
 | [],_,_=>[]
 | _::r,0,y=>y::r
 | x::r,n+1,y=>x::bP r n y
def wm{α:Type}:Nat->List α->List α
 | 0,_=>[]
 | _+1,[]=>[]
 | n+1,x::r=>x::wm n r
def tT{α:Type}:Nat->List α->List α
 | 0,l=>l
 | _+1,[]=>[]
 | n+1,_::r=>tT n r
def dX{α:Type}:List α->List α->List α
 | [],ys=>ys
 | x::r,ys=>x::dX r ys
def lmap{α β:Type}(f:α->β):List α->List β
 | []=>[]
 | x::r=>f x::lmap f r
def bL{α:Type}:List α->Nat
 | []=>0
 | _::r=>bL r+1
def fK{α:Type}(p:α->Bool):List α->Bool
 | []=>true
 | x::r=>p x&&fK p r
def lQ{α:Type}(p:α->Bool):List α->Bool
 | []=>false
 | x::r=>p x||lQ p r
def kW{α:Type}(x:α):Nat->List α
 | 0=>[]
 | n+1=>x::kW x n
def omap{α β:Type}(f:α->β):Option α->Option β
 | some x=>some (f x)
 | none=>none
def Gg.{u}{α:Type}{β:Type u}(o:Option α)(f:α->Option β):Option β :=
 match o with
 | some x=>f x
 | none=>none
def Gh{α:Type}(o p:Option α):Option α :=
 match o with
 | some x=>some x
 | none=>p
theorem fa{α:Type}:∀(l:List α) (n:Nat),mK l n=l[n]?
 | [],_=>rfl
 | _::_,0=>rfl
 | _::r,n+1=>by simp[mK,fa r n]
theorem cT{α:Type}(d:α):∀(l:List α) (n:Nat),nth d l n=(l[n]?).getD d
 | [],_=>rfl
 | _::_,0=>rfl
 | _::r,n+1=>by simp[nth,cT d r n]
theorem ga{α:Type}:∀(l:List α) (n:Nat) (y:α),bP l n y=l.set n y
 | [],_,_=>rfl
 | _::_,0,_=>rfl
 | x::r,n+1,y=>by simp[bP,ga r n y]
theorem mH{α:Type}:∀(n:Nat) (l:List α),wm n l=l.take n
 | 0,_=>rfl
 | _+1,[]=>rfl
 | n+1,x::r=>by simp[wm,mH n r]
theorem mG{α:Type}:∀(n:Nat) (l:List α),tT n l=l.drop n
 | 0,_=>rfl
 | _+1,[]=>rfl
 | n+1,x::r=>by simp[tT,mG n r]
theorem cp{α:Type}:∀(l k:List α),dX l k=l++k
 | [],_=>rfl
 | x::r,k=>by simp[dX,cp r k]
theorem bS{α β:Type}(f:α->β):∀(l:List α),lmap f l=l.map f
 | []=>rfl
 | x::r=>by simp[lmap,bS f r]
theorem dz{α:Type}:∀(l:List α),bL l=l.length
 | []=>rfl
 | x::r=>by simp[bL,dz r]
theorem iF{α:Type}(p:α->Bool):∀(l:List α),fK p l=l.all p
 | []=>rfl
 | x::r=>by simp[fK,iF p r]
theorem yd{α:Type}(p:α->Bool):∀(l:List α),lQ p l=l.any p
 | []=>rfl
 | x::r=>by simp[lQ,yd p r]
theorem iG{α:Type}(x:α):∀ n,kW x n=List.replicate n x
 | 0=>rfl
 | n+1=>by simp[kW,iG x n,List.replicate_succ]
theorem fv{α β:Type}(f:α->β)(o:Option α):omap f o=o.map f:=by cases o<;>rfl
theorem zF.{u}{α:Type}{β:Type u}(o:Option α)(f:α->Option β):Gg o f=o.bind f:=by cases o<;>rfl
end Go.SX
/- Symbolic values and states, and when a frame and a world are such. No condition. -/
namespace Go.SX
open Go.RowKit
set_option linter.unusedVariables false
inductive C where
  | val (v : Value)
  | iB
  | iq
  /-- a slice that reads as 'xs', by memory that nobody writes any more -/
  | rd (fr : Bool) (e : Ty) (xs : List e.den)
  /-- row 'n', whole -/
  | own (n : Nat)
  /-- the first 'h' elements of row 'n' -/
  | pre (n h : Nat)
  /-- a slice that reads as 'xs', by the memory of row 'n' -/
  | fP (n : Nat) (e : Ty) (xs : List e.den)
  /-- the address of cell 'off' of box 'n' -/
  | box (n off : Nat)
  /-- the address of cell 'off' of a datum 'd' in memory that nobody writes any more -/
  | at_ (fr : Bool) (t : Ty) (d : t.den) (off : Nat)
  /-- the address of cell 'off' of element 'i' of row 'n' -/
  | eR (n i off : Nat)
  /-- a function value that has captured boxes -/
  | fn (f : FuncId) (ea : List Nat)
  /-- a function value whose captured addresses lead to memory that nobody writes any more -/
  | ca (fr : Bool) (f : Nat) (t : Ty) (d : t.den)
  /-- as 'rd'; the slice lies in block 'b' ('wh': it is all of it) -/
  | rg (fr wh : Bool) (e : Ty) (b : Nat) (xs : List e.den)
  | any
inductive S where
  | c (x : C)
  | agg (cs : List C)
  | sP (vs : List (Bool × List C))
  | fh
  | any
  /-- an array of flat elements -/
  | arr (e : Ty) (xs : List e.den)
inductive az where
 | dead
 | bx (cs:List C)
 | row (fr:Bool) (e:Ty) (xs:List e.den)
structure St where
 ts:List S
 hp:List az
def St.an(st:St)(n:Nat):az:=nth .dead st.hp n
def wfV:Value->Prop
 | .int k n=>k.min<=n/\n<=k.max
 | .string s=>s.size<=maxLen
 | .slice a n c=>a=none/\n=0/\c=0
 | .agg _=>False
 | .tuple _=>False
 | _=>True
structure Vl where
 aF:Nat->Nat
 has:Nat->Prop
 Z0:Nat->Prop
 Z1:Nat->Prop
def Vl.Z(V:Vl)(fr:Bool)(b:Nat):Prop:=V.Z1 b\/(fr=false/\V.Z0 b)
theorem Vl.db{V:Vl}{b:Nat}{fr:Bool}(h:V.Z fr b):V.Z false b:=by
 rcases h with h|⟨_,h⟩
 ·exact .inl h
 ·exact .inr ⟨rfl,h⟩
def du(V:Vl)(w:World)(n:Nat)(e:Ty)(h:Nat)(v:Value):Prop :=
 (¬V.has n/\v = .slice none 0 0/\h=0) ∨
 (V.has n/\∃ cap ak el,v = .slice (some ⟨V.aF n,0,none⟩) h cap/\w.heap[V.aF n]? = some (.cells ak el (0,0))/\ak.size=cap*e.size/\h<=cap)
def C.ok(V:Vl)(hp:Nat->az)(w:World):C->Value->Prop
 | .val u,v=>v=u/\wfV u
 | .iB,v=>v = .bool true
 | .iq,v=>v = .bool false
 | .rd fr e xs,v=>aI (V.Z fr) w (.sl e) [v] xs
 | .own n,v=>∃ fr e xs,hp n = .row fr e xs/\du V w n e xs.length v
 | .pre n h,v=>∃ fr e xs,hp n = .row fr e xs/\h<=xs.length/\du V w n e h v
 | .fP n e xs,v=>(∃ fr e' ys,hp n = .row fr e' ys)/\aI (fun b=>V.Z false b\/(V.has n/\b=V.aF n)) w (.sl e) [v] xs
 | .box n off,v=>v = .pointer (some ⟨V.aF n,off,none⟩)/\V.has n/\∃ cs,hp n = .bx cs
 | .at_ fr t d off,v=>∃ b o,v = .pointer (some ⟨b,o+off,none⟩)/\V.Z fr b/\∃ es,es.length=t.size/\oS w b o es/\aI (V.Z fr) w t es d
 | .eR n i off,v=>V.has n/\∃ fr e xs,hp n = .row fr e xs/\i<xs.length/\v = .pointer (some ⟨V.aF n,i*e.size+off,none⟩)
 | .fn f ea,v=>v = .func (.func f) #[] (ea.map (fun n=>Value.pointer (some ⟨V.aF n,0,none⟩))).toArray/\∀ n∈ea,V.has n/\∃ cs,hp n = .bx cs
 | .ca fr f t d,v=>aI (V.Z fr) w (.ca f t) [v] d
 | .rg fr wh e b xs,v=>aI (V.Z fr) w (.gs wh e) [v] (b,xs)
 | .any,v=>v.oneCell'=true
def bO(V:Vl)(hp:Nat->az)(w:World)(cs:List C)(vs:List Value):Prop:=cs.length=vs.length/\∀(j:Nat) c v,cs[j]? = some c->vs[j]? = some v->C.ok V hp w c v
def mo(V:Vl)(hp:Nat->az)(w:World)(x:Bool×List C)(v:Value):Prop :=
 if x.1 then ∃ vs,v = .agg vs/\bO V hp w x.2 vs.toList else bO V hp w x.2 [v]
def S.ok(V:Vl)(hp:Nat->az)(w:World):S->Value->Prop
 | .c x,v=>C.ok V hp w x v
 | .agg cs,v=>∃ vs,v = .agg vs/\bO V hp w cs vs.toList
 | .sP xs,v=>∃ vs,v = .tuple vs/\xs.length=vs.size/\∀(j:Nat) x v,xs[j]? = some x->vs[j]? = some v->mo V hp w x v
 | .fh,v=>v=undef
 | .any,_=>True
 | .arr e xs,v=>e.flat=true/\∃ vs,v = .agg vs/\vs.size=xs.length*e.size/\∀ i (h:i<xs.length),∃ es,es.length=e.size/\(∀(j:Nat) u,es[j]? = some u->vs[i*e.size+j]? = some u)/\aI (fun _=>False) w e es xs[i]
def az.ok(V:Vl)(hp:Nat->az)(w:World)(n:Nat):az->Prop
 | .dead=>True
 | .bx cs=>∃ ak el,w.heap[V.aF n]? = some (.cells ak el (0,0))/\bO V hp w cs ak.toList
 | .row fr e xs=>(¬V.has n/\xs=[])\/(V.has n/\∃ ak el,w.heap[V.aF n]? = some (.cells ak el (0,0))/\xs.length<=cY ∧
    ∀ i (h:i<xs.length),∃ es,es.length=e.size/\(∀ j u,es[j]? = some u->ak[i*e.size+j]? = some u)/\aI (V.Z fr) w e es xs[i])
def az.live:az->Bool
 | .dead=>false
 | _=>true
structure LM where
  fn : Nat → Prop
  nm : Nat → Nat → Prop
  /-- old memory that the call may still see -/
  yj : Nat → Prop
  sub : ∀ b, fn b → yj b
  /-- the block of a box that is lent, under name 0 -/
  lb : Nat → Prop
instance:CoeFun LM (fun _=>Nat->Prop):=⟨LM.fn⟩
def az.BJ:az->Bool
 | .bx _=>true
 | _=>false
def az.hD:az->Prop
 | .row false e _=>(e.flat||e.bQ)=true
 | _=>False
def az.gE:az->List Nat
 | .row false e xs=>if e.bQ then aX e xs else []
 | _=>[]
structure Kept (base : Nat) (M : LM) (w0 w : World) : Prop where
  os : w.os = w0.os
  tape : w.tape = w0.tape
  output : w.output = w0.output
  size : base ≤ w.heap.size
  block : ∀ b, b < base → ¬ M b → w.heap[b]? = w0.heap[b]?
  /-- a block of M keeps its size -/
  shape : ∀ b ak el, b < base → M b → w0.heap[b]? = some (.cells ak el (0, 0)) → ∃ ba dC, w.heap[b]? = some (.cells ba dC (0, 0)) ∧ ba.size = ak.size
structure Mem (base:Nat) (M:LM) (w0:World) (V:Vl) (hp:Nat->az) (w:World):Prop where
 cE:∀ n,(hp n).ok V hp w n
 box:∀ n cs,hp n = .bx cs->V.has n
 own:∀ n,(hp n).live=true->V.has n->(base<=V.aF n\/M (V.aF n))/\V.aF n<w.heap.size/\¬V.Z false (V.aF n)
 fY:∀ n e xs,hp n = .row true e xs->V.has n->base<=V.aF n
 gi:∀ n m,(hp n).live=true->(hp m).live=true->V.has n->V.has m->V.aF n=V.aF m->n=m
 z0:∀ b,V.Z0 b->b<base/\M.yj b
 z1:∀ b,V.Z1 b->base<=b/\b<w.heap.size
 kept:Kept base M w0 w
 jO:∀ n,(hp n).hD->V.has n->M.nm (V.aF n) n
 oh:∀ b,M.lb b->(hp 0).BJ=true/\V.aF 0=b
 gE:∀ n,V.has n->∀ i∈(hp n).gE,n=0->M i
structure Rel (base:Nat) (M:LM) (w0:World) (V:Vl) (st:St) (ts:Array Value) (w:World):Prop where
 len:st.ts.length=ts.size
 iZ:∀(i:Nat) s v,st.ts[i]? = some s->ts[i]? = some v->S.ok V st.an w s v
 mem:Mem base M w0 V st.an w
end Go.SX
/- The symbolic executor: what an operation, a region, a code comes to, as a proposition over numbers and lists. Definitions alone. No condition. -/
namespace Go.SX
open Go.RowKit
set_option linter.unusedVariables false
inductive TK where
  | int (k : IntKind)
  | bool
  | str
  | sl (e : TypeId) (aha ae8 : Nat) (dQ : Ty)
  | st (fs : List (Nat × Nat × Bool))
  /-- an array of 'len' elements of 'es' cells each: 'n' flat ones in all -/
  | arr (len : Nat) (te : TypeId) (es n : Nat) (dQ : Ty)
  | sc
structure TI where
  k : TK
  size : Nat
  bytes : Nat
  zero : List Value
  ty : Option Ty
  /-- a struct of ints and bools, that '==' compares: is the field a bool? -/
  eq : Option (List Bool)
abbrev cC:=TypeId->Option TI
@[reducible] def cj:List Ty->Type
 | []=>Unit
 | [t]=>t.den
 | t::u::r=>t.den×cj (u::r)
structure PC where
  ts : List Ty
  rs : List Ty
  pre : cj ts → Prop
  F : cj ts → cj rs
  /-- is the result's memory written no more? -/
  fz : Bool := false
def dq(k:IntKind)(a n:Int):Int:=k.wrap (a*2^min n.toNat k.bits)
def lP(k:IntKind)(a n:Int):Int:=a.fdiv (2^min n.toNat k.bits)
def zl(k:IntKind)(a b:Int):Int:=k.wrap (BitVec.ofInt k.bits a &&& BitVec.ofInt k.bits b).toNat
def ior(k:IntKind)(a b:Int):Int:=k.wrap (BitVec.ofInt k.bits a ||| BitVec.ofInt k.bits b).toNat
def ab2(k:IntKind)(a b:Int):Int:=k.wrap (BitVec.ofInt k.bits a ^^^ BitVec.ofInt k.bits b).toNat
def pZ(a b:Int):Int:=if b<a then b else a
def imax(a b:Int):Int:=if b>a then b else a
def cell(v:Value):C :=
 match v with
 | .bool true=>.iB
 | .bool false=>.iq
 | .int k n=>if k.min<=n/\n<=k.max then .val (.int k n) else .any
 | .string s=>if s.size<=maxLen then .val (.string s) else .any
 | .slice none 0 0=>.val (.slice none 0 0)
 | .pointer none=>.val (.pointer none)
 | _=>.any
def S.ofConst(v:Value):S :=
 match v with
 | .agg cs=>if fK Value.oneCell' cs.toList then .agg (lmap cell cs.toList) else .any
 | .tuple _=>.any
 | v=>.c (cell v)
def St.eval(st:St):Operand->S
 | .tmp t=>nth .any st.ts t
 | .const v=>.ofConst v
 | .global _=>.any
 | .func f=>.c (.fn f [])
structure QR where
 ob:Option Prop:=none
 hy:Option Prop:=none
 res:S
 new:List az:=[]
def S.cells:S->Option (List C)
 | .c x=>some [x]
 | .agg cs=>some cs
 | _=>none
def cA{a b:Ty}(h:a=b)(xs:List a.den):List b.den:=h▸xs
def expand(fr:Bool):(t:Ty)->t.den->List C
 | .int k,n=>[.val (.int k n)]
 | .bool,b=>[.val (.bool b)]
 | .str,s=>[.val (.string s)]
 | .sl e,xs=>[.rd fr e xs]
 | .st t,d=>expand fr t d
 | .pr a b,d=>dX (expand fr a d.1) (expand fr b d.2)
 | .ptr t,d=>[.at_ fr t d 0]
 | .ca f t,d=>[.ca fr f t d]
 | .gs wh e,d=>[.rg fr wh e d.1 d.2]
def iW{α:Type}(f:C->Option α):List C->Option (α×List C)
 | c::r=>match f c with|some x=>some (x,r)|none=>none
 | []=>none
def GH(k:IntKind):C->Option Int
 | .val (.int k' n)=>if k'=k then some n else none
 | _=>none
def rdBool:C->Option Bool
 | .val (.bool b)=>some b
 | .iB=>some true
 | .iq=>some false
 | _=>none
def rdStr:C->Option ByteArray
 | .val (.string s)=>some s
 | _=>none
def nE(e' e:Ty)(xs:List e'.den):Option (List e.den) :=
 if h:e'=e then some (cA h xs) else if h:e'.cO=e then some (cA h (bH e' xs)) else none
def rB(lk:Nat->az)(e:Ty):C->Option (List e.den)
 | .rd _ e' xs=>nE e' e xs
 | .fP _ e' xs=>if h:e'=e then some (cA h xs) else none
 | .own n =>
   match lk n with
   | .row _ e' xs=>nE e' e xs
   | _=>none
 | .pre n m =>
   match lk n with
   | .row _ e' xs=>nE e' e (xs.take m)
   | _=>none
 | .rg _ _ e' _ xs=>nE e' e xs
 | .val (.slice none 0 0)=>some []
 | _=>none
def VE(wh:Bool)(e:Ty):C->Option (Nat×List e.den)
 | .rg _ wO e' b xs=>if h:e'=e then (if wh&&!wO then none else some (b,cA h xs)) else none
 | .val (.slice none 0 0)=>some (0,[])
 | _=>none
def X0{a b:Ty}(h:a=b)(d:a.den):b.den:=h▸d
def whole{α:Type}:Option (α×List C)->Option α
 | some (d,[])=>some d
 | _=>none
def SN(lk:Nat->az)(t:Ty)(rc:List C->Option (t.den×List C)):C->Option t.den
 | .at_ _ t' d 0=>if h:t'=t then some (X0 h d) else none
 | .box n 0=>match lk n with | .bx cs=>whole (rc cs)|_=>none
 | _=>none
def SM(f:Nat)(t:Ty)(rc:List C->Option (t.den×List C)):C->Option t.den
 | .ca _ f' t' d=>if f'=f then (if h:t'=t then some (X0 h d) else none) else none
 | .fn f' ns=>if f'=f then whole (rc (lmap (fun n=>.box n 0) ns)) else none
 | _=>none
def iY(lk:Nat->az):(t:Ty)->List C->Option (t.den×List C)
 | .int k,cs=>iW (GH k) cs
 | .bool,cs=>iW rdBool cs
 | .str,cs=>iW rdStr cs
 | .sl e,cs=>iW (rB lk e) cs
 | .st t,cs=>iY lk t cs
 | .pr a b,cs =>
   match iY lk a cs with
   | some (x,r) =>
     match iY lk b r with
     | some (y,r')=>some ((x,y),r')
     | none=>none
   | none=>none
 | .ptr t,cs=>iW (SN lk t (iY lk t)) cs
 | .ca f t,cs=>iW (SM f t (iY lk t)) cs
 | .gs wh e,cs=>iW (VE wh e) cs
def readAll(lk:Nat->az)(t:Ty)(cs:List C):Option t.den :=
 match iY lk t cs with
 | some (d,[])=>some d
 | _=>none
def iQ:Ty->Bool
 | .st _=>true
 | _=>false
def wI(lk:Nat->az)(t:Ty):S->Option t.den
 | .c x=>if iQ t then none else readAll lk t [x]
 | .agg cs=>if iQ t then readAll lk t cs else none
 | _=>none
def mN(lk:Nat->az):(ts:List Ty)->List S->Option (cj ts)
 | [],[]=>some ()
 | [t],[s]=>wI lk t s
 | t::u::r,s::ss =>
   match wI lk t s with
   | some x =>
     match mN lk (u::r) ss with
     | some y=>some (x,y)
     | none=>none
   | none=>none
 | _,_=>none
def fresh:(t:Ty)->t.den->Nat->List C×List az
 | .int k,n,_=>([.val (.int k n)],[])
 | .bool,b,_=>([.val (.bool b)],[])
 | .str,s,_=>([.val (.string s)],[])
 | .sl e,xs,nx=>([.own nx],[.row true e xs])
 | .st t,d,nx=>fresh t d nx
 | .pr a b,d,nx =>
   let x:=fresh a d.1 nx
   let y:=fresh b d.2 (nx+bL x.2)
   (dX x.1 y.1,dX x.2 y.2)
 | .ptr _,_,_=>([.any],[])
 | .ca _ _,_,_=>([.any],[])
 | .gs _ _,_,_=>([.any],[])
def fJ(t:Ty)(d:t.den)(nx:Nat):(Bool×List C)×List az :=
 let x:=fresh t d nx
 ((iQ t,x.1),x.2)
def dh:(ts:List Ty)->cj ts->Nat->List (Bool×List C)×List az
 | [],_,_=>([],[])
 | [t],d,nx=>let x:=fJ t d nx;([x.1],x.2)
 | t::u::r,d,nx =>
   let x:=fJ t d.1 nx
   let y:=dh (u::r) d.2 (nx+bL x.2)
   (x.1::y.1,dX x.2 y.2)
def jl(x:Bool×List C):S :=
 if x.1 then .agg x.2 else match x.2 with|[c]=>.c c|_=>.any
def dt(ts:List Ty)(d:cj ts)(nx:Nat):S×List az :=
 match dh ts d nx with
 | ([x],es)=>(jl x,es)
 | (xs,es)=>(.sP xs,es)
def I9:(t:Ty)->t.den->List C
 | .int k,n=>[.val (.int k n)]
 | .bool,b=>[.val (.bool b)]
 | .str,s=>[.val (.string s)]
 | .sl e,xs=>[.rd true e xs]
 | .st t,d=>I9 t d
 | .pr a b,d=>dX (I9 a d.1) (I9 b d.2)
 | .ptr _,_=>[.any]
 | .ca _ _,_=>[.any]
 | .gs _ _,_=>[.any]
def WG:(ts:List Ty)->cj ts->S
 | [t],d=>jl (iQ t,I9 t d)
 | _,_=>.any
def CD(fz:Bool)(ts:List Ty)(d:cj ts)(nx:Nat):S×List az :=
 match fz with
 | true=>(WG ts d,[])
 | false=>dt ts d nx
def z5:(ts:List Ty)->cj ts->Prop
 | [],_=>True
 | [t],d=>t.wf d
 | t::u::r,d=>t.wf d.1/\z5 (u::r) d.2
def hyB:List Ty->Bool
 | []=>false
 | [.bool]=>false
 | _=>true
def Et(ts:List Ty)(d:cj ts):Option Prop:=if hyB ts then some (z5 ts d) else none
def K5(Γ:FuncId->Option PC)(lk:Nat->az)(nx:Nat)(f:FuncId)(args:List S):Option QR :=
 match Γ f with
 | some c =>
   match mN lk c.ts args with
   | some d=>let r:=CD c.fz c.rs (c.F d) nx;some { ob:=some (c.pre d),hy:=Et c.rs (c.F d),res:=r.1,new:=r.2 }
   | none=>none
 | none=>none
def W6(op:BinOp)(k:IntKind)(a b:Int):Option (Option Prop×C) :=
 match op with
 | .add=>some (none,.val (.int k (k.wrap (a+b))))
 | .sub=>some (none,.val (.int k (k.wrap (a-b))))
 | .mul=>some (none,.val (.int k (k.wrap (a*b))))
 | .quo=>some (some (b≠0),.val (.int k (k.wrap (a.tdiv b))))
 | .rem=>some (some (b≠0),.val (.int k (a.tmod b)))
 | .and=>some (none,.val (.int k (zl k a b)))
 | .or=>some (none,.val (.int k (ior k a b)))
 | .xor=>some (none,.val (.int k (ab2 k a b)))
 | .eql=>some (none,.val (.bool (decide (a=b))))
 | .neq=>some (none,.val (.bool (!decide (a=b))))
 | .lss=>some (none,.val (.bool (decide (a<b))))
 | .leq=>some (none,.val (.bool (decide (a<=b))))
 | .gtr=>some (none,.val (.bool (decide (b<a))))
 | .geq=>some (none,.val (.bool (decide (b<=a))))
 | _=>none
def sj:C->Option Bool
 | .val (.bool b)=>some b
 | .iB=>some true
 | .iq=>some false
 | _=>none
def Xr(op:BinOp)(x y:C):Option QR :=
 match op,x,y with
 | .shl,.val (.int k a),.val (.int _ n)=>some { ob:=some (0<=n),res:=.c (.val (.int k (dq k a n))) }
 | .shr,.val (.int k a),.val (.int _ n)=>some { ob:=some (0<=n),res:=.c (.val (.int k (lP k a n))) }
 | op,.val (.int k a),.val (.int k' b) =>
   if k'=k then
    match W6 op k a b with
    | some (p,c)=>some { ob:=p,res:=.c c }
    | none=>none
   else none
 | _,_,_=>none
def SI(T:cC)(t:TypeId)(op:BinOp)(x y:C):Option QR :=
 match Xr op x y with
 | some r=>some r
 | none =>
   match T t,sj x,sj y,op with
   | some { k:=.bool,.. },some a,some b,.eql=>some { res:=.c (.val (.bool (a == b))) }
   | some { k:=.bool,.. },some a,some b,.neq=>some { res:=.c (.val (.bool (!(a == b)))) }
   | _,_,_,_ =>
     match T t,rdStr x,rdStr y,op with
     | some { k:=.str,.. },some a,some b,.eql=>some { res:=.c (.val (.bool (decide (a=b)))) }
     | some { k:=.str,.. },some a,some b,.neq=>some { res:=.c (.val (.bool (!decide (a=b)))) }
     | _,_,_,_=>none
def yQ:List Bool->List C->List C->Option Bool
 | [],[],[]=>some true
 | false::ks,.val (.int k a)::xs,.val (.int k' b)::ys=>if k'=k then omap (fun r=>decide (a=b)&&r) (yQ ks xs ys) else none
 | true::ks,x::xs,y::ys =>
   match sj x,sj y with
   | some a,some b=>omap (fun r=>(a == b)&&r) (yQ ks xs ys)
   | _,_=>none
 | _,_,_=>none
def SH(T:cC)(t:TypeId)(op:BinOp)(xs ys:List C):Option QR :=
 match Gg (T t) (fun i=>i.eq) with
 | some ks =>
   match yQ ks xs ys,op with
   | some b,.eql=>some { res:=.c (.val (.bool b)) }
   | some b,.neq=>some { res:=.c (.val (.bool (!b))) }
   | _,_=>none
 | none=>none
def qun(op:UnOp)(x:C):Option QR :=
 match op,x with
 | .not,.val (.bool b)=>some { res:=.c (.val (.bool !b)) }
 | .not,.iB=>some { res:=.c .iq }
 | .not,.iq=>some { res:=.c .iB }
 | .neg,.val (.int k n)=>some { res:=.c (.val (.int k (k.wrap (0-n)))) }
 | _,_=>none
def K6(c a b:S):Option S :=
 match c,a,b with
 | .c .iB,a,_=>some a
 | .c .iq,_,b=>some b
 | .c (.val (.bool p)),.c (.val (.int k x)),.c (.val (.int k' y))=>if k'=k then some (.c (.val (.int k (if p then x else y)))) else none
 | .c (.val (.bool p)),.c x,.c y =>
   match sj x,sj y with
   | some a,some b=>some (.c (.val (.bool (if p then a else b))))
   | _,_=>none
 | _,_,_=>none
def Xe(lk:Nat->az):C->Option Int
 | .rd _ _ xs=>some (xs.length:Int)
 | .fP _ _ xs=>some (xs.length:Int)
 | .own n=>match lk n with | .row _ _ xs=>some (xs.length:Int)|_=>none
 | .pre _ h=>some (h:Int)
 | .rg _ _ _ _ xs=>some (xs.length:Int)
 | .val (.slice none 0 0)=>some 0
 | _=>none
def Sa(T:cC)(lk:Nat->az)(t:TypeId)(x:C):Option Int :=
 match T t,x with
 | some { k:=.str,.. },.val (.string s)=>some (s.size:Int)
 | some { k:=.sl _ _ _ _,.. },x=>Xe lk x
 | _,_=>none
def K3(T:cC)(t:TypeId)(cs:List C):Option S :=
 match T t with
 | some { k:=.st _,size:=n,.. }=>if bL cs=n then some (.agg cs) else none
 | some { k:=.arr _ _ _ _ _,.. }=>none
 | some _=>match cs with|[x]=>some (.c x)|_=>none
 | none=>none
def zR(T:cC)(t:TypeId):Option Nat:=omap (·.size) (T t)
def partOf(cs:List C)(off n:Nat):Option (List C) :=
 let r:=wm n (tT off cs)
 if bL r=n then some r else none
def yK(lk:Nat->az)(n:Nat):C->Option (List C)
 | .at_ fr ty d off=>partOf (expand fr ty d) off n
 | .box m off=>match lk m with | .bx cs=>partOf cs off n|_=>none
 | .eR m i off=>match lk m with | .row fr e xs=>partOf (expand fr e (xs.getD i e.gh)) off n|_=>none
 | _=>none
def GG(T:cC)(lk:Nat->az)(t:TypeId)(p:C):Option QR :=
 match zR T t with
 | none=>none
 | some n =>
   match yK lk n p with
   | some cs=>omap (fun s=>{ res:=s }) (K3 T t cs)
   | none=>none
def uo(T:cC)(t:TypeId)(f:Nat):Option (Nat×Nat×Bool) :=
 match T t with
 | some { k:=.st fs,.. }=>mK fs f
 | _=>none
def qm(T:cC)(t:TypeId)(p:C)(f:Nat):Option QR :=
 match uo T t f with
 | some (o,_,_) =>
   match p with
   | .at_ fr ty d off=>some { res:=.c (.at_ fr ty d (off+o)) }
   | .box m off=>some { res:=.c (.box m (off+o)) }
   | .eR m i off=>some { res:=.c (.eR m i (off+o)) }
   | _=>none
 | none=>none
def ll(T:cC)(t:TypeId):Option Ty :=
 match T t with
 | some { k:=.sl _ _ _ e,.. }=>some e
 | _=>none
def HZ(T:cC)(lk:Nat->az)(t:TypeId)(x:C)(i:C):Option QR :=
 match ll T t,x,i with
 | some e',.rd fr e xs,.val (.int _ n)=>if e.cO=e' then some { ob:=some (0<=n/\n<(xs.length:Int)),res:=.c (.at_ fr e (xs.getD n.toNat e.gh) 0) } else none
 | some e',.rg fr _ e _ xs,.val (.int _ n)=>if e.cO=e' then some { ob:=some (0<=n/\n<(xs.length:Int)),res:=.c (.at_ fr e (xs.getD n.toNat e.gh) 0) } else none
 | some e',.own m,.val (.int _ n) =>
   match lk m with
   | .row _ e xs=>if e.cO=e' then some { ob:=some (0<=n/\n<(xs.length:Int)),res:=.c (.eR m n.toNat 0) } else none
   | _=>none
 | some e',.pre m h,.val (.int _ n) =>
   match lk m with
   | .row _ e _=>if e.cO=e' then some { ob:=some (0<=n/\n<(h:Int)),res:=.c (.eR m n.toNat 0) } else none
   | _=>none
 | _,_,_=>none
def HX(T:cC)(lk:Nat->az)(t:TypeId)(m i0:Nat)(k:Int):Option QR :=
 match T t with
 | some { k:=.arr len te es n dQ,.. } =>
   match lk m with
   | .row _ e xs=>if e=dQ then some { ob:=some (0<=k/\k<(len:Int)/\i0+(k.toNat+1)*(es/dQ.size)<=xs.length),res:=.c (.eR m (i0+k.toNat*(es/dQ.size)) 0) } else none
   | _=>none
 | _=>none
def zL(T:cC)(lk:Nat->az)(t:TypeId)(x:C)(i:C):Option QR :=
 match x,i with
 | .eR m i0 0,.val (.int _ k)=>HX T lk t m i0 k
 | x,i=>HZ T lk t x i
def pv(X5:Int):Option S->Option Int
 | none=>some X5
 | some (.c (.val (.int _ n)))=>some n
 | _=>none
def NM(T:cC)(lk:Nat->az)(t:TypeId)(x:C)(lo hi:Option S):Option QR :=
 match ll T t,x with
 | some e',.rd fr e xs =>
   match pv 0 lo,pv xs.length hi with
   | some l,some h=>if e.cO=e' then some { ob:=some (0<=l/\l<=h/\h<=(xs.length:Int)),res:=.c (.rd fr e ((xs.take h.toNat).drop l.toNat)) } else none
   | _,_=>none
 | some e',.rg fr _ e _ xs =>
   match pv 0 lo,pv xs.length hi with
   | some l,some h=>if e.cO=e' then some { ob:=some (0<=l/\l<=h/\h<=(xs.length:Int)),res:=.c (.rd fr e ((xs.take h.toNat).drop l.toNat)) } else none
   | _,_=>none
 | some e',.own m =>
   match lk m with
   | .row _ e xs =>
     match lo,pv xs.length hi with
     | none,some h=>if e.cO=e' then some { ob:=some (0<=h/\h<=(xs.length:Int)),res:=.c (.pre m h.toNat) } else none
     | some l,some h =>
       match pv 0 (some l) with
       | some l=>if e.cO=e' then some { ob:=some (0<=l/\l<=h/\h<=(xs.length:Int)),res:=.c (.fP m e ((xs.take h.toNat).drop l.toNat)) } else none
       | none=>none
     | _,_=>none
   | _=>none
 | some e',.pre m k =>
   match lk m with
   | .row _ e xs =>
     match lo,pv k hi with
     | none,some h=>if e.cO=e' then some { ob:=some (0<=h/\h<=(k:Int)),res:=.c (.pre m h.toNat) } else none
     | _,_=>none
   | _=>none
 | _,_=>none
def y8(fs:List (Nat×Nat×Bool))(cs:List C):List (Nat×S)->Option (List C)
 | []=>some cs
 | (i,s)::r =>
   match mK fs i,s.cells with
   | some (o,n,_),some xs=>if bL xs=n/\o+n<=bL cs then y8 fs (dX (wm o cs) (dX xs (tT (o+n) cs))) r else none
   | _,_=>none
def lf(lk:Nat->az)(e:Ty):Nat->List (Nat×S)->Option (List e.den)
 | _,[]=>some []
 | k,p::r =>
   if p.1=k then
    match wI lk e p.2,lf lk e (k+1) r with
    | some x,some xs=>some (x::xs)
    | _,_=>none
   else none
def C.jC:C->Bool
 | .own _=>false
 | .pre _ _=>false
 | .fP _ _ _=>false
 | .box _ _=>false
 | .eR _ _ _=>false
 | .fn _ ns=>(match ns with|[]=>true|_=>false)
 | _=>true
def S.jC:S->Bool
 | .c x=>x.jC
 | .agg cs=>fK C.jC cs
 | _=>true
def C.gj:C->Bool
 | .rd fr _ _=>fr
 | .fP _ _ _=>false
 | .at_ fr _ _ _=>fr
 | .ca fr _ _ _=>fr
 | .rg fr _ _ _ _=>fr
 | _=>true
def S.gj:S->Bool
 | .c x=>x.gj
 | .agg cs=>fK C.gj cs
 | _=>true
def HU(len es n:Nat)(dQ:Ty)(parts:List (Nat×S)):Option QR :=
 match parts with
 | []=>some { res:=.arr dQ (List.replicate n dQ.gh) }
 | parts=>if fK (fun p=>p.2.jC) parts&&decide (bL parts=len)&&decide (es=dQ.size) then omap (fun xs=>{ res:=.arr dQ xs }) (lf (fun _=>.dead) dQ 0 parts) else none
def NK(T:cC)(t:TypeId)(parts:List (Nat×S)):Option QR :=
 match T t with
 | some { k:=.st fs,zero:=z,.. }=>omap (fun cs=>{ res:=.agg cs }) (y8 fs (lmap cell z) parts)
 | some { k:=.arr len te es n dQ,.. }=>HU len es n dQ parts
 | _=>none
def Vx(T:cC)(nx:Nat)(t:TypeId):Option QR :=
 match T t with
 | some ti =>
   match ti.k with
   | .arr len te es n dQ=>some { res:=.c (.eR nx 0 0),new:=[.row true dQ (List.replicate n dQ.gh)] }
   | _=>some { res:=.c (.box nx 0),new:=[.bx (lmap cell ti.zero)] }
 | none=>none
def Ty.CP:Ty->Ty
 | .sl e=>if e.flat then .gs true e else .sl e
 | .st t=>.st t.CP
 | .pr a b=>.pr a.CP b.CP
 | t=>t
def C.YD:C->Bool
 | .rg _ wh _ _ _=>wh
 | _=>false
def S.YD:S->Bool
 | .c x=>x.YD
 | .agg cs=>lQ C.YD cs
 | _=>false
def F_(e:Ty)(parts:List (Nat×S)):Ty:=if iQ e&&lQ (fun p=>p.2.YD) parts&&decide (e.CP.cO=e) then e.CP else e
def tt(lk:Nat->az)(nx:Nat)(e:Ty)(n:Nat)(parts:List (Nat×S)):Option QR :=
 if fK (fun p=>p.2.jC) parts&&decide (bL parts=n)&&decide (n*e.size<=1000)&&(!e.bQ||fK (fun p=>p.2.gj) parts) then
  omap (fun xs=>{ res:=.c (.own nx),new:=[.row (e.flat||fK (fun p=>p.2.gj) parts) e xs] }) (lf lk e 0 parts)
 else none
def lL(T:cC)(lk:Nat->az)(nx:Nat)(t:TypeId)(n:Nat)(parts:List (Nat×S)):Option QR :=
 match ll T t with
 | some e=>tt lk nx (F_ e parts) n parts
 | none=>none
def tY(T:cC)(nx:Nat)(t:TypeId)(l c:C):Option QR :=
 match T t,l,c with
 | some { k:=.sl _ _ b e,.. },.val (.int .i64 n),.val (.int .i64 m) =>
   if 1<=b&&e.plain then some { ob:=some (0<=n/\n<=m/\m*(b:Int)<=140737488355328),res:=.c (.own nx),new:=[.row true e (List.replicate n.toNat e.gh)] } else none
 | _,_,_=>none
def NL(T:cC)(lk:Nat->az)(b:Builtin)(XX:List TypeId)(args:List S):Option QR :=
 match b,XX,args with
 | .len,[t],[.c x]=>omap (fun n=>{ res:=.c (.val (.int .i64 n)) }) (Sa T lk t x)
 | .min,_,[.c (.val (.int k x)),.c (.val (.int k' y))]=>if k'=k then some { res:=.c (.val (.int k (pZ x y))) } else none
 | .max,_,[.c (.val (.int k x)),.c (.val (.int k' y))]=>if k'=k then some { res:=.c (.val (.int k (imax x y))) } else none
 | _,_,_=>none
def uH:List S->Option (List Nat)
 | []=>some []
 | .c (.box n 0)::r=>omap (n::·) (uH r)
 | _=>none
def S.ac8:S->Bool
 | .c (.box _ _) | .c (.at_ _ _ _ _) | .c (.eR _ _ _) | .c (.fn _ _)=>true
 | _=>false
def jf(T:cC)(Γ:FuncId->Option PC)(lk:Nat->az)(nx:Nat)(ev:Operand->S)(o:Op):Option QR :=
 match o with
 | .move x | .assign x=>some { res:=ev x }
 | .pick c a b=>omap (fun s=>{ res:=s }) (K6 (ev c) (ev a) (ev b))
 | .alloc t=>Vx T nx t
 | .box _ x=>match (ev x).cells with|some cs=>some { res:=.c (.box nx 0),new:=[.bx cs] }|none=>none
 | .build t parts=>NK T t (lmap (fun p=>(p.1,ev p.2)) parts.toList)
 | .buildSlice t n parts=>lL T lk nx t n (lmap (fun p=>(p.1,ev p.2)) parts.toList)
 | .load t a=>match ev a with | .c p=>GG T lk t p|_=>none
 | .nilCheck x=>if (ev x).ac8 then some { res:=ev x } else none
 | .binOp op t x y _=>match ev x,ev y with | .c a,.c b=>SI T t op a b | .agg a,.agg b=>SH T t op a b|_,_=>none
 | .unOp op _ x=>match ev x with | .c a=>qun op a|_=>none
 | .convert s t x =>
   match T s,T t,ev x with
   | some _,some { k:=.int k,.. },.c (.val (.int _ n))=>some { res:=.c (.val (.int k (k.wrap n))) }
   | some { k:=.sl e _ _ _,.. },some { k:=.str,.. },.c x =>
     match T e with
     | some { k:=.int .u8,.. }=>omap (fun xs=>{ res:=.c (.val (.string (strOfNums xs))) }) (rB lk (.int .u8) x)
     | _=>none
   | _,_,_=>none
 | .makeSlice t l c=>match ev l,ev c with | .c l,.c c=>tY T nx t l c|_,_=>none
 | .slice t x lo hi none=>match ev x with | .c x=>NM T lk t x (omap ev lo) (omap ev hi)|_=>none
 | .fieldAddr t x f=>match ev x with | .c p=>qm T t p f|_=>none
 | .field t x f =>
   match uo T t f,ev x with
   | some (off,n,ag),.agg cs=>omap (fun r=>{ res:=jl (ag,r) }) (partOf cs off n)
   | _,_=>none
 | .indexAddr t x i=>match ev x,ev i with | .c x,.c i=>zL T lk t x i|_,_=>none
 | .extract x i=>match ev x with | .sP vs=>omap (fun v=>{ res:=jl v }) (mK vs i)|_=>none
 | .makeFunc (.func f) first captured=>match first.toList with|[]=>omap (fun ns=>{ res:=.c (.fn f ns) }) (uH (lmap ev captured.toList))|_=>none
 | .call c =>
   match c.callee with
   | .builtin b=>NL T lk b c.argTypes.toList (lmap ev c.args.toList)
   | .value f =>
     match ev f with
     | .c (.fn g [])=>K5 Γ lk nx g (lmap ev c.args.toList)
     | .c (.ca fr g t d)=>K5 Γ lk nx g (dX (lmap ev c.args.toList) (lmap S.c (expand fr t d)))
     | _=>none
   | _=>none
 | _=>none
def S.map(f:C->C):S->S
 | .c x=>.c (f x)
 | .agg cs=>.agg (lmap f cs)
 | .sP vs=>.sP (lmap (fun v=>(v.1,lmap f v.2)) vs)
 | .fh=>.fh
 | .any=>.any
 | .arr e xs=>.arr e xs
def az.map(f:C->C):az->az
 | .bx cs=>.bx (lmap f cs)
 | .row fr e xs=>.row fr e xs
 | .dead=>.dead
def St.map(st:St)(f:C->C):St :=
 { ts:=lmap (S.map f) st.ts,hp:=lmap (az.map f) st.hp }
def bI(m:Nat):C->C
 | .own n=>if n=m then .any else .own n
 | .pre n h=>if n=m then .any else .pre n h
 | .fP n e xs=>if n=m then .any else .fP n e xs
 | .eR n i o=>if n=m then .any else .eR n i o
 | c=>c
def cN(m:Nat):C->C
 | .fP n e xs=>if n=m then .any else .fP n e xs
 | c=>c
def dW(m:Nat)(fr:Bool)(e:Ty)(xs:List e.den):C->C
 | .own n=>if n=m then .rd fr e xs else .own n
 | .pre n h=>if n=m then .rd fr e (xs.take h) else .pre n h
 | .fP n e' ys=>if n=m then .rd false e' ys else .fP n e' ys
 | .eR n i o=>if n=m then .at_ fr e (xs.getD i e.gh) o else .eR n i o
 | c=>c
def St.freeze(st:St)(m:Nat):St :=
 match st.an m with
 | .row fr e xs=>{ (st.map (dW m fr e xs)) with hp:=bP ((st.map (dW m fr e xs)).hp) m .dead }
 | _=>st
def nW:List C->List Nat
 | []=>[]
 | .own n::r=>n::nW r
 | .pre n _::r=>n::nW r
 | .fP n _ _::r=>n::nW r
 | _::r=>nW r
def St.kh(st:St):List Nat->St
 | []=>st
 | n::r=>(st.freeze n).kh r
def St.put(st:St)(dst:Option Nat)(s:S):St :=
 match dst with
 | some d=>{ st with ts:=bP st.ts d s }
 | none=>st
def St.alloc(st:St)(es:List az):St:={ st with hp:=dX st.hp es }
structure ER where
 ob:Option Prop:=none
 st:St
 res:S
def sN(cs:List C)(off:Nat)(xs:List C):List C:=dX (wm off cs) (dX xs (tT (off+bL xs) cs))
def C.Ge:C->Bool
 | .rg _ _ _ _ _=>false
 | .rd _ e _=>!e.bQ
 | .own _=>false
 | .pre _ _=>false
 | .fP _ _ _=>false
 | _=>true
def acA(m:Nat)(fr:Bool)(e:Ty)(xs:List C):Bool:=!e.bQ||(if fr then fK C.gj xs else (!(Nat.beq m 0)||fK C.Ge xs))
def FF(T:cC)(st:St)(t:TypeId)(p x:Operand):Option ER :=
 match zR T t,st.eval p,(st.eval x).cells with
 | some n,.c (.box m off),some xs =>
   match st.an m with
   | .bx cs=>if bL xs=n/\off+n<=bL cs then some { st:={ st with hp:=bP st.hp m (.bx (sN cs off xs)) },res:=.fh } else none
   | _=>none
 | some n,.c (.eR _ _ _),some xs =>
   let dy:=st.kh (nW xs)
   match dy.eval p,(dy.eval x).cells with
   | .c (.eR m i off),some xs =>
     match dy.an m with
     | .row fr e ys =>
       if bL xs=n/\off+n<=e.size/\fK C.jC xs=true/\acA m fr e xs=true then
        match readAll dy.an e (sN (expand fr e (ys.getD i e.gh)) off xs) with
        | some y=>some { st:={ (dy.map (cN m)) with hp:=bP (dy.map (cN m)).hp m (.row (fr&&(e.flat||fK C.gj xs)) e (ys.set i y)) },res:=.fh }
        | none=>none
       else none
     | _=>none
   | _,_=>none
 | _,_,_=>none
def qn(lk:Nat->az)(e:Ty):C->Option Bool
 | .rd fr _ _=>some (e.flat||fr)
 | .own n=>match lk n with | .row fr _ _=>some (e.flat||fr)|_=>none
 | .pre n _=>match lk n with | .row fr _ _=>some (e.flat||fr)|_=>none
 | .fP _ _ _=>if e.flat then some true else none
 | .rg fr _ _ _ _=>some (e.flat||fr)
 | .val (.slice none 0 0)=>some true
 | _=>none
def K7(lk:Nat->az)(e:Ty):C->Ty
 | .own n=>match lk n with | .row _ e' _=>if e'.cO=e then e' else e|_=>e
 | .pre n _=>match lk n with | .row _ e' _=>if e'.cO=e then e' else e|_=>e
 | .rd _ e' _=>if e'.cO=e then e' else e
 | _=>e
def KR(lk:Nat->az)(e:Ty)(s x:C):Ty :=
 match s with
 | .val _=>K7 lk e x
 | s=>K7 lk e s
def IY(st:St)(b:Nat)(e:Ty)(s x:C):Option ER :=
 if b=0 then none else
 match rB st.an e x,qn st.an e x with
 | some ys,some f =>
   match s with
   | .own m =>
     match st.an m with
     | .row fr e' xs =>
       if h:e'=e then
        if (e.flat&&!fr)||(e.bQ&&!(fr&&f)) then none else
        if lQ (fun k=>k == m) (nW [x]) then none else
        some { ob:=some ((xs.length+ys.length)*b<=140737488355328),
               st:={ (st.map (bI m)) with hp:=bP (st.map (bI m)).hp m (.row (fr&&f) e (cA h xs++ys)) },res:=.c (.own m) }
       else none
     | _=>none
   | .pre m n =>
     match st.an m with
     | .row fr e' xs =>
       if h:e'=e then
        if (e.flat&&!fr)||(e.bQ&&!(fr&&f)) then none else
        if lQ (fun k=>k == m) (nW [x]) then none else
        some { ob:=some ((n+ys.length)*b<=140737488355328),
               st:={ (st.map (bI m)) with hp:=bP (st.map (bI m)).hp m (.row (fr&&f) e ((cA h xs).take n++ys)) },res:=.c (.own m) }
       else none
     | _=>none
   | .val (.slice none 0 0) =>
     if e.bQ&&!f then none else
     some { ob:=some (ys.length*b<=140737488355328),st:=st.alloc [.row f e ys],res:=.c (.own (bL st.hp)) }
   | _=>none
 | _,_=>none
def Qq(T:cC)(st:St)(t:TypeId)(s x:Operand):Option ER :=
 match T t,st.eval s,st.eval x with
 | some { k:=.sl _ _ b e0,.. },.c s,.c x=>IY st b (KR st.an e0 s x) s x
 | _,_,_=>none
def BV(st:St):List (Nat×Operand)->List Nat
 | []=>[]
 | p::r=>dX (match (st.eval p.2).cells with|some cs=>nW cs|none=>[]) (BV st r)
def Dz(T:cC)(st:St)(t:TypeId)(n:Nat)(parts:List (Nat×Operand)):Option ER :=
 let ns:=BV st parts
 let dy:=st.kh ns
 match lL T dy.an (bL dy.hp) t n (lmap (fun p=>(p.1,dy.eval p.2)) parts) with
 | some r=>some { ob:=r.ob,st:=dy.alloc r.new,res:=r.res }
 | none=>none
def LD(T:cC)(st:St)(args:List Operand)(XX:List TypeId):Option ER :=
 match args,XX with
 | [s,x],[t,t']=>if t=t' then Qq T st t s x else none
 | _,_=>none
def ME:Callee->Bool
 | .builtin .append=>true
 | _=>false
def Ho(T:cC)(st:St)(t:TypeId)(p x:Operand):Option ER :=
 match T t,st.eval p,st.eval x with
 | some { k:=.arr _ _ _ _ _,size:=sz,.. },.c (.eR m 0 0),.arr e xs =>
   match st.an m with
   | .row fr e' ys =>
     if e'=e then some { ob:=some (xs.length=ys.length/\xs.length*e.size=sz),st:={ (st.map (cN m)) with hp:=bP (st.map (cN m)).hp m (.row fr e xs) },res:=.fh } else none
   | _=>none
 | _,_,_=>none
def X8(T:cC)(st:St)(o:Op):Option ER :=
 match o with
 | .store t a x=>match FF T st t a x with|some r=>some r|none=>Ho T st t a x
 | .buildSlice t n parts=>Dz T st t n parts.toList
 | .call c=>if ME c.callee then LD T st c.args.toList c.argTypes.toList else none
 | _=>none
def fj(p q:Option Prop):Option Prop :=
 match p,q with
 | none,q=>q
 | p,none=>p
 | some p,some q=>some (p/\q)
def cU:Option Prop->Prop
 | none=>True
 | some p=>p
def C.M4(b:Nat):C->Option Prop
 | .rg _ wh e b' xs=>some (b ∉ ids (.gs wh e) (b',xs))
 | .rd _ e xs=>if e.bQ then some (b ∉ aX e xs) else none
 | .at_ _ t d _=>if t.bQ then some (b ∉ ids t d) else none
 | _=>none
def Ry(b:Nat):List C->Option Prop
 | []=>none
 | c::r=>fj (c.M4 b) (Ry b r)
def az.M4(b:Nat):az->Option Prop
 | .row _ e xs=>if e.bQ then some (b ∉ aX e xs) else none
 | .bx cs=>Ry b cs
 | .dead=>none
def KX(b:Nat):List az->Option Prop
 | []=>none
 | e::r=>fj (e.M4 b) (KX b r)
def K2(b:Nat):List Nat->Option Prop
 | []=>none
 | a::r=>fj (some (b≠a)) (K2 b r)
def qp(m b:Nat)(fr:Bool)(e:Ty)(xs:List e.den):C->C
 | .own n=>if n=m then .rg fr true e b xs else .own n
 | .pre n h=>if n=m then .rd fr e (xs.take h) else .pre n h
 | .fP n e' ys=>if n=m then .rd false e' ys else .fP n e' ys
 | .eR n i o=>if n=m then .at_ fr e (xs.getD i e.gh) o else .eR n i o
 | c=>c
def St.sealB(st:St)(m b:Nat):St :=
 match st.an m with
 | .row fr e xs=>{ (st.map (qp m b fr e xs)) with hp:=bP ((st.map (qp m b fr e xs)).hp) m .dead }
 | _=>st
def H5(acc:List Nat):List Nat->St->(St->Prop)->Prop
 | [],st,K=>K st
 | m::ms,st,K=>∀ b:Nat,cU (fj (KX b st.hp) (K2 b acc))->H5 (b::acc) ms (st.sealB m b) K
def uw(st:St):List C->List Nat
 | []=>[]
 | .own n::r=>match st.an n with | .row true e _=>if e.flat then n::uw st r else uw st r|_=>uw st r
 | _::r=>uw st r
def Na(st:St):List (Nat×Operand)->List Nat
 | []=>[]
 | p::r=>dX (match (st.eval p.2).cells with|some cs=>uw st cs|none=>[]) (Na st r)
def acv(T:cC)(tl:Bool)(st:St):Op->List Nat
 | .store _ p x =>
   match st.eval p,(st.eval x).cells with
   | .c (.eR m _ _),some cs=>(match st.an m with | .row _ e _=>if e.bQ then uw st cs else []|_=>[])
   | _,_=>[]
 | .buildSlice t _ parts =>
   match ll T t with
   | some e=>if tl&&iQ e then Na st parts.toList else []
   | none=>[]
 | _=>[]
abbrev cL:=List S->St->(S->St->Prop)->Prop
def Cr:Nat:=1000000
def adm(R:FuncId->Option cL):Bool:=(R Cr).isSome
def xM(st:St):Op->Option (FuncId×List S)
 | .call c =>
   match c.callee with
   | .value f=>match st.eval f with | .c (.fn g [])=>some (g,lmap st.eval c.args.toList)|_=>none
   | _=>none
 | _=>none
def Hf(p:Option Prop)(q:Prop):Prop:=match p with|none=>q|some p=>p/\q
def R5(p:Option Prop)(q:Prop):Prop:=match p with|none=>q|some p=>p->q
def z_(T:cC)(Γ:FuncId->Option PC)(R:FuncId->Option cL)(ev:Operand->S)(lk:Nat->az)(o:Oper)(st:St)(K:St->Prop):Prop :=
 match jf T Γ lk (bL st.hp) ev o.op with
 | some r=>Hf r.ob (R5 r.hy (K ((st.alloc r.new).put o.dst r.res)))
 | none =>
   match acv T (adm R) st o.op with
   | n::ns=>H5 [] (n::ns) st fun aV=>match X8 T aV o.op with|some r=>Hf r.ob (K (r.st.put o.dst r.res))|none=>False
   | [] =>
   match X8 T st o.op with
   | some r=>Hf r.ob (K (r.st.put o.dst r.res))
   | none =>
     match xM st o.op with
     | some (f,args) =>
       match R f with
       | some r=>if Nat.beq f Cr then False else r args st fun s aV=>K (aV.put o.dst s)
       | none=>False
     | none=>False
def aaI(Γ:FuncId->Option PC)(R:FuncId->Option cL)(st:St)(o:Op):Bool :=
 match xM st o with
 | some (f,_)=>(Γ f).isSome&&(R f).isSome
 | none=>false
def C9(T:cC)(Γ:FuncId->Option PC)(R:FuncId->Option cL)(ev:Operand->S)(lk:Nat->az)(o:Oper)(st:St)(K:St->Prop):Prop :=
 if aaI Γ R st o.op then
  match xM st o.op with
  | some (f,args) =>
    match R f with
    | some r=>if Nat.beq f Cr then False else r args st fun s aV=>K (aV.put o.dst s)
    | none=>False
  | none=>False
 else z_ T Γ R ev lk o st K
inductive Dec where
 | go
 | skip
 | ask (d:Nat) (b:Bool) (want:Bool)
 | bad
def lA(all:Array Oper)(o:Oper)(st:St):Dec :=
 match o.guard with
 | none=>.go
 | some (j,want) =>
   match Gg (mK all.toList j) (·.dst) with
   | some d =>
     match nth .any st.ts d with
     | .c .iB=>if want then .go else .skip
     | .c .iq=>if want then .skip else .go
     | .c (.val (.bool b))=>.ask d b want
     | .fh=>.skip
     | _=>.bad
   | none=>.bad
def ow(T:cC)(Γ:FuncId->Option PC)(R:FuncId->Option cL)(all:Array Oper):List Oper->St->(St->Prop)->Prop
 | [],st,K=>K st
 | o::rest,st,K =>
   match lA all o st with
   | .go=>C9 T Γ R st.eval st.an o st (fun aV=>ow T Γ R all rest aV K)
   | .skip=>ow T Γ R all rest (st.put o.dst .fh) K
   | .ask d b want =>
     (b=true->if want then C9 T Γ R (st.put (some d) (.c .iB)).eval st.an o (st.put (some d) (.c .iB)) (fun aV=>ow T Γ R all rest aV K)
       else ow T Γ R all rest ((st.put (some d) (.c .iB)).put o.dst .fh) K) ∧
     (b=false->if want then ow T Γ R all rest ((st.put (some d) (.c .iq)).put o.dst .fh) K
       else C9 T Γ R (st.put (some d) (.c .iq)).eval st.an o (st.put (some d) (.c .iq)) (fun aV=>ow T Γ R all rest aV K))
   | .bad=>False
def acb(Γ:FuncId->Option PC)(o:Oper):Bool :=
 match o.op with
 | .assign _ | .store ..=>false
 | .call { callee:=.builtin b,.. }=>(match b with | .len | .min | .max=>true|_=>false)
 | .call { callee:=.value (.func f),.. }=>(Γ f).isSome
 | .call _=>false
 | _=>true
def YZ(Γ:FuncId->Option PC)(ws:List Nat)(o:Oper):List Nat :=
 match o.dst with
 | some d =>
   (match o.op with
    | .call { callee:=.value (.func f),.. }=>(match Γ f with|some c=>if c.fz then ws else d::ws|none=>d::ws)
    | .call { callee:=.value _,.. }=>d::ws
    | .build _ parts=>if lQ (fun p=>match p.2 with | .tmp x=>lQ (fun y=>y == x) ws|_=>false) parts.toList then d::ws else ws
    | .extract (.tmp x) _=>if lQ (fun y=>y == x) ws then d::ws else ws
    | .move (.tmp x)=>if lQ (fun y=>y == x) ws then d::ws else ws
    | _=>ws)
 | none=>ws
def aaq(T:cC)(ws:List Nat)(o:Oper):Bool :=
 match o.op with
 | .buildSlice t _ parts =>
   (match ll T t with
    | some e=>!e.flat&&lQ (fun p=>match p.2 with | .tmp x=>lQ (fun y=>y == x) ws|_=>false) parts.toList
    | none=>false)
 | _=>false
def oY(T:cC)(Γ:FuncId->Option PC)(ws:List Nat):List Oper->Nat
 | []=>0
 | o::r=>if acb Γ o&&!(aaq T ws o) then oY T Γ (YZ Γ ws o) r+1 else 0
def ff(all:Array Oper)(i:Nat):Nat:=(Region.before all).getD i 0
def oQ(all:Array Oper)(t:Nat):Nat->Option Nat
 | 0=>none
 | k+1 =>
   match all[k]? with
   | some o=>if o.dst=some t then some k else oQ all t k
   | none=>oQ all t k
def LG(all:Array Oper)(k i:Nat)(st:St)(x:Operand):S :=
 match x with
 | .tmp t =>
   match oQ all t k with
   | some j=>if (ff all i).testBit j then st.eval (.tmp t) else .any
   | none=>st.eval (.tmp t)
 | x=>st.eval x
def Jq(all:Array Oper)(i o_:Nat)(da:List Nat)(st:St)(n:Nat):az :=
 if n<o_ then st.an n else
 match mK da (n-o_) with
 | some j=>if (ff all i).testBit j then st.an n else .dead
 | none=>.dead
def jq(all:Array Oper)(k:Nat):Bool :=
 (List.range k).all fun i =>
   match all[i]? with
   | some o =>
     (match o.guard with|some (j,_)=>decide (j<i)&&(ff all i).testBit j|none=>true) &&
     (match o.dst with
      | some d=>(List.range k).all fun j=>j == i||(match all[j]? with|some o'=>o'.dst != some d|none=>true)
      | none=>false)
   | none=>false
def uh(all:Array Oper)(k:Nat):Bool :=
 (List.range all.size).all fun i=>(decide (i<k)||(List.range i).all fun j=>(ff all i).testBit j) &&
   (match all[i]? with|some o=>o.after.toList.all fun e=>!Region.binds .any e||decide (e.on<i)|none=>true)
def sQ(T:cC)(Γ:FuncId->Option PC)(all:Array Oper)(k o_:Nat):Nat->List Oper->List Nat->St->(St->Prop)->Prop
 | _,[],_,st,K=>K st
 | i,o::rest,da,st,K =>
   let go (st:St):Prop :=
    match jf T Γ (Jq all i o_ da st) (bL st.hp) (LG all k i st) o.op with
    | some r=>Hf r.ob (sQ T Γ all k o_ (i+1) rest (dX da (lmap (fun _=>i) r.new)) ((st.alloc r.new).put o.dst r.res) fun aV=>R5 r.hy (K aV))
    | none=>False
   let skip (st:St):Prop:=sQ T Γ all k o_ (i+1) rest da (st.put o.dst .fh) K
   match lA all o st with
   | .go=>go st
   | .skip=>skip st
   | .ask d b want =>
     (b=true->if want then go (st.put (some d) (.c .iB)) else skip (st.put (some d) (.c .iB))) ∧
     (b=false->if want then skip (st.put (some d) (.c .iq)) else go (st.put (some d) (.c .iq)))
   | .bad=>False
def Xv(all:List Oper)(ay:List Bool)(i:Nat):Bool :=
 !(nth true ay i)&&(match mK all i with|some o=>fK (fun e=>!(Region.binds .any e)||nth false ay e.on) o.after.toList|none=>false)
def tZ(all:List Oper)(ay:List Bool):Nat->Nat->List Nat
 | _,0=>[]
 | i,n+1=>if Xv all ay i then i::tZ all ay (i+1) n else tZ all ay (i+1) n
def np(o:Oper):Bool :=
 match o.guard,o.op with
 | none,.fieldAddr _ _ _=>true
 | none,.move _=>true
 | none,.assign _=>true
 | none,.extract _ _=>true
 | _,_=>false
def FJ(all:Array Oper)(oi:Oper)(i:Nat)(ay:List Bool):Nat->List Oper->Bool
 | _,[]=>true
 | j,oj::r=>(j == i||nth true ay j||lQ (fun e=>Region.binds .any e&&e.on == i) oj.after.toList||oi.apart all oj)&&FJ all oi i ay (j+1) r
def Gd(all:List Oper):Bool:=fK (fun o=>match o.op with | .select ..=>false|_=>true) all
def SY(all:Array Oper)(ay:List Bool)(i:Nat):Bool :=
 match mK all.toList i with
 | some oi=>np oi&&Gd all.toList&&FJ all oi i ay 0 all.toList
 | none=>false
def vX(all:Array Oper)(ay:List Bool):List Nat->Option Nat
 | []=>none
 | i::r=>if SY all ay i then some i else vX all ay r
def Rw:List Nat->(Nat->Prop)->Prop
 | [],_=>True
 | [i],f=>f i
 | i::r,f=>f i/\Rw r f
def Cz(T:cC)(Γ:FuncId->Option PC)(R:FuncId->Option cL)(all:Array Oper)(i:Nat)(st:St)(K:St->Prop):Prop :=
 match mK all.toList i with
 | some o =>
   match lA all o st with
   | .go=>z_ T Γ R st.eval st.an o st K
   | .skip=>K (st.put o.dst .fh)
   | .ask d b want =>
     (b=true->if want then z_ T Γ R (st.put (some d) (.c .iB)).eval st.an o (st.put (some d) (.c .iB)) K
       else K ((st.put (some d) (.c .iB)).put o.dst .fh)) ∧
     (b=false->if want then K ((st.put (some d) (.c .iq)).put o.dst .fh)
       else z_ T Γ R (st.put (some d) (.c .iq)).eval st.an o (st.put (some d) (.c .iq)) K)
   | .bad=>False
 | none=>False
def wN(T:cC)(Γ:FuncId->Option PC)(R:FuncId->Option cL)(all:Array Oper):Nat->List Bool->St->(St->Prop)->Prop
 | 0,ay,st,K =>
   match tZ all.toList ay 0 (bL all.toList) with
   | []=>K st
   | _=>False
 | n+1,ay,st,K =>
   match tZ all.toList ay 0 (bL all.toList) with
   | []=>K st
   | j::r =>
     match vX all ay (j::r) with
     | some i=>Cz T Γ R all i st fun aV=>wN T Γ R all n (bP ay i true) aV K
     | none=>Rw (j::r) fun i=>Cz T Γ R all i st fun aV=>wN T Γ R all n (bP ay i true) aV K
def za(all:Array Oper)(oi:Oper)(i:Nat):Nat->List Oper->Bool
 | _,[]=>true
 | j,oj::r=>(j == i||(ff all i).testBit j||lQ (fun e=>Region.binds .any e&&e.on == i) oj.after.toList||oi.apart all oj)&&za all oi i (j+1) r
def K1(all:Array Oper)(i:Nat):Bool :=
 match mK all.toList i with
 | some oi=>np oi&&Gd all.toList&&za all oi i 0 all.toList
 | none=>false
def q9(all:Array Oper)(k:Nat):Bool :=
 (List.range all.size).all fun i=>(decide (i<k)||(List.range k).all fun j=>(ff all i).testBit j||K1 all j) &&
   (match all[i]? with|some o=>o.after.toList.all fun e=>!Region.binds .any e||decide (e.on<i)|none=>true)
def Aa(T:cC)(Γ:FuncId->Option PC)(R:FuncId->Option cL)(ops:Array Oper)(draw:Bool)(st:St)(K:St->Prop):Prop :=
 if draw then
  let k:=oY T Γ [] ops.toList
  if jq ops k&&uh ops k then
   sQ T Γ ops k (bL st.hp) 0 (wm k ops.toList) [] st fun aV=>ow T Γ R ops (tT k ops.toList) aV K
  else if jq ops k&&q9 ops k then
   sQ T Γ ops k (bL st.hp) 0 (wm k ops.toList) [] st fun aV=>wN T Γ R ops (bL (tT k ops.toList)) (dX (kW true k) (kW false (bL (tT k ops.toList)))) aV K
  else wN T Γ R ops (bL ops.toList) (kW false (bL ops.toList)) st K
 else ow T Γ R ops ops.toList st K
inductive Src where
 | nm (n:Nat)
 | nil
 | no
def Gk(b:Bool):Option Prop:=if b then none else some False
def mC(bF:List Src):C->C->Option Prop
 | _,.any=>none
 | .val (.int k n),.val (.int k' m)=>if k=k' then some (n=m) else some False
 | .val (.bool a),.val (.bool b)=>some (a=b)
 | .iB,.val (.bool b)=>some (b=true)
 | .iq,.val (.bool b)=>some (b=false)
 | .iB,.iB=>none
 | .iq,.iq=>none
 | .val v,.val u=>some (v=u)
 | .rd fr e xs,.rd a_ e' ys=>if h:e=e' then (if a_&&!fr then some False else some (cA h xs=ys)) else some False
 | .val (.slice none 0 0),.rd _ _ ys=>some (ys=[])
 | .own n,.own m =>
   match mK bF m with
   | some (.nm n')=>Gk (n' == n)
   | _=>some False
 | .val (.slice none 0 0),.own m =>
   match mK bF m with
   | some .nil=>none
   | _=>some False
 | .pre n k,.pre m k' =>
   match mK bF m with
   | some (.nm n')=>fj (Gk (n' == n)) (some (k=k'))
   | _=>some False
 | .box n o,.box m o' =>
   match mK bF m with
   | some (.nm n')=>Gk (n' == n&&o == o')
   | _=>some False
 | .rg fr wh e b xs,.rg a_ wO e' b' ys=>if h:e=e' then (if (a_&&!fr)||(wO&&!wh) then some False else some (b=b'/\cA h xs=ys)) else some False
 | .val (.slice none 0 0),.rg _ _ _ _ ys=>some (ys=[])
 | .rg fr _ e _ xs,.rd a_ e' ys=>if h:e=e' then (if a_&&!fr then some False else some (cA h xs=ys)) else some False
 | .at_ fr t d o,.at_ a_ t' d' o'=>if h:t=t' then (if a_&&!fr then some False else fj (Gk (o == o')) (some ((h▸d)=d'))) else some False
 | .ca fr f t d,.ca a_ f' t' d'=>if h:t=t' then (if a_&&!fr then some False else fj (Gk (Nat.beq f f')) (some ((h▸d)=d'))) else some False
 | .eR n i o,.eR m i' o' =>
   match mK bF m with
   | some (.nm n')=>fj (Gk (n' == n&&o == o')) (some (i=i'))
   | _=>some False
 | _,_=>some False
def U4(bF:List Src):List C->List C->Option Prop
 | [],[]=>none
 | x::xs,y::ys=>fj (mC bF x y) (U4 bF xs ys)
 | _,_=>some False
def mS(bF:List Src):S->S->Option Prop
 | _,.any=>none
 | .c x,.c y=>mC bF x y
 | .agg xs,.agg ys=>U4 bF xs ys
 | .fh,.fh=>none
 | _,_=>some False
def mSs(bF:List Src):List S->List S->Option Prop
 | [],[]=>none
 | x::xs,y::ys=>fj (mS bF x y) (mSs bF xs ys)
 | _,_=>some False
def mE(bF:List Src)(es:Nat->az)(r:Src)(t:az):Option Prop :=
 match t with
 | .dead=>match r with | .no=>none|_=>some False
 | .bx cs=>match r with | .nm n=>(match es n with | .bx dm=>U4 bF dm cs|_=>some False)|_=>some False
 | .row fr e xs =>
   match r with
   | .nm n =>
     match es n with
     | .row a_ e' ys =>
       if h:e'=e then (if (fr&&!a_)||(e.bQ&&a_&&!fr) then some False else some (cA h ys=xs))
       else if h:e'=e.cO then (if fr&&a_ then some ((∀ y∈cA h ys,zB e y)/\xs=(cA h ys).map (gq e)) else some False)
       else some False
     | _=>some False
   | .nil=>some (xs=[])
   | .no=>some False
def mEs(bF:List Src)(es:Nat->az):List Src->List az->Option Prop
 | [],[]=>none
 | r::rs,t::ts=>fj (mE bF es r t) (mEs bF es rs ts)
 | _,_=>some False
def oM:List Src->Bool
 | []=>true
 | .nm n::r=>!(lQ (fun | .nm m=>m == n|_=>false) r)&&oM r
 | _::r=>oM r
def F9(es:Nat->az):Nat->List Src->List az->Bool
 | k,r::rs,t::ts =>
   (match t with
    | .row false e _=>!(e.flat||e.bQ)||(match r with | .nm n=>n == k&&(match es n with | .row fr _ _=>!fr|_=>false) | .nil=>true | .no=>false)
    | _=>true)&&F9 es (k+1) rs ts
 | _,_,_=>true
def R8:az->List Src->List az->Bool
 | .bx _,.nm 0::_,.bx _::_=>true
 | .bx _,_,_=>false
 | _,_,_=>true
def Match(bF:List Src)(s t:St):Prop :=
 cU (fj (Gk (oM bF&&F9 s.an 0 bF t.hp&&R8 (s.an 0) bF t.hp)) (fj (mSs bF s.ts t.ts) (mEs bF s.an bF t.hp)))
def UI(n:Nat):C->C->Option Src
 | x,.own m=>if m=n then (match x with | .own k=>some (.nm k) | .val (.slice none 0 0)=>some .nil|_=>none) else none
 | x,.box m _=>if m=n then (match x with | .box k _=>some (.nm k)|_=>none) else none
 | x,.pre m _=>if m=n then (match x with | .pre k _=>some (.nm k)|_=>none) else none
 | _,_=>none
def Hy(n:Nat):List C->List C->Option Src
 | x::xs,y::ys=>Gh (UI n x y) (Hy n xs ys)
 | _,_=>none
def ab1(n:Nat):S->S->Option Src
 | .c x,.c y=>UI n x y
 | .agg xs,.agg ys=>Hy n xs ys
 | _,_=>none
def QG(n:Nat):List S->List S->Option Src
 | x::xs,y::ys=>Gh (ab1 n x y) (QG n xs ys)
 | _,_=>none
def MA(n:Nat)(s:St):Nat->List az->Option Src
 | k,.bx ys::r=>Gh (match s.an k with | .bx xs=>Hy n xs ys|_=>none) (MA n s (k+1) r)
 | k,_::r=>MA n s (k+1) r
 | _,[]=>none
def ab0(s t:St)(n:Nat):Src:=(match Gh (QG n s.ts t.ts) (MA n s 0 t.hp) with|some r=>r|none=>.nm n)
def vl(s t:St):Nat->List az->List Src
 | _,[]=>[]
 | n,.dead::r=>.no::vl s t (n+1) r
 | n,_::r=>ab0 s t n::vl s t (n+1) r
inductive Ex where
 | normal
 | exit (id:Nat)
 | ret
inductive bg:Type 1 where
 | mk (X:Type) (J:X->Prop) (I:St->X->St) (m:X->Nat) (x0:X) (inner:X->Nat->Option bg)
def keyOf:Code->Option Nat
 | .region id _ _=>some id
 | .seq a b=>Gh (keyOf a) (keyOf b)
 | .block _ a=>keyOf a
 | .loop a=>keyOf a
 | _=>none
def dstsOf:List Oper->List Nat
 | []=>[]
 | o::r=>match o.dst with|some d=>d::dstsOf r|none=>dstsOf r
def writes:Code->List Nat
 | .region _ ops _=>dstsOf ops.toList
 | .seq a b=>dX (writes a) (writes b)
 | .cond _ a b=>dX (writes a) (writes b)
 | .block _ a=>writes a
 | .loop a=>writes a
 | _=>[]
def forget(ts:List S):List Nat->List S
 | []=>ts
 | d::r=>forget (bP ts d .any) r
def YS(ts:List S):List (Nat×S)->List S
 | []=>ts
 | p::r=>YS (bP ts p.1 p.2) r
def St.aW(st:St)(l:List (Nat×S)):St:={ st with ts:=YS st.ts l }
def ae0(hp:List az)(p:Nat×az):List az:=if p.1<bL hp then bP hp p.1 p.2 else dX hp [p.2]
def YR(hp:List az):List (Nat×az)->List az
 | []=>hp
 | p::r=>YR (ae0 hp p) r
def St.bJ(st:St)(l:List (Nat×az)):St:={ st with hp:=YR st.hp l }
def UN(n:Nat)(l:List Nat):Nat->List S->List S
 | _,[]=>[]
 | i,s::r=>(if Nat.ble n i&&!(lQ (fun m=>Nat.beq m i) l) then .any else s)::UN n l (i+1) r
def St.keep(st:St)(n:Nat)(l:List Nat):St:={ st with ts:=UN n l 0 st.ts }
def St.head(st:St)(body:Code):St:={ st with ts:=forget st.ts (writes body) }
def vc(T:cC)(Γ:FuncId->Option PC)(R:FuncId->Option cL):Code->(Nat->Option bg)->St->(Ex->(Nat->Option bg)->St->Prop)->Prop
 | .skip,A,st,Q=>Q .normal A st
 | .region id ops draw,A,st,Q =>
   match A (id+200000) with
   | some (.mk X J I m x0 inner)=>Aa T Γ R ops draw (st.freeze (m x0)) (Q .normal A)
   | none=>Aa T Γ R ops draw st (Q .normal A)
 | .seq a b,A,st,Q =>
   match Gg (keyOf b) (fun k=>A (k+100000)) with
   | some (.mk X J I m x0 inner) =>
     vc T Γ R a A st (fun e A' aV =>
      match e with
      | .normal=>∃ x':X,J x'/\Match (vl aV (I (st.head a) x') 0 (I (st.head a) x').hp) aV (I (st.head a) x')
      | e=>Q e A' aV) ∧
     ∀ x:X,J x->vc T Γ R b (inner x) (I (st.head a) x) Q
   | none=>vc T Γ R a A st fun e A' aV=>match e with | .normal=>vc T Γ R b A' aV Q|e=>Q e A' aV
 | .cond c a b,A,st,Q =>
   match st.eval c with
   | .c .iB=>vc T Γ R a A st Q
   | .c .iq=>vc T Γ R b A st Q
   | .c (.val (.bool p))=>(p=true->vc T Γ R a A st Q)/\(p=false->vc T Γ R b A st Q)
   | _=>False
 | .block id a,A,st,Q=>vc T Γ R a A st fun e A' aV=>match e with | .exit i=>if i=id then Q .normal A' aV else Q (.exit i) A' aV|e=>Q e A' aV
 | .loop a,A,st,Q =>
   match Gg (keyOf a) A with
   | some (.mk X J I m x0 inner) =>
     J x0/\Match (vl st (I (st.head a) x0) 0 (I (st.head a) x0).hp) st (I (st.head a) x0) ∧
     ∀ x:X,J x->vc T Γ R a (inner x) (I (st.head a) x) fun e A' aV =>
      match e with
      | .normal=>∃ x':X,J x'/\m x'<m x/\Match (vl aV (I (st.head a) x') 0 (I (st.head a) x').hp) aV (I (st.head a) x')
      | e=>Q e A' aV
   | none=>False
 | .exit id,A,st,Q=>Q (.exit id) A st
 | .ret,A,st,Q=>Q .ret A st
 | _,_,_,_=>False
def Sj(lk:Nat->az)(e:Ty):C->Option (List e.den×List Nat)
 | .own n =>
   match lk n with
   | .row true e' xs=>omap (fun ys=>(ys,[n])) (nE e' e xs)
   | _=>none
 | .pre n m =>
   match lk n with
   | .row true e' xs=>omap (fun ys=>(ys,[n])) (nE e' e (xs.take m))
   | _=>none
 | .val (.slice none 0 0)=>some ([],[])
 | _=>none
def vu(lk:Nat->az):(t:Ty)->List C->Option (t.den×List Nat×List C)
 | .int k,cs=>match iW (GH k) cs with|some (x,r)=>some (x,[],r)|none=>none
 | .bool,cs=>match iW rdBool cs with|some (x,r)=>some (x,[],r)|none=>none
 | .str,cs=>match iW rdStr cs with|some (x,r)=>some (x,[],r)|none=>none
 | .sl e,cs=>match iW (Sj lk e) cs with|some ((x,ns),r)=>some (x,ns,r)|none=>none
 | .st t,cs=>vu lk t cs
 | .pr a b,cs =>
   match vu lk a cs with
   | some (x,ns,r) =>
     match vu lk b r with
     | some (y,ms,r')=>some ((x,y),dX ns ms,r')
     | none=>none
   | none=>none
 | .ptr _,_=>none
 | .ca _ _,_=>none
 | .gs _ _,_=>none
def Si(lk:Nat->az)(t:Ty)(s:S):Option (t.den×List Nat) :=
 match s with
 | .c x=>if iQ t then none else match vu lk t [x] with|some (d,ns,[])=>some (d,ns)|_=>none
 | .agg cs=>if iQ t then match vu lk t cs with|some (d,ns,[])=>some (d,ns)|_=>none else none
 | _=>none
def BS(lk:Nat->az):(ts:List Ty)->List S->Option (cj ts×List Nat)
 | [],[]=>some ((),[])
 | [t],[s]=>Si lk t s
 | t::u::r,s::ss =>
   match Si lk t s with
   | some (x,ns) =>
     match BS lk (u::r) ss with
     | some (y,ms)=>some ((x,y),dX ns ms)
     | none=>none
   | none=>none
 | _,_=>none
def ach(T:cC)(st:St):ResultVar->Option S
 | .tmp t=>some (st.eval (.tmp t))
 | .cell a t =>
   match st.eval (.tmp a) with
   | .c (.box m o)=>omap (fun r=>r.res) (GG T st.an t (.box m o))
   | _=>none
def sL(T:cC)(st:St):List ResultVar->Option (List S)
 | []=>some []
 | r::rs =>
   match ach T st r,sL T st rs with
   | some s,some ss=>some (s::ss)
   | _,_=>none
def vt:List Nat->Bool
 | []=>true
 | n::r=>!(lQ (fun m=>m == n) r)&&vt r
def Rr(t:Ty)(d:t.den):S:=jl (iQ t,expand false t d)
def rQ:(ts:List Ty)->cj ts->List S
 | [],_=>[]
 | [t],d=>[Rr t d]
 | t::u::r,d=>Rr t d.1::rQ (u::r) d.2
def St.start(ts:List Ty)(d:cj ts)(ntmps:Nat):St:={ ts:=dX (rQ ts d) (kW .fh (ntmps-bL ts)),hp:=[] }
def OM(T:cC)(fn:Func)(rs:List Ty)(out:cj rs)(e:Ex)(st:St):Prop :=
 match e with
 | .exit _=>False
 | _ =>
   match sL T st fn.results.toList with
   | some ss =>
     match BS st.an rs ss with
     | some (r,ns)=>if vt ns then r=out else False
     | none=>False
   | none=>False
def aw(T:cC)(Γ:FuncId->Option PC)(R:FuncId->Option cL)(fn:Func)(c:PC)(A:cj c.ts->Nat->Option bg):Prop :=
 match fn.body with
 | some code=>∀ d,z5 c.ts d->c.pre d->vc T Γ R code (A d) (St.start c.ts d fn.ntmps) fun e _ st=>OM T fn c.rs (c.F d) e st
 | none=>False
end Go.SX
/- What keeps a symbolic value true: new names, new blocks, more memory that is not written any more. No condition. -/
namespace Go.SX
open Go.RowKit
set_option linter.unusedVariables false
theorem Ty.size_pos:∀ t:Ty,0<t.size
 | .int _=>Nat.one_pos
 | .bool=>Nat.one_pos
 | .str=>Nat.one_pos
 | .sl _=>Nat.one_pos
 | .st t=>t.size_pos
 | .pr a _=>Nat.add_pos_left a.size_pos _
 | .ptr _=>Nat.one_pos
 | .ca _ _=>Nat.one_pos
 | .gs _ _=>Nat.one_pos
structure VX (V:Vl) (hp:Nat->az) (w:World) (V':Vl) (aJ:Nat->az) (w':World):Prop where
 nm:∀ n,(hp n).live=true->V'.aF n=V.aF n/\(V'.has n↔V.has n)/\aJ n=hp n
 z0:∀ b,V.Z0 b->V'.Z0 b
 z1:∀ b,V.Z1 b->V'.Z1 b
 TH:∀ b,V.Z false b->w'.heap[b]? = w.heap[b]?
 TG:∀ n,(hp n).live=true->V.has n->w'.heap[V.aF n]? = w.heap[V.aF n]?
section
variable {V V' : Vl} {hp aJ : Nat → az} {w w' : World}
theorem VX.Af(x:VX V hp w V' aJ w'){fr:Bool}{b:Nat}(h:V.Z fr b):V'.Z fr b:=by
 rcases h with h|⟨h,k⟩
 ·exact .inl (x.z1 b h)
 ·exact .inr ⟨h,x.z0 b k⟩
theorem VX.agree(x:VX V hp w V' aJ w')(fr:Bool):ph (V.Z fr) w w':=fun b hb=>x.TH b (Vl.db hb)
theorem VX.rd(x:VX V hp w V' aJ w'){fr:Bool}{t:Ty}{cs:List Value}{d:t.den}(h:aI (V.Z fr) w t cs d):aI (V'.Z fr) w' t cs d :=
 h.mono (fun _ hb=>x.Af hb) (x.agree fr)
theorem VX.du(x:VX V hp w V' aJ w'){n h:Nat}{e:Ty}{v:Value}(hl:(hp n).live=true)(k:du V w n e h v):SX.du V' w' n e h v:=by
 obtain⟨hb,hh,_⟩:=x.nm n hl
 rcases k with ⟨h1,h2,h3⟩|⟨h1,cap,ak,el,h2,h3,h4,h5⟩
 ·exact .inl ⟨fun h=>h1 (hh.1 h),h2,h3⟩
 ·exact .inr ⟨hh.2 h1,cap,ak,el,by rw[hb];exact h2,by rw[hb,x.TG n hl h1];exact h3,h4,h5⟩
theorem C.kt(x:VX V hp w V' aJ w'):∀ {c:C} {v:Value},C.ok V hp w c v->C.ok V' aJ w' c v:=by
 intro c v h
 cases c with
 | val u=>exact h
 | iB=>exact h
 | iq=>exact h
 | rd fr e xs=>exact x.rd h
 | own n =>
   obtain⟨fr,e,xs,h1,h2⟩:=h
   have hl:(hp n).live=true:=by rw[h1];rfl
   exact⟨fr,e,xs,(x.nm n hl).2.2.trans h1,x.du hl h2⟩
 | pre n k =>
   obtain⟨fr,e,xs,h1,h3,h2⟩:=h
   have hl:(hp n).live=true:=by rw[h1];rfl
   exact⟨fr,e,xs,(x.nm n hl).2.2.trans h1,h3,x.du hl h2⟩
 | fP n e xs =>
   obtain⟨⟨fr,e',ys,h1⟩,h2⟩:=h
   have hl:(hp n).live=true:=by rw[h1];rfl
   obtain⟨hb,hh,he⟩:=x.nm n hl
   refine⟨⟨fr,e',ys,he.trans h1⟩,h2.mono (fun b fO=>?_) (fun b fO=>?_)⟩
   ·rcases fO with hz|⟨h3,h4⟩
    ·exact .inl (x.Af hz)
    ·exact .inr ⟨hh.2 h3,by rw[hb];exact h4⟩
   ·rcases fO with hz|⟨h3,h4⟩
    ·exact x.TH b hz
    ·rw[h4];exact x.TG n hl h3
 | box n off =>
   obtain⟨h1,h2,cs,h3⟩:=h
   have hl:(hp n).live=true:=by rw[h3];rfl
   obtain⟨hb,hh,he⟩:=x.nm n hl
   exact⟨by rw[hb];exact h1,hh.2 h2,cs,he.trans h3⟩
 | at_ fr t d off =>
   obtain⟨b,o,h1,h2,es,h3,h4,h5⟩:=h
   exact⟨b,o,h1,x.Af h2,es,h3,jo (x.TH b (Vl.db h2)) h4,x.rd h5⟩
 | eR n i off =>
   obtain⟨h0,fr,e,xs,h1,h2,h3⟩:=h
   have hl:(hp n).live=true:=by rw[h1];rfl
   obtain⟨hb,hh,he⟩:=x.nm n hl
   exact⟨hh.2 h0,fr,e,xs,he.trans h1,h2,by rw[hb];exact h3⟩
 | fn f ea =>
   obtain⟨h1,h2⟩:=h
   have aeD:ea.map (fun n=>Value.pointer (some ⟨V'.aF n,0,none⟩))=ea.map (fun n=>Value.pointer (some ⟨V.aF n,0,none⟩)):=by
    refine List.map_congr_left fun n hn=>?_
    obtain⟨_,cs,h3⟩:=h2 n hn
    rw[(x.nm n (by rw[h3];rfl)).1]
   refine⟨by rw[aeD];exact h1,fun n hn=>?_⟩
   obtain⟨h4,cs,h3⟩:=h2 n hn
   obtain⟨hb,hh,he⟩:=x.nm n (by rw[h3];rfl)
   exact⟨hh.2 h4,cs,he.trans h3⟩
 | ca fr f t d=>exact x.rd h
 | rg fr wh e b xs=>exact x.rd (t:=.gs wh e) h
 | any=>exact h
theorem sF(x:VX V hp w V' aJ w'){cs:List C}{vs:List Value}(h:bO V hp w cs vs):bO V' aJ w' cs vs :=
 ⟨h.1,fun j c v hc hv=>C.kt x (h.2 j c v hc hv)⟩
theorem Vg(x:VX V hp w V' aJ w'){y:Bool×List C}{v:Value}(h:mo V hp w y v):mo V' aJ w' y v:=by
 unfold mo at *
 split
 ·rename_i hy
  rw[if_pos hy] at h
  obtain⟨vs,h1,h2⟩:=h
  exact⟨vs,h1,sF x h2⟩
 ·rename_i hy
  rw[if_neg hy] at h
  exact sF x h
theorem S.kt(x:VX V hp w V' aJ w'){s:S}{v:Value}(h:S.ok V hp w s v):S.ok V' aJ w' s v:=by
 cases s with
 | c y=>exact C.kt x h
 | agg cs=>obtain⟨vs,h1,h2⟩:=h;exact⟨vs,h1,sF x h2⟩
 | sP xs=>obtain⟨vs,h1,h2,h3⟩:=h;exact⟨vs,h1,h2,fun j y v hy hv=>Vg x (h3 j y v hy hv)⟩
 | fh=>exact h
 | any=>exact h
 | arr e xs=>obtain⟨hf,vs,h1,h2,h3⟩:=h;exact⟨hf,vs,h1,h2,fun i hi=>by obtain⟨es,k1,k2,k3⟩:=h3 i hi;exact⟨es,k1,k2,k3.flat hf⟩⟩
theorem S.xL{V V':Vl}{hp aJ:Nat->az}{w w':World}{e:Ty}{xs:List e.den}{v:Value}(h:S.ok V hp w (.arr e xs) v):S.ok V' aJ w' (.arr e xs) v:=by
 obtain⟨hf,vs,h1,h2,h3⟩:=h
 exact⟨hf,vs,h1,h2,fun i hi=>by obtain⟨es,k1,k2,k3⟩:=h3 i hi;exact⟨es,k1,k2,k3.flat hf⟩⟩
theorem az.kt(x:VX V hp w V' aJ w'){n:Nat}(h:(hp n).ok V hp w n)(hb:∀ cs,hp n = .bx cs->V.has n)(hl:(hp n).live=true):(aJ n).ok V' aJ w' n:=by
 obtain⟨e1,e2,e3⟩:=x.nm n hl
 rw[e3]
 cases he:hp n with
 | dead=>trivial
 | bx cs =>
   rw[he] at h
   obtain⟨ak,el,h1,h2⟩:=h
   exact⟨ak,el,by rw[e1,x.TG n hl (hb cs he)];exact h1,sF x h2⟩
 | row fr e xs =>
   rw[he] at h
   rcases h with ⟨h1,h2⟩|⟨h1,ak,el,h2,h3,h4⟩
   ·exact .inl ⟨fun h=>h1 (e2.1 h),h2⟩
   ·refine .inr ⟨e2.2 h1,ak,el,by rw[e1,x.TG n hl h1];exact h2,h3,fun i hi=>?_⟩
    obtain⟨es,h5,h6,h7⟩:=h4 i hi
    exact⟨es,h5,h6,x.rd h7⟩
end
theorem C.dA{V:Vl}{hp:Nat->az}{w:World}:∀ {c:C} {v:Value},C.ok V hp w c v->v.oneCell'=true:=by
 intro c v h
 cases c with
 | val u=>obtain⟨rfl,h⟩:=h;cases v<;>first|rfl|exact h.elim
 | iB=>rw[show v=_ from h];rfl
 | iq=>rw[show v=_ from h];rfl
 | rd fr e xs=>exact aI.dA (t:=.sl e) h v (by simp)
 | own n =>
   obtain⟨fr,e,xs,h1,h2|h2⟩:=h
   ·rw[h2.2.1];rfl
   ·obtain⟨_,cap,ak,el,h3,_⟩:=h2;rw[h3];rfl
 | pre n k =>
   obtain⟨fr,e,xs,h1,_,h2|h2⟩:=h
   ·rw[h2.2.1];rfl
   ·obtain⟨_,cap,ak,el,h3,_⟩:=h2;rw[h3];rfl
 | fP n e xs=>exact aI.dA (t:=.sl e) h.2 v (by simp)
 | box n off=>rw[h.1];rfl
 | at_ fr t d off=>obtain⟨b,o,h1,_⟩:=h;rw[h1];rfl
 | eR n i off=>obtain⟨_,fr,e,xs,_,_,h1⟩:=h;rw[h1];rfl
 | fn f ea=>rw[h.1];rfl
 | ca fr f t d=>exact aI.dA (t:=.ca f t) h v (by simp)
 | rg fr wh e b xs=>exact aI.dA (t:=.gs wh e) h v (by simp)
 | any=>exact h
section
variable {V : Vl} {hp : Nat → az} {w : World}
theorem df{c:C}{cs:List C}{vs:List Value}(h:bO V hp w (c::cs) vs):∃ v cI,vs=v::cI/\C.ok V hp w c v/\bO V hp w cs cI:=by
 obtain⟨h1,h2⟩:=h
 cases vs with
 | nil=>simp at h1
 | cons v cI=>exact⟨v,cI,rfl,h2 0 c v rfl rfl,by simpa using h1,fun j c' v' hc hv=>h2 (j+1) c' v' (by simpa using hc) (by simpa using hv)⟩
theorem cu:bO V hp w [] []:=⟨rfl,fun j c v h=>by simp at h⟩
theorem bu{c:C}{cs:List C}{v:Value}{vs:List Value}(h:C.ok V hp w c v)(k:bO V hp w cs vs):bO V hp w (c::cs) (v::vs):=by
 refine⟨by simp[k.1],fun j c' v' hc hv=>?_⟩
 cases j with
 | zero=>simp at hc hv;subst hc;subst hv;exact h
 | succ j=>exact k.2 j c' v' (by simpa using hc) (by simpa using hv)
theorem gW{cs ds:List C}{vs us:List Value}(h:bO V hp w cs vs)(k:bO V hp w ds us):bO V hp w (cs++ds) (vs++us):=by
 induction cs generalizing vs with
 | nil=>obtain⟨h1,_⟩:=h;cases vs with|nil=>exact k|cons v vs=>simp at h1
 | cons c cs ih=>obtain⟨v,cI,rfl,h1,h2⟩:=df h;exact bu h1 (ih h2)
theorem nh{cs:List C}{vs:List Value}(h:bO V hp w cs vs)(n:Nat):bO V hp w (cs.take n) (vs.take n) :=
 ⟨by simp[h.1],fun j c v hc hv=>by
   rw[List.getElem?_take] at hc hv
   split at hc
   ·rename_i hj;rw[if_pos hj] at hv;exact h.2 j c v hc hv
   ·cases hc⟩
theorem ng{cs:List C}{vs:List Value}(h:bO V hp w cs vs)(n:Nat):bO V hp w (cs.drop n) (vs.drop n) :=
 ⟨by simp[h.1],fun j c v hc hv=>by
   rw[List.getElem?_drop] at hc hv
   exact h.2 _ c v hc hv⟩
theorem sG(fr:Bool):∀(t:Ty) {d:t.den} {vs:List Value},aI (V.Z fr) w t vs d->bO V hp w (expand fr t d) vs:=by
 intro t
 induction t with
 | int k=>intro d vs h;rw[h.1];exact bu ⟨rfl,h.2⟩ cu
 | bool=>intro d vs h;rw[show vs=_ from h];exact bu ⟨rfl,trivial⟩ cu
 | str=>intro d vs h;rw[h.1];exact bu ⟨rfl,h.2⟩ cu
 | sl e ih =>
   intro d vs h
   have h':=h
   obtain⟨a,cap,h1,_⟩:=h
   subst h1
   exact bu h' cu
 | st t ih=>exact fun h=>ih h
 | pr a b fX fR =>
   intro d vs h
   obtain⟨c1,c2,rfl,h2,h3⟩:=h
   show bO V hp w (dX _ _) _
   rw[cp]
   exact gW (fX h2) (fR h3)
 | ptr t ih =>
   intro d vs h
   obtain⟨b,o,h1,h2,es,h3,h4,h5⟩:=h
   subst h1
   exact bu ⟨b,o,rfl,h2,es,h3,h4,h5⟩ cu
 | ca f t ih =>
   intro d vs h
   have h':=h
   obtain⟨ea,h1,_⟩:=h
   subst h1
   exact bu h' cu
 | gs wh e ih =>
   intro d vs h
   have h':=h
   obtain⟨⟨a,cap,h1,_⟩,_⟩:=h
   subst h1
   exact bu (c:=.rg fr wh e d.1 d.2) h' cu
theorem Ra(e:Ty)(xs:List e.den):(bH e xs).length=xs.length:=by simp[bH]
theorem ze{Z:Nat->Prop}{wh:Bool}{e:Ty}{cs:List Value}{b:Nat}{xs:List e.den}(h:aI Z w (.gs wh e) cs (b,xs)):aI Z w (.sl e) cs xs:=h.1
theorem Ya{Z:Nat->Prop}{wh wO:Bool}{e:Ty}{cs:List Value}{d:Nat×List e.den}(hw:wh=true->wO=true)(h:aI Z w (.gs wO e) cs d):aI Z w (.gs wh e) cs d:=⟨h.1,h.2.1,fun k=>h.2.2 (hw k)⟩
theorem aI.ae5{Z:Nat->Prop}{e:Ty}{cs:List Value}{xs:List e.den}(h:aI Z w (.sl e) cs xs):aI Z w (.sl e.cO) cs (bH e xs):=aI.un (.sl e) h
theorem sh{Z:Nat->Prop}{e' e:Ty}{cs:List Value}{xs:List e'.den}{ys:List e.den}(h:aI Z w (.sl e') cs xs)(k:nE e' e xs=some ys):aI Z w (.sl e) cs ys:=by
 unfold nE at k
 split at k
 ·rename_i hk;subst hk;injection k with k;subst k;exact h
 ·split at k
  ·rename_i hk;subst hk;injection k with k;subst k;exact h.ae5
  ·cases k
theorem qZ{e' e:Ty}{xs:List e'.den}{ys:List e.den}(k:nE e' e xs=some ys):ys.length=xs.length:=by
 unfold nE at k
 split at k
 ·rename_i hk;subst hk;injection k with k;subst k;rfl
 ·split at k
  ·rename_i hk;subst hk;injection k with k;subst k;exact Ra e' xs
  ·cases k
theorem yJ{e' e:Ty}{xs:List e'.den}{ys:List e.den}(k:nE e' e xs=some ys):e'.size=e.size/\e'.flat=e.flat:=by
 unfold nE at k
 split at k
 ·rename_i hk;rw[hk];exact⟨rfl,rfl⟩
 ·split at k
  ·rename_i hk;rw[<-hk];exact⟨(b_ e').symm,(z6 e').symm⟩
  ·cases k
theorem TJ{Z:Nat->Prop}{e' e:Ty}{xs:List e'.den}{ys:List e.den}(k:nE e' e xs=some ys){i:Nat}(hi:i<ys.length){es:List Value}(h:aI Z w e' es (xs[i]'(by rw[<-qZ k];exact hi))):aI Z w e es ys[i]:=by
 unfold nE at k
 split at k
 ·rename_i hk;subst hk;injection k with k;subst k;exact h
 ·split at k
  ·rename_i hk;subst hk;injection k with k;subst k
   have:(bH e' xs)[i]'hi=aU e' (xs[i]'(by rw[<-Ra e' xs];exact hi)):=by simp[bH]
   show aI Z w e'.cO es ((bH e' xs)[i]'hi)
   rw[this]
   exact aI.un e' h
  ·cases k
def gO(_:Nat):Prop:=True
theorem aI.any{Z:Nat->Prop}{t:Ty}{cs:List Value}{d:t.den}(h:aI Z w t cs d):aI gO w t cs d:=h.mono (fun _ _=>trivial) (fun _ _=>rfl)
end
structure ahb (P:Program) (t:TypeId) (ti:TI):Prop where
 size:(sizeOf t).run P=fun w=>.ok ti.size w
 len:ti.zero.length=ti.size
end Go.SX
/- Contracts: what a function that writes to memory of its own alone takes and hands back. No condition. -/
namespace Go.SX
open Go.RowKit
set_option linter.unusedVariables false
def rK(t:Ty)(cs:List Value)(v:Value):Prop:=if iQ t then v = .agg cs.toArray else cs=[v]
def E2(Z:Nat->Prop)(w:World)(t:Ty)(v:Value)(d:t.den):Prop:=∃ cs,rK t cs v/\aI Z w t cs d
def mu(Z:Nat->Prop)(w:World):(ts:List Ty)->List Value->cj ts->Prop
 | [],vs,_=>vs=[]
 | [t],vs,d=>∃ v,vs=[v]/\E2 Z w t v d
 | t::u::r,vs,d=>∃ v cI,vs=v::cI/\E2 Z w t v d.1/\mu Z w (u::r) cI d.2
def gl(Z:Nat->Prop)(w:World)(e:Ty)(ak:Array Value)(xs:List e.den):Prop :=
 ∀ i (h:i<xs.length),∃ es,es.length=e.size/\(∀ j u,es[j]? = some u->ak[i*e.size+j]? = some u)/\aI Z w e es xs[i]
def jg(Z:Nat->Prop)(w:World):(t:Ty)->List Value->t.den->List (Option Nat)->Prop
 | .sl e,cs,xs,bs=>(cs=[.slice none 0 0]/\xs=[]/\bs=[none]) ∨
    ∃ b cap ak el,cs=[.slice (some ⟨b,0,none⟩) xs.length cap]/\bs=[some b]/\w.heap[b]? = some (.cells ak el (0,0))/\ak.size=cap*e.size/\xs.length<=cap ∧
     xs.length<=cY/\gl Z w e ak xs
 | .st t,cs,d,bs=>jg Z w t cs d bs
 | .pr a b,cs,d,bs=>∃ c1 c2 b1 b2,cs=c1++c2/\bs=b1++b2/\jg Z w a c1 d.1 b1/\jg Z w b c2 d.2 b2
 | .int k,cs,d,bs=>aI Z w (.int k) cs d/\bs=[]
 | .bool,cs,d,bs=>aI Z w .bool cs d/\bs=[]
 | .ptr _,_,_,_=>False
 | .ca _ _,_,_,_=>False
 | .gs _ _,_,_,_=>False
 | .str,cs,d,bs=>aI Z w .str cs d/\bs=[]
def E1(Z:Nat->Prop)(w:World)(t:Ty)(v:Value)(d:t.den)(bs:List (Option Nat)):Prop:=∃ cs,rK t cs v/\jg Z w t cs d bs
def fu(Z:Nat->Prop)(w:World):(ts:List Ty)->List Value->cj ts->List (Option Nat)->Prop
 | [],vs,_,bs=>vs=[]/\bs=[]
 | [t],vs,d,bs=>∃ v,vs=[v]/\E1 Z w t v d bs
 | t::u::r,vs,d,bs=>∃ v cI b1 b2,vs=v::cI/\bs=b1++b2/\E1 Z w t v d.1 b1/\fu Z w (u::r) cI d.2 b2
def qf(vs:List Value):Value:=match vs with|[v]=>v|vs=>.tuple vs.toArray
def wv:LM:=⟨fun _=>False,fun _ _=>False,fun _=>True,fun _ h=>h.elim,fun _=>False⟩
structure vK (w w':World) (ts:List Ty) (v:Value) (d:cj ts):Prop where
 ex:∃(Z1:Nat->Prop) (bs:List (Option Nat)) (vs:List Value),v=qf vs/\fu Z1 w' ts vs d bs/\(bs.filterMap id).Nodup ∧
  (∀ b,some b∈bs->w.heap.size<=b/\b<w'.heap.size/\¬Z1 b)/\(∀ b,Z1 b->w.heap.size<=b/\b<w'.heap.size)
 kept:Kept w.heap.size wv w w'
def n8(P:Program)(f:FuncId)(c:PC):Prop :=
 ∀(w:World) (args:List Value) (d:cj c.ts),mu gO w c.ts args d->c.pre d →
  Calls P f args.toArray w fun e w'=>∃ v,e = .returned v/\vK w w' c.rs v (c.F d)
section
variable {V : Vl} {hp : Nat → az} {w : World}
theorem Cl{n h:Nat}{fr:Bool}{e:Ty}{xs:List e.den}{v:Value}(he:(az.row fr e xs).ok V hp w n)(hr:du V w n e h v)(hh:h<=xs.length) :
 aI (fun b=>V.Z fr b\/(V.has n/\b=V.aF n)) w (.sl e) [v] (xs.take h):=by
 have hlen:(xs.take h).length=h:=by rw[List.length_take];omega
 rcases hr with ⟨h1,rfl,rfl⟩|⟨h1,cap,ak,el,rfl,h3,h4,h5⟩
 ·exact⟨none,0,by simp,by simp,by simp,fun i hi=>by simp at hi⟩
 ·rcases he with ⟨k1,_⟩|⟨_,ba,dC,k2,k3,k4⟩
  ·exact absurd h1 k1
  ·rw[k2] at h3
   injection h3 with h3
   injection h3 with e1 e2 e3
   subst e1
   refine⟨_,cap,by rw[hlen],by rw[hlen];exact h5,by rw[hlen];omega,fun i hi=>?_⟩
   rw[hlen] at hi
   obtain⟨es,k5,k6,k7⟩:=k4 i (by omega)
   refine⟨_,rfl,rfl,.inr ⟨h1,rfl⟩,es,k5,fun j hj=>?_,?_⟩
   ·simp only[World.cell?,k2,Nat.zero_add]
    exact k6 j _ (List.getElem?_eq_getElem hj)
   ·rw[List.getElem_take]
    exact k7.mono (fun b hb=>.inl hb) (fun _ _=>rfl)
def kN(V:Vl)(hp lk:Nat->az)(w:World):Prop:=∀ n,(lk n).live=true->lk n=hp n/\(lk n).ok V hp w n
theorem bX{α:Type}{f:C->Option α}{cs r:List C}{x:α}(h:iW f cs=some (x,r)):∃ c,cs=c::r/\f c=some x:=by
 cases cs with
 | nil=>cases h
 | cons c cs =>
   unfold iW at h
   cases hf:f c with
   | none=>simp[hf] at h
   | some y=>simp[hf] at h;exact⟨c,by rw[h.2],by rw[<-h.1];exact hf⟩
theorem vB{k:IntKind}{c:C}{n:Int}{v:Value}(h:GH k c=some n)(ho:C.ok V hp w c v):v = .int k n/\k.min<=n/\n<=k.max:=by
 unfold GH at h
 split at h
 ·split at h
  ·rename_i hk;injection h with h;subst h;subst hk;exact⟨ho.1,ho.2⟩
  ·cases h
 ·cases h
theorem wF{c:C}{b:Bool}{v:Value}(h:rdBool c=some b)(ho:C.ok V hp w c v):v = .bool b:=by
 unfold rdBool at h
 split at h<;>first|(injection h with h;subst h;first|exact ho.1|exact ho)|cases h
theorem k_{c:C}{s:ByteArray}{v:Value}(h:rdStr c=some s)(ho:C.ok V hp w c v):v = .string s/\s.size<=maxLen:=by
 unfold rdStr at h
 split at h
 ·injection h with h;subst h;exact⟨ho.1,ho.2⟩
 ·cases h
theorem QX{lk:Nat->az}(hl:kN V hp lk w){e:Ty}{c:C}{xs:List e.den}{v:Value}(h:rB lk e c=some xs)(ho:C.ok V hp w c v):aI gO w (.sl e) [v] xs:=by
 unfold rB at h
 split at h
 ·exact (sh ho h).any
 ·split at h
  ·rename_i hk;subst hk;injection h with h;subst h;exact ho.2.any
  ·cases h
 ·rename_i n
  split at h
  ·rename_i e' br hn
   obtain⟨h1,h2⟩:=hl n (by rw[hn];rfl)
   obtain⟨fr,e2,ic,h3,h4⟩:=ho
   rw[<-h1,hn] at h3
   injection h3 with e1 e2 e3
   subst e1;subst e2;cases e3
   rw[hn] at h2
   have:=Cl h2 h4 (Nat.le_refl _)
   rw[List.take_length] at this
   exact (sh this h).any
  ·cases h
 ·rename_i n m
  split at h
  ·rename_i e' br hn
   obtain⟨h1,h2⟩:=hl n (by rw[hn];rfl)
   obtain⟨fr,e2,ic,h3,h5,h4⟩:=ho
   rw[<-h1,hn] at h3
   injection h3 with e1 e2 e3
   subst e1;subst e2;cases e3
   rw[hn] at h2
   exact (sh (Cl h2 h4 h5) h).any
  ·cases h
 ·exact (sh (ze ho) h).any
 ·injection h with h;subst h
  rw[ho.1]
  exact aI.zero (.sl e) rfl
 ·cases h
theorem NR{fr wh:Bool}{e:Ty}{c:C}{d:Nat×List e.den}{v:Value}(h:VE wh e c=some d)(ho:C.ok V hp w c v)(hf:fr=true->c.gj=true):aI (V.Z fr) w (.gs wh e) [v] d:=by
 unfold VE at h
 split at h
 ·rename_i a_ wO e' b xs
  split at h
  ·rename_i hk;subst hk
   split at h
   ·cases h
   ·rename_i F6
    injection h with h;subst h
    have cm:aI (V.Z a_) w (.gs wO e') [v] (b,xs):=ho
    refine (Ya (fun hw=>by cases wO<;>simp_all) cm).mono (fun b' hb=>?_) (fun _ _=>rfl)
    cases fr with
    | false=>exact Vl.db hb
    | true=>rw[show a_=true from hf rfl] at hb;exact hb
  ·cases h
 ·injection h with h;subst h
  rw[ho.1]
  exact aI.zero (.gs wh e) rfl
 ·cases h
theorem acg{wh:Bool}{e:Ty}{c:C}{d:Nat×List e.den}{v:Value}(h:VE wh e c=some d)(ho:C.ok V hp w c v):aI gO w (.gs wh e) [v] d:=(NR (fr:=false) h ho (fun h=>by cases h)).any
theorem Ad{α:Type}{o:Option (α×List C)}{d:α}(h:whole o=some d):o=some (d,[]):=by
 unfold whole at h
 split at h
 ·injection h with h;subst h;rfl
 ·cases h
theorem Xw{lk:Nat->az}(hl:kN V hp lk w):∀(t:Ty) {cs:List C} {d:t.den} {rest:List C} {vs:List Value},iY lk t cs=some (d,rest)->bO V hp w cs vs →
 ∃ us ws,vs=us++ws/\aI gO w t us d/\bO V hp w rest ws:=by
 intro t
 induction t with
 | int k =>
   intro cs d rest vs h ho
   obtain⟨c,rfl,hc⟩:=bX h
   obtain⟨v,cI,rfl,h1,h2⟩:=df ho
   obtain⟨h3,h4⟩:=vB hc h1
   exact⟨[v],cI,rfl,⟨by rw[h3],h4⟩,h2⟩
 | bool =>
   intro cs d rest vs h ho
   obtain⟨c,rfl,hc⟩:=bX h
   obtain⟨v,cI,rfl,h1,h2⟩:=df ho
   exact⟨[v],cI,rfl,by rw[wF hc h1];exact rfl,h2⟩
 | str =>
   intro cs d rest vs h ho
   obtain⟨c,rfl,hc⟩:=bX h
   obtain⟨v,cI,rfl,h1,h2⟩:=df ho
   obtain⟨h3,h4⟩:=k_ hc h1
   exact⟨[v],cI,rfl,⟨by rw[h3],h4⟩,h2⟩
 | sl e ih =>
   intro cs d rest vs h ho
   obtain⟨c,rfl,hc⟩:=bX h
   obtain⟨v,cI,rfl,h1,h2⟩:=df ho
   exact⟨[v],cI,rfl,QX hl hc h1,h2⟩
 | st t ih=>exact fun h ho=>ih h ho
 | pr a b fX fR =>
   intro cs d rest vs h ho
   unfold iY at h
   cases ha:iY lk a cs with
   | none=>simp[ha] at h
   | some x =>
     obtain⟨x,r⟩:=x
     simp only[ha] at h
     cases hb:iY lk b r with
     | none=>simp[hb] at h
     | some y =>
       obtain⟨y,r'⟩:=y
       simp only[hb,Option.some.injEq,Prod.mk.injEq] at h
       obtain⟨rfl,rfl⟩:=h
       obtain⟨us,ws,rfl,h1,h2⟩:=fX ha ho
       obtain⟨V6,ws',rfl,h3,h4⟩:=fR hb h2
       exact⟨us++V6,ws',by rw[List.append_assoc],⟨us,V6,rfl,h1,h3⟩,h4⟩
 | ptr t ih =>
   intro cs d rest vs h ho
   obtain⟨c,rfl,hc⟩:=bX h
   obtain⟨v,cI,rfl,h1,h2⟩:=df ho
   refine⟨[v],cI,rfl,?_,h2⟩
   unfold SN at hc
   split at hc
   ·split at hc
    ·rename_i hk;subst hk;injection hc with hc;subst hc
     obtain⟨b,o,e1,e2,es,e3,e4,e5⟩:=h1
     exact⟨b,o,by rw[e1,Nat.add_zero],trivial,es,e3,e4,e5.any⟩
    ·cases hc
   ·rename_i n
    split at hc
    ·rename_i dm hn
     obtain⟨e1,e2⟩:=hl n (by rw[hn];rfl)
     rw[hn] at e2
     obtain⟨ak,el,e3,e4⟩:=e2
     obtain⟨us,ws,e5,e6,e7⟩:=ih (Ad hc) e4
     have:ws=[]:=by
      have:=e7.1
      cases ws with
      | nil=>rfl
      | cons _ _=>cases this
     subst this
     rw[List.append_nil] at e5
     refine⟨V.aF n,0,by rw[h1.1],trivial,us,e6.length,fun j hj=>?_,e6⟩
     simp only[World.cell?,e3,Nat.zero_add]
     have lr:j<ak.size:=by rw[<-e5] at hj;simpa using hj
     have hu:us[j]=ak[j]:=by simp[<-e5]
     rw[hu]
     exact Array.getElem?_eq_getElem lr
    ·cases hc
   ·cases hc
 | ca f t ih =>
   intro cs d rest vs h ho
   obtain⟨c,rfl,hc⟩:=bX h
   obtain⟨v,cI,rfl,h1,h2⟩:=df ho
   refine⟨[v],cI,rfl,?_,h2⟩
   unfold SM at hc
   split at hc
   ·split at hc
    ·rename_i hf
     split at hc
     ·rename_i hk;subst hk;subst hf;injection hc with hc;subst hc
      exact aI.any (t:=.ca _ _) h1
     ·cases hc
    ·cases hc
   ·rename_i f' ns
    split at hc
    ·rename_i hf
     subst hf
     obtain⟨k1,k2⟩:=h1
     have fQ:bO V hp w (lmap (fun n=>C.box n 0) ns) (ns.map fun n=>Value.pointer (some ⟨V.aF n,0,none⟩)):=by
      rw[bS]
      refine⟨by simp,fun j c u hc hu=>?_⟩
      rw[List.getElem?_map] at hc hu
      cases hn:ns[j]? with
      | none=>rw[hn] at hc;cases hc
      | some n =>
        rw[hn] at hc hu
        simp only[Option.map_some,Option.some.injEq] at hc hu
        subst hc;subst hu
        obtain⟨k3,k4⟩:=k2 n (List.mem_of_getElem? hn)
        exact⟨rfl,k3,k4⟩
     obtain⟨us,ws,e5,e6,e7⟩:=ih (Ad hc) fQ
     have:ws=[]:=by
      have:=e7.1
      cases ws with
      | nil=>rfl
      | cons _ _=>cases this
     subst this
     rw[List.append_nil] at e5
     exact⟨_,by rw[k1],by rw[e5];exact e6⟩
    ·cases hc
   ·cases hc
 | gs wh e ih =>
   intro cs d rest vs h ho
   obtain⟨c,rfl,hc⟩:=bX h
   obtain⟨v,cI,rfl,h1,h2⟩:=df ho
   exact⟨[v],cI,rfl,acg hc h1,h2⟩
theorem GI{lk:Nat->az}(hl:kN V hp lk w){t:Ty}{cs:List C}{d:t.den}{vs:List Value}(h:readAll lk t cs=some d)(ho:bO V hp w cs vs):aI gO w t vs d:=by
 unfold readAll at h
 split at h
 ·rename_i d' hr
  injection h with h;subst h
  obtain⟨us,ws,rfl,h1,h2⟩:=Xw hl t hr ho
  have:ws=[]:=by have:=h2.1;simp at this;exact List.length_eq_zero_iff.1 this.symm
  rw[this,List.append_nil]
  exact h1
 ·cases h
theorem NT{lk:Nat->az}(hl:kN V hp lk w){t:Ty}{s:S}{d:t.den}{v:Value}(h:wI lk t s=some d)(ho:S.ok V hp w s v):E2 gO w t v d:=by
 unfold wI at h
 split at h
 ·rename_i x
  split at h
  ·cases h
  ·rename_i ht
   exact⟨[v],by simp[rK,ht],GI hl h (bu ho cu)⟩
 ·rename_i cs
  split at h
  ·rename_i ht
   obtain⟨vs,rfl,h1⟩:=ho
   exact⟨vs.toList,by simp[rK,ht],GI hl h h1⟩
  ·cases h
 ·cases h
theorem xz{lk:Nat->az}(hl:kN V hp lk w):∀(ts:List Ty) {ss:List S} {d:cj ts} {vs:List Value},mN lk ts ss=some d->ss.length=vs.length →
 (∀(i:Nat) s v,ss[i]? = some s->vs[i]? = some v->S.ok V hp w s v)->mu gO w ts vs d:=by
 intro ts
 induction ts with
 | nil =>
   intro ss d vs h hlen ho
   cases ss with
   | nil=>cases vs with|nil=>exact rfl|cons v vs=>simp at hlen
   | cons s ss=>cases h
 | cons t r ih =>
   intro ss d vs h hlen ho
   cases ss with
   | nil=>cases r<;>cases h
   | cons s ss =>
     cases vs with
     | nil=>simp at hlen
     | cons v vs =>
       have hs:=ho 0 s v rfl rfl
       cases r with
       | nil =>
         cases ss with
         | nil =>
           cases vs with
           | nil=>exact⟨v,rfl,NT hl h hs⟩
           | cons v' vs=>simp at hlen
         | cons s' ss=>cases h
       | cons u r =>
         unfold mN at h
         cases h1:wI lk t s with
         | none=>simp[h1] at h
         | some x =>
           simp only[h1] at h
           cases h2:mN lk (u::r) ss with
           | none=>simp[h2] at h
           | some y =>
             simp only[h2,Option.some.injEq] at h
             subst h
             exact⟨v,vs,rfl,NT hl h1 hs,ih h2 (by simpa using hlen) (fun i s' v' hi hv=>ho (i+1) s' v' (by simpa using hi) (by simpa using hv))⟩
end
end Go.SX
/- What the executor is told of the program's types, held against the program; how the operations on memory run. No condition. -/
namespace Go.SX
open Go.RowKit
set_option linter.unusedVariables false
def mX:TypeDesc->Bool
 | .struct _ | .array _ _=>true
 | _=>false
def zb:Value->Value->Bool
 | .int k n,.int k' m=>k == k'&&n == 0&&m == 0
 | .bool a,.bool b=>a == false&&b == false
 | .string s,.string r=>s.size == 0&&r.size == 0
 | .slice none 0 0,.slice none 0 0=>true
 | .pointer none,.pointer none=>true
 | _,_=>false
theorem At{s:ByteArray}(h:s.size=0):s=ByteArray.empty:=by
 cases s with
 | mk d =>
   have h':d.size=0:=h
   have:d = #[]:=Array.eq_empty_of_size_eq_zero h'
   subst this
   rfl
theorem adq{u v:Value}(h:zb u v=true):u=v:=by
 unfold zb at h
 split at h
 ·simp only[Bool.and_eq_true,beq_iff_eq] at h;rw[h.1.1,h.1.2,h.2]
 ·simp only[Bool.and_eq_true,beq_iff_eq] at h;rw[h.1,h.2]
 ·rename_i s r
  simp only[Bool.and_eq_true,beq_iff_eq] at h
  rw[At h.1,At h.2]
 ·rfl
 ·rfl
 ·cases h
theorem uE(k:IntKind):k.min<=0/\0<=k.max:=by cases k<;>decide
theorem aab{u v:Value}(h:zb u v=true)(V:Vl)(hp:Nat->az)(w:World):C.ok V hp w (cell v) v:=by
 unfold zb at h
 split at h
 ·simp only[Bool.and_eq_true,beq_iff_eq] at h
  rw[h.2]
  unfold cell
  simp only
  rw[if_pos (uE _)]
  exact⟨rfl,uE _⟩
 ·simp only[Bool.and_eq_true,beq_iff_eq] at h
  rw[h.2]
  exact rfl
 ·rename_i s r
  simp only[Bool.and_eq_true,beq_iff_eq] at h
  have hs:r.size<=maxLen:=by rw[h.2];exact Nat.zero_le _
  unfold cell
  simp only
  rw[if_pos hs]
  exact⟨rfl,hs⟩
 ·exact⟨rfl,rfl,rfl,rfl⟩
 ·exact⟨rfl,trivial⟩
 ·cases h
def OR:List Value->List Value->Bool
 | [],[]=>true
 | u::us,v::vs=>zb u v&&OR us vs
 | _,_=>false
theorem OS:∀ {us vs:List Value},OR us vs=true->us=vs
 | [],[],_=>rfl
 | u::us,v::vs,h=>by
   have h':(zb u v&&OR us vs)=true:=h
   simp only[Bool.and_eq_true] at h'
   rw[adq h'.1,OS h'.2]
 | [],_::_,h=>by cases h
 | _::_,[],h=>by cases h
theorem JQ(V:Vl)(hp:Nat->az)(w:World):∀ {us vs:List Value},OR us vs=true->bO V hp w (lmap cell vs) vs
 | [],[],_=>cu
 | u::us,v::vs,h=>by
   have h':(zb u v&&OR us vs)=true:=h
   simp only[Bool.and_eq_true] at h'
   exact bu (aab h'.1 V hp w) (JQ V hp w h'.2)
 | [],_::_,h=>by cases h
 | _::_,[],h=>by cases h
def K0(P:Program)(t:TypeId)(size bytes:Nat)(zero:List Value):Bool :=
 match P.info? t with
 | some i=>i.size == size&&i.bytes == bytes&&(match i.zero with|some z=>OR z.cells.toList zero|none=>false)
 | none=>false
def rp(P:Program):List Field->List (Nat×Nat×Bool)->Bool
 | [],[]=>true
 | f::fs,x::xs =>
   f.offset == x.1&&x.2.1 != 0&&(match P.info? f.type with|some i=>i.size == x.2.1|none=>false) &&
    (match P.underlying f.type with|some d=>mX d == x.2.2|none=>false)&&rp P fs xs
 | _,_=>false
def ml(P:Program)(t:TypeId):TK->Bool
 | .int k=>match P.underlying t with|some (.int k')=>k' == k|_=>false
 | .bool=>match P.underlying t with|some .bool=>true|_=>false
 | .str=>match P.underlying t with|some .string=>true|_=>false
 | .sl e es eb dQ=>(match P.underlying t with|some (.slice e')=>e' == e|_=>false)&&es == dQ.size&&K0 P e es eb dQ.lj
 | .st fs=>match P.underlying t with|some (.struct fields)=>rp P fields.toList fs|_=>false
 | .arr len te es n dQ=>(match P.underlying t with|some (.array aeT te')=>aeT == len&&te' == te|_=>false)&&(match P.info? te with|some i=>i.size == es|none=>false) &&
    dQ.flat&&dQ.plain&&n*dQ.size == len*es&&es%dQ.size == 0&&(n != 0&&Nat.ble n 16777216)
 | .sc=>match P.underlying t with|some d=>!mX d|_=>false
def FD (P : Program) : Nat → List Field → List Bool → Bool
  | _, [], [] => true
  | o, f :: fs, b :: bs =>
    f.name != "_" && f.offset == o && (match P.underlying f.type with | some (.int _) => !b | some .bool => b | _ => false) && FD P (o + 1) fs bs
  | _, _, _ => false
def eqB(P:Program)(t:TypeId)(ks:List Bool):Bool :=
 match P.underlying t with
 | some (.struct fs)=>!P.stoodInHeld t&&!P.eqGuardType P.depth t&&FD P 0 fs.toList ks
 | _=>false
def jI:Nat->Ty->List Value
 | 0,_=>[]
 | n+1,e=>e.lj++jI n e
def AM(P:Program)(t:TypeId)(ti:TI):Bool:=(match ti.k with | .arr _ _ _ n dQ=>OR ti.zero (jI n dQ)|_=>true)&&(K0 P t ti.size ti.bytes ti.zero&&ti.zero.length == ti.size&&ml P t ti.k&&(match ti.eq with|some ks=>eqB P t ks|none=>true))
def K9:List (Nat×TI)->cC
 | [],_=>none
 | (k,v)::r,t=>if k=t then some v else K9 r t
def XK(P:Program):List (Nat×TI)->Bool
 | []=>true
 | p::r=>AM P p.1 p.2&&XK P r
def cv(P:Program)(T:cC):Prop:=∀ t ti,T t=some ti->AM P t ti=true
theorem N5{P:Program}:∀ {l:List (Nat×TI)},XK P l=true->cv P (K9 l)
 | [],_=>fun _ _ h=>by cases h
 | (k,v)::r,h=>by
   have h':(AM P k v&&XK P r)=true:=h
   simp only[Bool.and_eq_true] at h'
   intro t ti ht
   unfold K9 at ht
   split at ht
   ·rename_i hk;injection ht with ht;subst hk;subst ht;exact h'.1
   ·exact N5 h'.2 t ti ht
section
variable {P : Program}
theorem MB{t:TypeId}{size bytes:Nat}{zero:List Value}(h:K0 P t size bytes zero=true) :
 ∃ i z,P.info? t=some i/\i.size=size/\i.bytes=bytes/\i.zero=some z/\z.cells=zero.toArray/\∀ V hp w,bO V hp w (lmap cell zero) zero:=by
 unfold K0 at h
 split at h
 ·rename_i i hi
  simp only[Bool.and_eq_true,beq_iff_eq] at h
  obtain⟨⟨h1,h2⟩,h3⟩:=h
  split at h3
  ·rename_i z hz
   exact⟨i,z,hi,h1,h2,hz,by rw[<-OS h3],fun V hp w=>JQ V hp w h3⟩
  ·cases h3
 ·cases h
theorem run_sizeOf{t:TypeId}{i:TypeInfo}(h:P.info? t=some i)(w:World):(sizeOf t).run P w = .ok i.size w:=by
 simp[sizeOf,typeInfo,h]
theorem ot{t:TypeId}{i:TypeInfo}{z:Value}(h:P.info? t=some i)(hz:i.zero=some z)(w:World):(zeroValue t).run P w = .ok z w:=by
 simp[zeroValue,typeInfo,h,hz]
theorem sM{t:TypeId}{d:TypeDesc}(h:P.underlying t=some d)(w:World):(isAgg t).run P w = .ok (mX d) w:=by
 cases d<;>simp[isAgg,run_underlying h,mX]
def TI.agg(ti:TI):Bool:=match ti.k with | .st _=>true | .arr ..=>true|_=>false
theorem hJ{t:TypeId}{ti:TI}(h:AM P t ti=true) :
 (∃ i z,P.info? t=some i/\i.size=ti.size/\i.bytes=ti.bytes/\i.zero=some z/\z.cells=ti.zero.toArray/\∀ V hp w,bO V hp w (lmap cell ti.zero) ti.zero)/\ti.zero.length=ti.size/\ml P t ti.k=true:=by
 unfold AM at h
 simp only[Bool.and_eq_true,beq_iff_eq] at h
 exact⟨MB h.2.1.1.1,h.2.1.1.2,h.2.1.2⟩
theorem N8{t:TypeId}{ti:TI}(h:AM P t ti=true){len te es n:Nat}{dQ:Ty}(hk:ti.k = .arr len te es n dQ) :
 ti.zero=jI n dQ/\P.underlying t=some (.array len te)/\(∃ i,P.info? te=some i/\i.size=es)/\dQ.flat=true/\dQ.plain=true/\n*dQ.size=len*es/\es%dQ.size=0/\n≠0/\n<=16777216:=by
 have oZ:=(hJ h).2.2
 unfold AM at h
 simp only[Bool.and_eq_true,hk] at h
 rw[hk] at oZ
 unfold ml at oZ
 simp only[Bool.and_eq_true,beq_iff_eq,bne_iff_ne,ne_eq,Nat.ble_eq] at oZ
 obtain⟨⟨⟨⟨⟨⟨a1,a2⟩,a3⟩,a4⟩,a5⟩,a6⟩,a7⟩:=oZ
 refine⟨OS h.1,?_,?_,a3,a4,a5,a6,a7⟩
 ·split at a1
  ·rename_i l t' he
   simp only[Bool.and_eq_true,beq_iff_eq] at a1
   rw[he,a1.1,a1.2]
  ·cases a1
 ·split at a2
  ·rename_i i he;exact⟨i,he,by simpa using a2⟩
  ·cases a2
theorem adn{t:TypeId}{ti:TI}(h:AM P t ti=true){ks:List Bool}(hk:ti.eq=some ks):eqB P t ks=true:=by
 unfold AM at h
 simp only[Bool.and_eq_true,hk] at h
 exact h.2.2
theorem VV{t:TypeId}{ti:TI}(h:AM P t ti=true):∃ d,P.underlying t=some d/\mX d=ti.agg:=by
 have hk:=(hJ h).2.2
 unfold ml at hk
 unfold TI.agg
 cases F4:ti.k with
 | int k=>rw[F4] at hk;simp only at hk;split at hk<;>first|(rename_i d _;exact⟨_,‹_›,rfl⟩)|cases hk
 | bool=>rw[F4] at hk;simp only at hk;split at hk<;>first|exact⟨_,‹_›,rfl⟩|cases hk
 | str=>rw[F4] at hk;simp only at hk;split at hk<;>first|exact⟨_,‹_›,rfl⟩|cases hk
 | sl e es eb dQ =>
   rw[F4] at hk;simp only[Bool.and_eq_true] at hk
   obtain⟨⟨h1,_⟩,_⟩:=hk
   split at h1<;>first|exact⟨_,‹_›,rfl⟩|cases h1
 | st fs=>rw[F4] at hk;simp only at hk;split at hk<;>first|exact⟨_,‹_›,rfl⟩|cases hk
 | arr len te es n dQ =>
   rw[F4] at hk;simp only[Bool.and_eq_true] at hk
   obtain⟨⟨⟨⟨⟨⟨h1,_⟩,_⟩,_⟩,_⟩,_⟩,_⟩:=hk
   split at h1<;>first|exact⟨_,‹_›,rfl⟩|cases h1
 | sc =>
   rw[F4] at hk;simp only at hk
   split at hk
   ·rename_i d hd;exact⟨d,hd,by simpa using hk⟩
   ·cases hk
theorem y7{fs:List Field}{xs:List (Nat×Nat×Bool)}(h:rp P fs xs=true):∀ {i:Nat} {x:Nat×Nat×Bool},xs[i]? = some x →
 ∃ f j d,fs[i]? = some f/\f.offset=x.1/\x.2.1≠0/\P.info? f.type=some j/\j.size=x.2.1/\P.underlying f.type=some d/\mX d=x.2.2:=by
 induction fs generalizing xs with
 | nil=>intro i x hx;cases xs with|nil=>simp at hx|cons _ _=>cases h
 | cons f fs ih =>
   intro i x hx
   cases xs with
   | nil=>cases h
   | cons y ys =>
     unfold rp at h
     simp only[Bool.and_eq_true,beq_iff_eq,bne_iff_ne,ne_eq] at h
     obtain⟨⟨⟨⟨h1,h2⟩,h3⟩,h4⟩,h5⟩:=h
     cases i with
     | zero =>
       simp only[List.getElem?_cons_zero,Option.some.injEq] at hx
       subst hx
       split at h3
       ·rename_i j hj
        split at h4
        ·rename_i d hd
         exact⟨f,j,d,rfl,h1,h2,hj,by simpa using h3,hd,by simpa using h4⟩
        ·cases h4
       ·cases h3
     | succ i=>exact ih h5 (by simpa using hx)
theorem rE{t e:TypeId}{es eb:Nat}{dQ:Ty}(h:ml P t (.sl e es eb dQ)=true) :
 P.underlying t=some (.slice e)/\es=dQ.size/\∃ i z,P.info? e=some i/\i.size=dQ.size/\i.bytes=eb/\i.zero=some z/\z.cells=dQ.lj.toArray:=by
 unfold ml at h
 simp only[Bool.and_eq_true,beq_iff_eq] at h
 obtain⟨⟨h1,h2⟩,h3⟩:=h
 split at h1
 ·rename_i e' he
  simp only[beq_iff_eq] at h1
  subst h1
  obtain⟨i,z,k1,k2,k3,k4,k5,_⟩:=MB h3
  exact⟨he,h2,i,z,k1,k2.trans h2,k3,k4,k5⟩
 ·cases h1
theorem JH{t:TypeId}{fs:List (Nat×Nat×Bool)}(h:ml P t (.st fs)=true):∃ fields,P.underlying t=some (.struct fields)/\rp P fields.toList fs=true:=by
 unfold ml at h
 simp only at h
 split at h
 ·exact⟨_,‹_›,h⟩
 ·cases h
theorem UJ{t:TypeId}{k:IntKind}(h:ml P t (.int k)=true):P.underlying t=some (.int k):=by
 unfold ml at h
 simp only at h
 split at h
 ·rename_i k' hk;simp only[beq_iff_eq] at h;subst h;exact hk
 ·cases h
theorem nD(b o j:Nat):(⟨b,o,none⟩:Addr).add j=⟨b,o+j,none⟩:=by
 unfold Addr.add;split
 ·rename_i h;subst h;rfl
 ·rfl
theorem SV{t:TypeId}{ti:TI}(h:AM P t ti=true)(w:World)(b o:Nat)(vs:List Value)(hl:vs.length=ti.size)(hc:∀(j:Nat) v,vs[j]? = some v->w.cell? ⟨b,o+j,none⟩=some v) :
 (ti.agg=true->(Instr.loadAt t (.pointer (some ⟨b,o,none⟩))).run P w = .ok (.agg vs.toArray) w) ∧
 (ti.agg=false->∀ v,vs=[v]->(Instr.loadAt t (.pointer (some ⟨b,o,none⟩))).run P w = .ok v w):=by
 obtain⟨⟨i,z,h1,h2,_⟩,_,_⟩:=hJ h
 obtain⟨d,hd,ha⟩:=VV h
 have hs:=run_sizeOf h1
 have hg:=sM hd
 constructor
 ·intro WK
  rw[WK] at ha
  have hld:=run_loadCells_list (P:=P) w ⟨b,o,none⟩ vs (fun j v hv=>by rw[nD];exact hc j v hv)
  rw[hl,<-h2] at hld
  simp[Instr.loadAt,Instr.sureAddr,loadVar,hg,ha,hs,hld]
 ·intro WK v hv
  rw[WK] at ha
  have h0:=hc 0 v (by rw[hv];rfl)
  simp only[Nat.add_zero] at h0
  simp[Instr.loadAt,Instr.sureAddr,loadVar,hg,ha,h0]
theorem xC{t:TypeId}{ti:TI}(h:AM P t ti=true)(w:World)(b o:Nat)(cur:Array Value)(el:TypeId)(x:Value)(hx:x.cells.size=ti.size)(hg:w.heap[b]? = some (.cells cur el (0,0)))
 (WS:o+x.cells.size<=cur.size) (h1:∀ v∈x.cells.toList,v.oneCell'=true) :
 (Instr.storeAt t (.pointer (some ⟨b,o,none⟩)) x).run P w = .ok () (w.setRow b (cur.toList.take o++x.cells.toList++cur.toList.drop (o+x.cells.toList.length)).toArray):=by
 obtain⟨⟨i,z,h2,h3,_⟩,_,_⟩:=hJ h
 have iw:=run_storeCells_at P b o el x.cells.toList 0 cur w hg (by simpa using WS) h1
 simp only[Nat.add_zero] at iw
 have bo:¬(x.cells.size≠i.size):=by rw[hx,h3];simp
 have aeF:x.cells.size=i.size:=by rw[hx,h3]
 simp only[Instr.storeAt,Instr.sureAddr,storeVar,Sem.run_bind,Sem.run_pure,Result.andThen_ok,run_sizeOf h2,aeF,ne_eq,not_true_eq_false,if_false]
 first
  | exact iw
  | (simp only[Sem.run_bind,Sem.run_pure,Result.andThen_ok];exact iw)
  | (simp[iw])
end
end Go.SX
/- New names, new blocks: what an operation that writes nothing leaves. No condition. -/
namespace Go.SX
open Go.RowKit
set_option linter.unusedVariables false
def ey(hp:Nat->az)(nx:Nat)(es:List az)(n:Nat):az:=if n<nx then hp n else match es[n-nx]? with|some e=>e|none=>hp n
theorem BB(hp:Nat->az)(nx:Nat):ey hp nx []=hp:=by
 funext n;unfold ey;split<;>rfl
theorem Ut{hp:Nat->az}{nx:Nat}{es:List az}(hd:∀ j,j<es.length->hp (nx+j) = .dead){n:Nat}(hl:(hp n).live=true):ey hp nx es n=hp n:=by
 unfold ey
 split
 ·rfl
 ·rename_i h
  split
  ·rename_i e he
   have aT:=(List.getElem?_eq_some_iff.1 he).1
   have:=hd (n-nx) aT
   rw[show nx+(n-nx)=n by omega] at this
   rw[this] at hl;cases hl
  ·rfl
theorem sx{hp:Nat->az}{nx:Nat}{es:List az}{j:Nat}{e:az}(h:es[j]? = some e):ey hp nx es (nx+j)=e:=by
 unfold ey
 rw[if_neg (by omega),show nx+j-nx=j by omega,h]
theorem iv(hp:Nat->az)(nx:Nat)(es:List az)(n:Nat):(∃ j e,n=nx+j/\es[j]? = some e/\ey hp nx es n=e)\/((n<nx\/nx+es.length<=n)/\ey hp nx es n=hp n):=by
 by_cases h:n<nx
 ·exact .inr ⟨.inl h,by unfold ey;rw[if_pos h]⟩
 ·cases he:es[n-nx]? with
  | some e=>exact .inl ⟨n-nx,e,by omega,he,by unfold ey;rw[if_neg h,he]⟩
  | none =>
    have:=List.getElem?_eq_none_iff.1 he
    exact .inr ⟨.inr (by omega),by unfold ey;rw[if_neg h,he]⟩
def Vl.ext(V:Vl)(nx:Nat)(bs:List (Option Nat))(Z:Nat->Prop):Vl where
 aF n:=if nx<=n/\n<nx+bs.length then ((bs[n-nx]?).getD none).getD 0 else V.aF n
 has n:=if nx<=n/\n<nx+bs.length then ((bs[n-nx]?).getD none).isSome=true else V.has n
 Z0:=V.Z0
 Z1 b:=V.Z1 b\/Z b
section
variable {V : Vl} {nx : Nat} {bs : List (Option Nat)} {Z : Nat → Prop}
theorem Vl.rT{n:Nat}(h:n<nx\/nx+bs.length<=n):(V.ext nx bs Z).aF n=V.aF n:=by
 show (if _ then _ else _)=_;rw[if_neg (by omega)]
theorem Vl.nH{n:Nat}(h:n<nx\/nx+bs.length<=n):(V.ext nx bs Z).has n↔V.has n:=by
 show (if _ then _ else _)↔_;rw[if_neg (by omega)]
theorem Vl.nG{j b:Nat}(h:bs[j]? = some (some b)):(V.ext nx bs Z).aF (nx+j)=b:=by
 have hj:=(List.getElem?_eq_some_iff.1 h).1
 show (if _ then _ else _)=_;rw[if_pos (by omega),show nx+j-nx=j by omega,h];rfl
theorem Vl.lD{j:Nat}{b:Option Nat}(h:bs[j]? = some b):(V.ext nx bs Z).has (nx+j)↔b.isSome=true:=by
 have hj:=(List.getElem?_eq_some_iff.1 h).1
 show (if _ then _ else _)↔_;rw[if_pos (by omega),show nx+j-nx=j by omega,h];rfl
theorem Vl.X_{fr:Bool}{b:Nat}:(V.ext nx bs Z).Z fr b↔V.Z fr b\/Z b:=by
 unfold Vl.Z Vl.ext
 constructor
 ·rintro ((h|h)|h)
  ·exact .inl (.inl h)
  ·exact .inr h
  ·exact .inl (.inr h)
 ·rintro ((h|h)|h)
  ·exact .inl (.inl h)
  ·exact .inr h
  ·exact .inl (.inr h)
end
section
variable {base : Nat} {M : LM} {w0 : World} {V : Vl} {hp : Nat → az} {w w' : World}
theorem Mem.qu(m:Mem base M w0 V hp w){fr:Bool}{b:Nat}(h:V.Z fr b):b<w.heap.size:=by
 rcases h with h|⟨_,h⟩
 ·exact (m.z1 b h).2
 ·exact Nat.lt_of_lt_of_le (m.z0 b h).1 m.kept.size
theorem Kept.trans(h:Kept base M w0 w)(k:Kept w.heap.size wv w w'):Kept base M w0 w' where
 os:=k.os.trans h.os
 tape:=k.tape.trans h.tape
 output:=k.output.trans h.output
 size:=Nat.le_trans h.size k.size
 block b hb hm:=(k.block b (Nat.lt_of_lt_of_le hb h.size) (fun x=>x)).trans (h.block b hb hm)
 shape b ak el hb hm hv:=by
  obtain⟨ba,dC,h1,h2⟩:=h.shape b ak el hb hm hv
  exact⟨ba,dC,(k.block b (Nat.lt_of_lt_of_le hb h.size) (fun x=>x)).trans h1,h2⟩
theorem VX.uu(m:Mem base M w0 V hp w)(k:Kept w.heap.size wv w w'){nx:Nat}{es:List az}{bs:List (Option Nat)}{Z:Nat->Prop}(hlen:bs.length=es.length)
 (hd:∀ j,j<es.length->hp (nx+j) = .dead):VX V hp w (V.ext nx bs Z) (ey hp nx es) w' where
 nm n hl:=by
  have ho:n<nx\/nx+bs.length<=n:=by
   rcases Nat.lt_or_ge n nx with h|h
   ·exact .inl h
   ·rcases Nat.lt_or_ge n (nx+bs.length) with h'|h'
    ·have:=hd (n-nx) (by omega)
     rw[show nx+(n-nx)=n by omega] at this
     rw[this] at hl;cases hl
    ·exact .inr h'
  exact⟨Vl.rT ho,Vl.nH ho,Ut hd hl⟩
 z0 b h:=h
 z1 b h:=.inl h
 TH b h:=k.block b (m.qu h) (fun x=>x)
 TG n hl hh:=k.block _ (m.own n hl hh).2.1 (fun x=>x)
theorem MM{e:az}(h:¬e.hD):e.gE=[]:=by
 cases e with
 | dead=>rfl
 | bx cs=>rfl
 | row fr e xs =>
   cases fr with
   | true=>rfl
   | false =>
     have h':¬(e.flat||e.bQ)=true:=h
     show (if e.bQ then aX e xs else [])=[]
     rw[if_neg (fun hg=>h' (by rw[hg,Bool.or_true]))]
theorem Mem.grow(m:Mem base M w0 V hp w)(k:Kept w.heap.size wv w w'){nx:Nat}{es:List az}{bs:List (Option Nat)}{Z:Nat->Prop}(hlen:bs.length=es.length)
 (hd:∀ j,j<es.length->hp (nx+j) = .dead) (cR:(bs.filterMap id).Nodup) (hb:∀ b,some b∈bs->w.heap.size<=b/\b<w'.heap.size/\¬Z b) (hZ:∀ b,Z b->w.heap.size<=b/\b<w'.heap.size)
 (mz:∀(j:Nat) cs,es[j]? = some (.bx cs)->∃ b,bs[j]? = some (some b))
 (qw:∀(j:Nat) e,es[j]? = some e->e.ok (V.ext nx bs Z) (ey hp nx es) w' (nx+j)) (qz:∀ e∈es,¬e.hD) :
 Mem base M w0 (V.ext nx bs Z) (ey hp nx es) w':=by
 have x:=VX.uu m k (Z:=Z) hlen hd
 have cD:w.heap.size<=w'.heap.size:=k.size
 have iN:∀(n:Nat),(ey hp nx es n).live=true->(V.ext nx bs Z).has n->(∃ j b,n=nx+j/\bs[j]? = some (some b)/\(V.ext nx bs Z).aF n=b/\w.heap.size<=b/\b<w'.heap.size/\¬Z b) ∨
  ((n<nx\/nx+es.length<=n)/\(hp n).live=true/\V.has n/\(V.ext nx bs Z).aF n=V.aF n):=by
  intro n hl hh
  rcases iv hp nx es n with ⟨j,e,rfl,he,h3⟩|⟨h1,h2⟩
  ·have hj:=(List.getElem?_eq_some_iff.1 he).1
   have Ug:bs[j]? = some bs[j]:=List.getElem?_eq_getElem (by omega)
   rw[Vl.lD Ug] at hh
   cases fO:bs[j] with
   | none=>rw[fO] at hh;cases hh
   | some b =>
     rw[fO] at Ug
     exact .inl ⟨j,b,rfl,Ug,Vl.nG Ug,hb b (List.mem_of_getElem? Ug)⟩
  ·rw[h2] at hl
   rw[Vl.nH (by omega)] at hh
   exact .inr ⟨h1,hl,hh,Vl.rT (by omega)⟩
 refine⟨fun n=>?_,fun n cs h=>?_,fun n hl hh=>?_,fun n e xs h hh=>?_,fun n n' hl eo hh nw he=>?_,fun b h=>m.z0 b h,fun b h=>?_,m.kept.trans k,fun n hl hh=>?_,fun b hb=>?_,fun n hh i hi=>?_⟩
 ·rcases iv hp nx es n with ⟨j,e,rfl,he,h3⟩|⟨h1,h2⟩
  ·rw[h3];exact qw j e he
  ·cases hl:(hp n).live with
   | true=>exact az.kt x (m.cE n) (fun cs h=>m.box n cs h) hl
   | false =>
     rw[h2]
     cases hn:hp n with
     | dead=>trivial
     | bx cs=>rw[hn] at hl;cases hl
     | row fr e xs=>rw[hn] at hl;cases hl
 ·rcases iv hp nx es n with ⟨j,e,rfl,he,h3⟩|⟨h1,h2⟩
  ·rw[h3] at h;subst h
   obtain⟨b,fO⟩:=mz j cs he
   rw[Vl.lD fO];rfl
  ·rw[h2] at h
   rw[Vl.nH (by omega)]
   exact m.box n cs h
 ·rcases iN n hl hh with ⟨j,b,rfl,h1,h2,h3,h4,h5⟩|⟨h0,h1,h2,h3⟩
  ·rw[h2]
   refine⟨.inl (Nat.le_trans m.kept.size h3),h4,fun h=>?_⟩
   rcases Vl.X_.1 h with h|h
   ·have:=m.qu h;omega
   ·exact h5 h
  ·rw[h3]
   obtain⟨k1,k2,k3⟩:=m.own n h1 h2
   refine⟨k1,by omega,fun h=>?_⟩
   rcases Vl.X_.1 h with h|h
   ·exact k3 h
   ·have:=(hZ _ h).1;omega
 ·rcases iN n (by rw[h];rfl) hh with ⟨j,b,rfl,h1,h2,h3,h4,h5⟩|⟨h0,h1,h2,h3⟩
  ·rw[h2];exact Nat.le_trans m.kept.size h3
  ·rw[h3]
   rcases iv hp nx es n with ⟨j,e',rfl,fG,_⟩|⟨_,h4⟩
   ·have:=(List.getElem?_eq_some_iff.1 fG).1;omega
   ·exact m.fY n e xs (by rw[<-h4];exact h) h2
 ·rcases iN n hl hh with ⟨j,b,rfl,h1,h2,h3,h4,h5⟩|⟨h0,h1,h2,h3⟩
  ·rcases iN n' eo nw with ⟨j',b',rfl,g1,g2,g3,g4,g5⟩|⟨g0,g1,g2,g3⟩
   ·rw[h2,g2] at he
    subst he
    by_cases hjj:j=j'
    ·rw[hjj]
    ·exfalso
     have et:bs.Pairwise (fun x y=>∀ b,x=some b->y=some b->False):=by
      have h:=cR
      rw[List.Nodup,List.pairwise_filterMap] at h
      refine h.imp fun {x y} hxy b hx hy=>?_
      exact hxy b hx b hy rfl
     have Uo:=(List.getElem?_eq_some_iff.1 h1).1
     have Jc:=(List.getElem?_eq_some_iff.1 g1).1
     rw[List.pairwise_iff_getElem] at et
     rw[List.getElem?_eq_getElem Uo] at h1
     rw[List.getElem?_eq_getElem Jc] at g1
     simp only[Option.some.injEq] at h1 g1
     rcases Nat.lt_or_gt_of_ne hjj with aT|aT
     ·exact et j j' Uo Jc aT b h1 g1
     ·exact et j' j Jc Uo aT b g1 h1
   ·rw[h2,g3] at he
    have:=(m.own n' g1 g2).2.1
    omega
  ·rcases iN n' eo nw with ⟨j',b',rfl,g1,g2,g3,g4,g5⟩|⟨g0,g1,g2,g3⟩
   ·rw[h3,g2] at he
    have:=(m.own n h1 h2).2.1
    omega
   ·rw[h3,g3] at he
    exact m.gi n n' h1 g1 h2 g2 he
 ·rcases h with h|h
  ·exact⟨(m.z1 b h).1,by have:=(m.z1 b h).2;omega⟩
  ·exact⟨Nat.le_trans m.kept.size (hZ b h).1,(hZ b h).2⟩
 ·rcases iv hp nx es n with ⟨j,e,rfl,he,h3⟩|⟨h1,h2⟩
  ·rw[h3] at hl
   exact absurd hl (qz e (List.mem_of_getElem? he))
  ·rw[h2] at hl
   rw[Vl.nH (by omega)] at hh
   rw[Vl.rT (by omega)]
   exact m.jO n hl hh
 ·obtain⟨q1,q2⟩:=m.oh b hb
  rcases iv hp nx es 0 with ⟨j,e,h0,he,h3⟩|⟨h1,h2⟩
  ·have hj:=(List.getElem?_eq_some_iff.1 he).1
   have:=hd j hj
   rw[<-h0] at this
   rw[this] at q1
   cases q1
  ·rw[h2]
   exact⟨q1,by rw[Vl.rT (by omega)];exact q2⟩
 ·rcases iv hp nx es n with ⟨j,e,rfl,he,h3⟩|⟨h1,h2⟩
  ·rw[h3,MM (qz e (List.mem_of_getElem? he))] at hi
   cases hi
  ·rw[h2] at hi
   rw[Vl.nH (by omega)] at hh
   exact m.gE n hh i hi
structure Good (base:Nat) (M:LM) (w0:World) (V:Vl) (hp:Nat->az) (w:World) (nx:Nat) (res:S) (es:List az) (hy:Option Prop) (v:Value) (w':World) (V':Vl):Prop where
 mem:Mem base M w0 V' (ey hp nx es) w'
 vx:VX V hp w V' (ey hp nx es) w'
 res:S.ok V' (ey hp nx es) w' res v
 hy:∀ p,hy=some p->p
theorem VX.refl(V:Vl)(hp:Nat->az)(w:World):VX V hp w V hp w:=⟨fun _ _=>⟨rfl,Iff.rfl,rfl⟩,fun _ h=>h,fun _ h=>h,fun _ _=>rfl,fun _ _ _=>rfl⟩
theorem fo(m:Mem base M w0 V hp w){nx:Nat}{s:S}{v:Value}(h:S.ok V hp w s v):Good base M w0 V hp w nx s [] none v w V:=by
 refine⟨?_,?_,?_,fun p h=>by cases h⟩
 ·rw[BB];exact m
 ·rw[BB];exact VX.refl _ _ _
 ·rw[BB];exact h
theorem heap_drew(w:World):w.drew.heap=w.heap:=rfl
theorem R9(w:World)(o:Obj):Kept w.heap.size wv w (w.alloc o) where
 os:=rfl
 tape:=rfl
 output:=rfl
 size:=by simp
 block b hb _:=by show (w.heap.push o)[b]? = _;rw[Array.getElem?_push,if_neg (by omega)]
 shape _ _ _ _ h _:=h.elim
theorem Ek(w:World)(o:Obj):(w.alloc o).heap[w.heap.size]? = some o:=by
 show (w.heap.push o)[w.heap.size]? = _
 rw[Array.getElem?_push,if_pos rfl]
theorem pV(m:Mem base M w0 V hp w){nx:Nat}(hd:hp nx = .dead)(ak:Array Value)(el:TypeId)(e:az)(res:S)(v:Value)(qz:¬e.hD)
 (he:∀ V' aJ w',VX V hp w V' aJ w'->V'.has nx->V'.aF nx=w.heap.size->aJ nx=e->w'.heap[w.heap.size]? = some (.cells ak el (0,0))->e.ok V' aJ w' nx/\S.ok V' aJ w' res v) :
 ∃ V',Good base M w0 V hp w nx res [e] none v (w.alloc (.cells ak el)) V':=by
 have k:=R9 w (.cells ak el)
 have dR:∀ j,j<[e].length->hp (nx+j) = .dead:=fun j hj=>by
  have:j=0:=by simp at hj;omega
  subst this;exact hd
 have x:=VX.uu m k (nx:=nx) (es:=[e]) (bs:=[some w.heap.size]) (Z:=fun _=>False) rfl dR
 have h1:(V.ext nx [some w.heap.size] (fun _=>False)).has nx:=by
  have:=Vl.lD (V:=V) (nx:=nx) (bs:=[some w.heap.size]) (Z:=fun _=>False) (j:=0) (b:=some w.heap.size) rfl
  exact this.2 rfl
 have h2:(V.ext nx [some w.heap.size] (fun _=>False)).aF nx=w.heap.size:=Vl.nG (nx:=nx) (j:=0) rfl
 have h3:ey hp nx [e] nx=e:=sx (nx:=nx) (j:=0) rfl
 obtain⟨g1,g2⟩:=he _ _ _ x h1 h2 h3 (Ek w _)
 refine⟨_,⟨m.grow k rfl dR (by simp) (fun b hb=>?_) (fun b hb=>hb.elim) (fun j cs hj=>?_) (fun j e' hj=>?_) (fun e' fG=>by rw[List.mem_singleton.1 fG];exact qz),x,g2,fun p h=>by cases h⟩⟩
 ·simp at hb;subst hb;exact⟨Nat.le_refl _,by simp,fun h=>h⟩
 ·have:j=0:=by have:=(List.getElem?_eq_some_iff.1 hj).1;simp at this;omega
  subst this;exact⟨_,rfl⟩
 ·have:j=0:=by have:=(List.getElem?_eq_some_iff.1 hj).1;simp at this;omega
  subst this
  simp at hj;subst hj
  exact g1
end
end Go.SX
/- Arithmetic and choices: the symbolic value is the run's. No condition. -/
namespace Go.SX
open Go.RowKit
set_option linter.unusedVariables false
theorem gN(k:IntKind)(n:Int):k.min<=k.wrap n/\k.wrap n<=k.max:=by
 cases k<;>simp only[IntKind.wrap,IntKind.min,IntKind.max,IntKind.signed,IntKind.bits]<;>simp<;>(try split)<;>omega
section
variable {P : Program} {V : Vl} {hp : Nat → az} {w : World}
theorem ok_int{k:IntKind}{n:Int}{v:Value}(h:C.ok V hp w (.val (.int k n)) v):v = .int k n/\k.min<=n/\n<=k.max:=h
theorem HG{b:Bool}{v:Value}(h:C.ok V hp w (.val (.bool b)) v):v = .bool b:=h.1
theorem kJ{k:IntKind}{n:Int}(h:k.min<=n/\n<=k.max):C.ok V hp w (.val (.int k n)) (.int k n):=⟨rfl,h⟩
theorem ni(b:Bool):C.ok V hp w (.val (.bool b)) (.bool b):=⟨rfl,trivial⟩
theorem SZ{k:IntKind}{a b:Int}(ha:k.min<=a/\a<=k.max):k.min<=a.tmod b/\a.tmod b<=k.max:=by
 have aeE:k.min<=0:=(uE k).1
 have WW:0<=k.max:=(uE k).2
 rcases Int.le_total 0 a with h|h
 ·have h1:=Int.tmod_nonneg b h
  have h2:a.tmod b<=a:=by
   have:=Int.natAbs_tmod a b
   have h3:(a.tmod b).natAbs<=a.natAbs:=by rw[this];exact Nat.mod_le _ _
   omega
  omega
 ·have h2:(a.tmod b).natAbs<=a.natAbs:=by rw[Int.natAbs_tmod];exact Nat.mod_le _ _
  have h1:a.tmod b<=0:=by
   have:=Int.tmod_nonneg b (show 0 ≤ -a by omega)
   rw[Int.neg_tmod] at this
   omega
  omega
theorem qo(op:BinOp)(t:TypeId)(x y:Operand)(k k':IntKind)(a b:Int):(eqGuard op t x y (.int k a) (.int k' b)).run P w = .ok () w:=by
 unfold eqGuard
 simp only[Sem.run_ite]
 split<;>rfl
theorem Qe(a b:Int):(a == b)=decide (a=b):=by rw[Bool.eq_iff_iff];simp
theorem W7{op:BinOp}{k:IntKind}{a b:Int}{p:Option Prop}{c:C}(h:W6 op k a b=some (p,c))(aJ:∀ q,p=some q->q)(ha:k.min<=a/\a<=k.max)(t:TypeId) :
 ∃ v,(binOp op t (.int k a) (.int k b)).run P w = .ok v w/\C.ok V hp w c v:=by
 cases op<;>simp only[W6,Option.some.injEq,Prod.mk.injEq,reduceCtorEq] at h<;>obtain⟨rfl,rfl⟩:=h
 case add=>exact⟨_,by simp[binOp,Op.intArith],kJ (gN _ _)⟩
 case sub=>exact⟨_,by simp[binOp,Op.intArith],kJ (gN _ _)⟩
 case mul=>exact⟨_,by simp[binOp,Op.intArith],kJ (gN _ _)⟩
 case quo=>exact⟨_,by simp[binOp,Op.intDiv,aJ _ rfl],kJ (gN _ _)⟩
 case rem=>exact⟨_,by simp[binOp,Op.intDiv,aJ _ rfl],kJ (SZ ha)⟩
 case and=>exact⟨_,by simp[binOp,Op.intBits,zl],kJ (gN _ _)⟩
 case or=>exact⟨_,by simp[binOp,Op.intBits,ior],kJ (gN _ _)⟩
 case xor=>exact⟨_,by simp[binOp,Op.intBits,ab2],kJ (gN _ _)⟩
 case eql=>exact⟨.bool (decide (a=b)),by simp[binOp,Op.intCmp,Qe],ni _⟩
 case neq=>exact⟨.bool (!decide (a=b)),by simp[binOp,Op.intCmp,bne,Qe],ni _⟩
 case lss=>exact⟨_,by simp[binOp,Op.intCmp],ni _⟩
 case leq=>exact⟨_,by simp[binOp,Op.intCmp],ni _⟩
 case gtr=>exact⟨_,by simp[binOp,Op.intCmp],ni _⟩
 case geq=>exact⟨_,by simp[binOp,Op.intCmp],ni _⟩
def gX(P:Program)(V:Vl)(hp:Nat->az)(w:World)(r:QR)(e:Sem Value):Prop:=r.new=[]/\r.hy=none/\∃ v,e.run P w = .ok v w/\S.ok V hp w r.res v
theorem Xs{op:BinOp}{x y:C}{r:QR}{u v:Value}(h:Xr op x y=some r)(ep:∀ p,r.ob=some p->p)(hx:C.ok V hp w x u)(hy:C.ok V hp w y v)(t:TypeId)(ox oy:Operand) :
 gX P V hp w r (do eqGuard op t ox oy u v;binOp op t u v):=by
 unfold Xr at h
 split at h
 ·injection h with h;subst h
  obtain⟨rfl,ha⟩:=ok_int hx
  obtain⟨rfl,hb⟩:=ok_int hy
  have h0:=ep _ rfl
  rename_i k a k' n
  refine⟨rfl,rfl,.int k (dq k a n),?_,⟨rfl,gN _ _⟩⟩
  simp[qo,binOp,Op.shift,dq,show ¬(n<(0:Int)) from by omega]
 ·injection h with h;subst h
  obtain⟨rfl,ha⟩:=ok_int hx
  obtain⟨rfl,hb⟩:=ok_int hy
  have h0:=ep _ rfl
  rename_i k a k' n
  refine⟨rfl,rfl,.int k (lP k a n),?_,⟨rfl,?_⟩⟩
  ·simp[qo,binOp,Op.shift,lP,show ¬(n<(0:Int)) from by omega]
  ·have aeE:=(uE k).1
   have WW:=(uE k).2
   unfold lP
   have hX:(0:Int)<2^min n.toNat k.bits:=Int.pow_pos (by decide)
   generalize (2:Int)^min n.toNat k.bits=d at hX
   rw[Int.fdiv_eq_ediv_of_nonneg _ (by omega)]
   constructor
   ·have h1:k.min<=a:=ha.1
    rcases Int.le_total 0 a with h|h
    ·have:=Int.ediv_nonneg h (show (0:Int)<=d by omega);omega
    ·have h2:a<=a/d:=by
      have h3:=Int.le_ediv_of_mul_le (a:=a) (b:=a) (c:=d) hX (by
       have:a*d<=a*1:=Int.mul_le_mul_of_nonpos_left h (show (1:Int)<=d by omega)
       omega)
      exact h3
     omega
   ·rcases Int.le_total 0 a with h|h
    ·have:=Int.ediv_le_self d h;omega
    ·have:a/d<=0:=Int.ediv_le_of_le_mul hX (by omega)
     omega
 ·split at h
  ·rename_i op' k a k' b hk
   subst hk
   split at h
   ·rename_i p c hi
    injection h with h;subst h
    obtain⟨rfl,ha⟩:=ok_int hx
    obtain⟨rfl,hb⟩:=ok_int hy
    obtain⟨v,h1,h2⟩:=W7 (P:=P) (V:=V) (hp:=hp) (w:=w) hi ep ha t
    exact⟨rfl,rfl,v,by simp only[Sem.run_bind,qo,Result.andThen_ok];exact h1,h2⟩
   ·cases h
  ·cases h
 ·cases h
theorem ZH{op:UnOp}{x:C}{r:QR}{u:Value}(h:qun op x=some r)(hx:C.ok V hp w x u):gX P V hp w r (Op.unary op u):=by
 unfold qun at h
 split at h<;>first|(cases h;done)|(injection h with h;subst h)
 ·rw[HG hx];exact⟨rfl,rfl,_,by unfold Op.unary;rfl,⟨rfl,trivial⟩⟩
 ·rw[show u=_ from hx];exact⟨rfl,rfl,.bool false,by simp[Op.unary],rfl⟩
 ·rw[show u=_ from hx];exact⟨rfl,rfl,.bool true,by simp[Op.unary],rfl⟩
 ·obtain⟨rfl,ha⟩:=ok_int hx
  exact⟨rfl,rfl,_,by unfold Op.unary Op.intArith;rfl,⟨rfl,gN _ _⟩⟩
theorem kF{c:C}{b:Bool}{v:Value}(h:sj c=some b)(hc:C.ok V hp w c v):v = .bool b:=by
 unfold sj at h
 split at h<;>first|(injection h with h;subst h;first|exact hc.1|exact hc)|cases h
theorem VB{c a b s:S}{vc va vb:Value}(h:K6 c a b=some s)(hc:S.ok V hp w c vc)(ha:S.ok V hp w a va)(hb:S.ok V hp w b vb) :
 ∃ p,asBool vc=pure p/\S.ok V hp w s (if p then va else vb):=by
 unfold K6 at h
 split at h
 ·injection h with h;subst h
  exact⟨true,by rw[show vc=_ from hc];rfl,by simpa using ha⟩
 ·injection h with h;subst h
  exact⟨false,by rw[show vc=_ from hc];rfl,by simpa using hb⟩
 ·split at h
  ·rename_i p k x k' y hk
   subst hk
   injection h with h;subst h
   obtain⟨e1,h1⟩:=ok_int (V:=V) (hp:=hp) (w:=w) ha
   obtain⟨e2,h2⟩:=ok_int (V:=V) (hp:=hp) (w:=w) hb
   refine⟨p,by rw[HG (V:=V) (hp:=hp) (w:=w) hc];rfl,?_⟩
   subst e1;subst e2
   cases p
   ·exact⟨rfl,h2⟩
   ·exact⟨rfl,h1⟩
  ·cases h
 ·rename_i p x y _
  split at h
  ·rename_i a' b' h1 h2
   injection h with h;subst h
   refine⟨p,by rw[HG (V:=V) (hp:=hp) (w:=w) hc];rfl,?_⟩
   have e1:=kF (V:=V) (hp:=hp) (w:=w) h1 ha
   have e2:=kF (V:=V) (hp:=hp) (w:=w) h2 hb
   subst e1;subst e2
   cases p
   ·exact⟨rfl,trivial⟩
   ·exact⟨rfl,trivial⟩
  ·cases h
 ·cases h
end
end Go.SX
/- Loads, addresses, slices, composites. No condition. -/
namespace Go.SX
open Go.RowKit
set_option linter.unusedVariables false
section
variable {P : Program} {T : cC} {V : Vl} {hp lk : Nat → az} {w : World}
theorem xU{α:Type}{xs:List α}{i:Nat}(d:α)(h:i<xs.length):xs.getD i d=xs[i]:=by simp[List.getD,h]
theorem zu(hT:cv P T){t:TypeId}{n:Nat}{cs:List C}{s:S}(hn:zR T t=some n)(aJ:K3 T t cs=some s)(hlen:cs.length=n){b o:Nat}{vs:List Value}(ho:bO V hp w cs vs)
 (hc:∀(j:Nat) v,vs[j]? = some v->w.cell? ⟨b,o+j,none⟩=some v) :
 ∃ v,(Instr.loadAt t (.pointer (some ⟨b,o,none⟩))).run P w = .ok v w/\S.ok V hp w s v:=by
 unfold zR at hn
 unfold K3 at aJ
 cases ht:T t with
 | none=>rw[ht] at hn;cases hn
 | some ti =>
   rw[ht] at hn aJ
   have hb:=hT t ti ht
   simp only[omap,Option.some.injEq] at hn
   obtain⟨h1,h2⟩:=SV hb w b o vs (by rw[<-ho.1,hlen,hn]) hc
   split at aJ
   ·rename_i fs n' heq
    simp only[Option.some.injEq] at heq
    split at aJ
    ·injection aJ with aJ;subst aJ
     exact⟨_,h1 (by subst heq;rfl),vs.toArray,rfl,by simpa using ho⟩
    ·cases aJ
   ·cases aJ
   ·rename_i ti' lu hna heq
    simp only[Option.some.injEq] at heq
    subst heq
    have Ja:ti.agg=false:=by
     unfold TI.agg
     split
     ·rename_i fs hk
      exact (lu fs ti.size ti.bytes ti.zero ti.ty ti.eq (by cases ti;simp only at hk;subst hk;rfl)).elim
     ·rename_i q1 q2 q3 q4 q5 hk
      exact (hna q1 q2 q3 q4 q5 ti.size ti.bytes ti.zero ti.ty ti.eq (by cases ti;simp only at hk;subst hk;rfl)).elim
     ·rfl
    split at aJ
    ·injection aJ with aJ;subst aJ
     obtain⟨v,cI,rfl,h3,h4⟩:=df ho
     have:cI=[]:=by have:=h4.1;simp at this;exact List.length_eq_zero_iff.1 this.symm
     subst this
     exact⟨v,h2 Ja v rfl,h3⟩
    ·cases aJ
   ·rename_i heq;cases heq
theorem r8{cs r:List C}{off n:Nat}(h:partOf cs off n=some r):r=(cs.drop off).take n/\r.length=n:=by
 unfold partOf at h
 simp only[mH,mG,dz] at h
 split at h
 ·injection h with h;subst h;exact⟨rfl,by assumption⟩
 ·cases h
theorem NY{n i:Nat}{fr:Bool}{e:Ty}{xs:List e.den}(he:(az.row fr e xs).ok V hp w n)(hh:V.has n)(hi:i<xs.length) :
 ∃ es,es.length=e.size/\(∀(j:Nat) v,es[j]? = some v->w.cell? ⟨V.aF n,i*e.size+j,none⟩=some v)/\aI (V.Z fr) w e es (xs.getD i e.gh):=by
 rcases he with ⟨h1,_⟩|⟨_,ak,el,h2,h3,h4⟩
 ·exact absurd hh h1
 ·obtain⟨es,h5,h6,h7⟩:=h4 i hi
  refine⟨es,h5,fun j v hv=>?_,by rw[xU _ hi];exact h7⟩
  simp only[World.cell?,h2]
  exact h6 j v hv
theorem JD(hT:cv P T)(hl:kN V hp lk w){t:TypeId}{p:C}{r:QR}{v:Value}(h:GG T lk t p=some r)(hv:C.ok V hp w p v):gX P V hp w r (Instr.loadAt t v):=by
 unfold GG at h
 cases hn:zR T t with
 | none=>rw[hn] at h;cases h
 | some n =>
   rw[hn] at h
   simp only at h
   generalize fA:yK lk n p=cs at h
   cases cs with
   | none=>cases h
   | some cs =>
     simp only[fv] at h
     cases hs:K3 T t cs with
     | none=>rw[hs] at h;cases h
     | some s =>
       rw[hs] at h
       simp only[Option.map_some,Option.some.injEq] at h
       subst h
       unfold yK at fA
       refine⟨rfl,rfl,?_⟩
       cases p with
       | at_ fr ty d off =>
         obtain⟨h1,h2⟩:=r8 fA
         obtain⟨b,o,rfl,hz,es,h3,h4,h5⟩:=hv
         have ho:=nh (ng (sG (V:=V) (hp:=hp) fr ty h5) off) n
         rw[<-h1] at ho
         exact zu hT hn hs h2 ho (fun j v hj=>by
          rw[List.getElem?_take] at hj
          split at hj
          ·rw[List.getElem?_drop] at hj
           have:=h4 (off+j) (List.getElem?_eq_some_iff.1 hj).1
           rw[show o+off+j=o+(off+j) by omega,this]
           exact (List.getElem?_eq_getElem _).symm.trans hj
          ·cases hj)
       | box m off =>
         simp only at fA
         split at fA
         ·rename_i dm hm
          obtain⟨h1,h2⟩:=r8 fA
          obtain⟨rfl,hh,_⟩:=hv
          obtain⟨e1,e2⟩:=hl m (by rw[hm];rfl)
          rw[hm] at e2
          obtain⟨ak,el,h3,h4⟩:=e2
          have ho:=nh (ng h4 off) n
          rw[<-h1] at ho
          exact zu hT hn hs h2 ho (fun j v hj=>by
           rw[List.getElem?_take] at hj
           split at hj
           ·rw[List.getElem?_drop] at hj
            simp only[World.cell?,h3]
            simpa using hj
           ·cases hj)
         ·cases fA
       | eR m i off =>
         simp only at fA
         split at fA
         ·rename_i fr e xs hm
          obtain⟨h1,h2⟩:=r8 fA
          obtain⟨hh,a_,e',br,h6,hi,rfl⟩:=hv
          obtain⟨e1,e2⟩:=hl m (by rw[hm];rfl)
          rw[hm] at e2
          rw[<-e1,hm] at h6
          injection h6 with e3 e4 e5
          subst e3;subst e4;cases e5
          obtain⟨es,h7,h8,h9⟩:=NY e2 hh hi
          have ho:=nh (ng (sG (V:=V) (hp:=hp) fr e h9) off) n
          rw[<-h1] at ho
          exact zu hT hn hs h2 ho (fun j v hj=>by
           rw[List.getElem?_take] at hj
           split at hj
           ·rw[List.getElem?_drop] at hj
            rw[show i*e.size+off+j=i*e.size+(off+j) by omega]
            exact h8 _ v hj
           ·cases hj)
         ·cases fA
       | _=>cases fA
theorem fU(hT:cv P T){t:TypeId}{f:Nat}{x:Nat×Nat×Bool}(h:uo T t f=some x) :
 ∃ fields fd j d,P.underlying t=some (.struct fields)/\fields[f]? = some fd/\fd.offset=x.1/\x.2.1≠0/\P.info? fd.type=some j/\j.size=x.2.1/\P.underlying fd.type=some d/\mX d=x.2.2:=by
 unfold uo at h
 split at h
 ·rename_i fs sz gJ z ty sO heq
  have hb:=(hJ (hT t _ heq)).2.2
  obtain⟨fields,h1,h2⟩:=JH hb
  rw[fa] at h
  obtain⟨fd,j,d,h3,h4⟩:=y7 h2 h
  exact⟨fields,fd,j,d,h1,by simpa using h3,h4⟩
 ·cases h
theorem HW(hT:cv P T){t:TypeId}{p:C}{f:Nat}{r:QR}{v:Value}(h:qm T t p f=some r)(hv:C.ok V hp w p v):gX P V hp w r (Instr.fieldAt t v f):=by
 unfold qm at h
 cases hf:uo T t f with
 | none=>rw[hf] at h;cases h
 | some x =>
   obtain⟨o,n,ag⟩:=x
   rw[hf] at h
   obtain⟨fields,fd,j,d,h1,h2,h3,h4,h5,h6,_⟩:=fU hT hf
   have run:∀ b off,(Instr.fieldAt t (.pointer (some ⟨b,off,none⟩)) f).run P w = .ok (.pointer (some ⟨b,off+o,none⟩)) w:=by
    intro b off
    have bo:¬(j.size=0):=by rw[h6];exact h4
    have LU:fd.offset=o:=h3
    simp[Instr.fieldAt,run_underlying h1,h2,Instr.sureAddr,fieldPlace,run_sizeOf h5,bo,LU,nD]
   simp only at h
   split at h
   ·rename_i fr ty dd off
    injection h with h;subst h
    obtain⟨b,o',rfl,hz,es,k1,k2,k3⟩:=hv
    exact⟨rfl,rfl,_,run _ _,b,o',by rw[Nat.add_assoc],hz,es,k1,k2,k3⟩
   ·injection h with h;subst h
    obtain⟨rfl,k1,k2⟩:=hv
    exact⟨rfl,rfl,_,run _ _,rfl,k1,k2⟩
   ·injection h with h;subst h
    obtain⟨k1,fr,e,xs,k2,k3,rfl⟩:=hv
    exact⟨rfl,rfl,_,run _ _,k1,fr,e,xs,k2,k3,by rw[Nat.add_assoc]⟩
   ·cases h
theorem HV(hT:cv P T){t:TypeId}{p:C}{f:Nat}{r:QR}{v:Value}(h:qm T t p f=some r)(hv:C.ok V hp w p v) :
 r.ob=none/\r.hy=none/\r.new=[]/\∃ u,(∀ w',(Instr.fieldAt t v f).run P w' = .ok u w')/\S.ok V hp w r.res u:=by
 unfold qm at h
 cases hf:uo T t f with
 | none=>rw[hf] at h;cases h
 | some x =>
   obtain⟨o,n,ag⟩:=x
   rw[hf] at h
   obtain⟨fields,fd,j,d,h1,h2,h3,h4,h5,h6,_⟩:=fU hT hf
   have run:∀ b off w',(Instr.fieldAt t (.pointer (some ⟨b,off,none⟩)) f).run P w' = .ok (.pointer (some ⟨b,off+o,none⟩)) w':=by
    intro b off w'
    have bo:¬(j.size=0):=by rw[h6];exact h4
    have LU:fd.offset=o:=h3
    simp[Instr.fieldAt,run_underlying h1,h2,Instr.sureAddr,fieldPlace,run_sizeOf h5,bo,LU,nD]
   simp only at h
   split at h
   ·rename_i fr ty dd off
    injection h with h;subst h
    obtain⟨b,o',rfl,hz,es,k1,k2,k3⟩:=hv
    exact⟨rfl,rfl,rfl,_,run _ _,b,o',by rw[Nat.add_assoc],hz,es,k1,k2,k3⟩
   ·injection h with h;subst h
    obtain⟨rfl,k1,k2⟩:=hv
    exact⟨rfl,rfl,rfl,_,run _ _,rfl,k1,k2⟩
   ·injection h with h;subst h
    obtain⟨k1,fr,e,xs,k2,k3,rfl⟩:=hv
    exact⟨rfl,rfl,rfl,_,run _ _,k1,fr,e,xs,k2,k3,by rw[Nat.add_assoc]⟩
   ·cases h
theorem Bd(hT:cv P T){t:TypeId}{e:Ty}(h:ll T t=some e) :
 ∃ te i z,P.underlying t=some (.slice te)/\P.info? te=some i/\i.size=e.size/\i.zero=some z/\z.cells=e.lj.toArray:=by
 unfold ll at h
 split at h
 ·rename_i te es eb e' sz gJ z ty sO heq
  injection h with h;subst h
  obtain⟨h1,h2,i,z,h3,h4,h5,h6,h7⟩:=rE (hJ (hT t _ heq)).2.2
  exact⟨te,i,z,h1,h3,h4,h6,h7⟩
 ·cases h
theorem xB(hT:cv P T){t:TypeId}{e:Ty}(h:ll T t=some e)(ad:Addr)(len cap:Nat)(k:IntKind)(n:Int)(h0:0<=n)(h1:n<(len:Int)) :
 (Instr.indexAt t (.slice (some ad) len cap) (.int k n)).run P w = .ok (.pointer (some (ad.add (n.toNat*e.size)))) w:=by
 obtain⟨te,i,z,h2,h3,h4,_⟩:=Bd hT h
 simp[Instr.indexAt,run_underlying h2,asIntOf,h0,h1,run_sizeOf h3,h4]
theorem Br(hT:cv P T){t:TypeId}{e:Ty}(he:ll T t=some e.cO){m h:Nat}{v:Value}{k:IntKind}{n:Int}(hr:du V w m e h v)(h0:0<=n)(h1:n<(h:Int)) :
 V.has m/\(Instr.indexAt t v (.int k n)).run P w = .ok (.pointer (some ⟨V.aF m,n.toNat*e.size+0,none⟩)) w:=by
 rcases hr with ⟨_,_,rfl⟩|⟨hh,cap,ak,el,rfl,_⟩
 ·omega
 ·refine⟨hh,?_⟩
  rw[xB hT he _ _ _ _ _ h0 h1,nD,b_]
  simp
theorem Pl(hT:cv P T)(hl:kN V hp lk w){t:TypeId}{x i:C}{r:QR}{v u:Value}(h:HZ T lk t x i=some r)(ep:∀ p,r.ob=some p->p)(hx:C.ok V hp w x v)(hi:C.ok V hp w i u) :
 gX P V hp w r (Instr.indexAt t v u):=by
 unfold HZ at h
 split at h
 ·rename_i e' fr e xs k n he
  split at h
  ·rename_i mA
   subst mA
   injection h with h;subst h
   obtain⟨h0,h1⟩:=ep _ rfl
   obtain⟨rfl,_⟩:=ok_int hi
   obtain⟨a,cap,hv,h2,h3,h4⟩:=hx
   simp only[List.cons.injEq,and_true] at hv
   subst hv
   have aT:n.toNat<xs.length:=by omega
   obtain⟨ad,rfl,h5,h6,es,h7,h8,h9⟩:=h4 n.toNat aT
   obtain⟨b,o,sp⟩:=ad
   simp only at h5
   subst h5
   refine⟨rfl,rfl,_,xB hT he _ _ _ _ _ h0 h1,b,o+n.toNat*e.size,by rw[nD,b_];rfl,h6,es,h7,h8,?_⟩
   rw[xU _ aT]
   exact h9
  ·cases h
 ·rename_i e' fr wh e b0 xs k n he
  split at h
  ·rename_i mA
   subst mA
   injection h with h;subst h
   obtain⟨h0,h1⟩:=ep _ rfl
   obtain⟨rfl,_⟩:=ok_int hi
   obtain⟨a,cap,hv,h2,h3,h4⟩:=ze hx
   simp only[List.cons.injEq,and_true] at hv
   subst hv
   have aT:n.toNat<xs.length:=by omega
   obtain⟨ad,rfl,h5,h6,es,h7,h8,h9⟩:=h4 n.toNat aT
   obtain⟨b,o,sp⟩:=ad
   simp only at h5
   subst h5
   refine⟨rfl,rfl,_,xB hT he _ _ _ _ _ h0 h1,b,o+n.toNat*e.size,by rw[nD,b_];rfl,h6,es,h7,h8,?_⟩
   rw[xU _ aT]
   exact h9
  ·cases h
 ·rename_i e' m k n he
  split at h
  ·rename_i fr e xs hm
   split at h
   ·rename_i mA
    subst mA
    injection h with h;subst h
    obtain⟨h0,h1⟩:=ep _ rfl
    obtain⟨rfl,_⟩:=ok_int hi
    obtain⟨a_,e2,br,h2,h3⟩:=hx
    obtain⟨e1,_⟩:=hl m (by rw[hm];rfl)
    rw[<-e1,hm] at h2
    injection h2 with e3 e4 e5
    subst e3;subst e4;cases e5
    obtain⟨h4,h5⟩:=Br (k:=k) hT he h3 h0 h1
    exact⟨rfl,rfl,_,h5,h4,fr,e,xs,by rw[<-e1];exact hm,by omega,rfl⟩
   ·cases h
  ·cases h
 ·rename_i e' m hh k n he
  split at h
  ·rename_i fr e xs hm
   split at h
   ·rename_i mA
    subst mA
    injection h with h;subst h
    obtain⟨h0,h1⟩:=ep _ rfl
    obtain⟨rfl,_⟩:=ok_int hi
    obtain⟨a_,e2,br,h2,h6,h3⟩:=hx
    obtain⟨e1,_⟩:=hl m (by rw[hm];rfl)
    rw[<-e1,hm] at h2
    injection h2 with e3 e4 e5
    subst e3;subst e4;cases e5
    obtain⟨h4,h5⟩:=Br (k:=k) hT he h3 h0 h1
    exact⟨rfl,rfl,_,h5,h4,fr,e,xs,by rw[<-e1];exact hm,by omega,rfl⟩
   ·cases h
  ·cases h
 ·cases h
theorem Pk(hT:cv P T)(hl:kN V hp lk w){t:TypeId}{m i0:Nat}{kk:IntKind}{k:Int}{r:QR}{v:Value}(h:HX T lk t m i0 k=some r)(ep:∀ p,r.ob=some p->p)(hx:C.ok V hp w (.eR m i0 0) v) :
 gX P V hp w r (Instr.indexAt t v (.int kk k)):=by
 unfold HX at h
 split at h
 ·rename_i len te es n dQ sz gJ z ty sO ht
  split at h
  ·rename_i fr e xs hm
   split at h
   ·rename_i mA
    subst mA
    injection h with h;subst h
    obtain⟨h0,h1,h2⟩:=ep _ rfl
    obtain⟨_,a1,⟨i,a2,a3⟩,a4,a5,a6,a7,a8⟩:=N8 (hT t _ ht) rfl
    obtain⟨hh,a_,e2,br,g1,g2,rfl⟩:=hx
    obtain⟨e1,_⟩:=hl m (by rw[hm];rfl)
    have qy:hp m = .row fr e xs:=by rw[<-e1];exact hm
    rw[qy] at g1
    injection g1 with g3 g4 g5
    subst g3;subst g4;cases g5
    have oe:es/e.size*e.size=es:=by
     have:=Nat.div_add_mod es e.size
     rw[a7,Nat.add_zero,Nat.mul_comm] at this
     exact this
    have hX:0<es:=by
     rcases Nat.eq_zero_or_pos es with h3|h3
     ·exfalso
      rw[h3,Nat.mul_zero] at a6
      have:=e.size_pos
      rcases Nat.mul_eq_zero.1 a6 with h4|h4<;>omega
     ·exact h3
    have hd:1<=es/e.size:=by
     rcases Nat.eq_zero_or_pos (es/e.size) with h3|h3
     ·rw[h3,Nat.zero_mul] at oe;omega
     ·exact h3
    refine⟨rfl,rfl,.pointer (some ⟨V.aF m,(i0+k.toNat*(es/e.size))*e.size+0,none⟩),?_,hh,fr,e,xs,qy,?_,rfl⟩
    ·simp only[Instr.indexAt,asIntOf,Sem.run_bind,Sem.run_pure,Result.andThen_ok,run_underlying a1,Instr.sureAddr]
     rw[if_pos ⟨h0,h1⟩]
     simp only[Sem.run_bind,run_sizeOf a2,a3,Result.andThen_ok,Sem.run_pure,nD]
     have abq:i0*e.size+0+k.toNat*es=(i0+k.toNat*(es/e.size))*e.size+0:=by rw[Nat.add_mul,Nat.mul_assoc,oe];omega
     rw[abq]
    ·rw[Nat.add_mul,Nat.one_mul] at h2
     omega
   ·cases h
  ·cases h
 ·cases h
theorem HY(hT:cv P T)(hl:kN V hp lk w){t:TypeId}{x i:C}{r:QR}{v u:Value}(h:zL T lk t x i=some r)(ep:∀ p,r.ob=some p->p)(hx:C.ok V hp w x v)(hi:C.ok V hp w i u) :
 gX P V hp w r (Instr.indexAt t v u):=by
 unfold zL at h
 split at h
 ·obtain⟨rfl,_⟩:=ok_int hi
  exact Pk hT hl h ep hx
 ·exact Pl hT hl h ep hx hi
end
end Go.SX
/- Cuts, composites, lengths. No condition. -/
namespace Go.SX
open Go.RowKit
set_option linter.unusedVariables false
set_option linter.unusedSimpArgs false
section
variable {P : Program} {T : cC} {V : Vl} {hp lk : Nat → az} {w : World}
theorem Ls{Z:Nat->Prop}{e:Ty}{v:Value}{xs:List e.den}(h:aI Z w (.sl e) [v] xs){l h':Nat}(h0:l<=h')(h1:h'<=xs.length) :
 ∃ a cap,v = .slice a xs.length cap/\xs.length<=cap/\aI Z w (.sl e) [.slice (if cap=l then a else a.map (·.add (l*e.size))) (h'-l) (cap-l)] ((xs.take h').drop l):=by
 obtain⟨a,cap,hv,h2,h3,h4⟩:=h
 simp only[List.cons.injEq,and_true] at hv
 have hlen:((xs.take h').drop l).length=h'-l:=by rw[List.length_drop,List.length_take];omega
 refine⟨a,cap,hv,h2,_,cap-l,by rw[hlen],by rw[hlen];omega,by rw[hlen];omega,fun i hi=>?_⟩
 rw[hlen] at hi
 obtain⟨ad,rfl,h5,h6,es,h7,h8,h9⟩:=h4 (l+i) (by omega)
 obtain⟨b,o,sp⟩:=ad
 simp only at h5
 subst h5
 rw[if_neg (by omega)]
 refine⟨⟨b,o+l*e.size,none⟩,by rw[Option.map_some,nD],rfl,h6,es,h7,?_,?_⟩
 ·rw[Nat.add_mul] at h8
  rw[Nat.add_assoc];exact h8
 ·simp only[List.getElem_drop,List.getElem_take]
  exact h9
theorem yy(hT:cv P T){t:TypeId}{e:Ty}(he:ll T t=some e)(a:Option Addr)(len cap:Nat)(lo hi:Option Value){l h':Nat}
 (hl:lo=none/\l=0\/∃ k,lo=some (.int k (l:Int))) (hh:hi=none/\h'=len\/∃ k,hi=some (.int k (h':Int))) (h0:l<=h') (h1:h'<=cap) :
 (Instr.sliceAt t (.slice a len cap) lo hi none).run P w = .ok (.slice (if cap=l then a else a.map (·.add (l*e.size))) (h'-l) (cap-l)) w:=by
 obtain⟨te,i,z,h2,h3,h4,_⟩:=Bd hT he
 have c1:(h':Int)<=(cap:Int):=by omega
 have c2:(l:Int)<=(h':Int):=by omega
 have c3:(0:Int)<=(h':Int):=by omega
 have c4:(0:Int)<=(l:Int):=by omega
 rcases hl with ⟨rfl,rfl⟩|⟨k,rfl⟩<;>rcases hh with ⟨rfl,rfl⟩|⟨k',rfl⟩ <;>
  simp[Instr.sliceAt,Instr.slice,Instr.sliceBounds,Instr.sliceBound,run_underlying h2,asIntOf,run_sizeOf h3,h4,c1,c2,c3,c4,h0,h1]<;>first|done|(intros;omega)|omega
theorem kG{X5:Int}{o:Option S}{n:Int}(h:pv X5 o=some n){ov:Option Value}(ho:∀ s v,o=some s->ov=some v->S.ok V hp w s v)(Yt:o=none↔ov=none) :
 (o=none/\ov=none/\n=X5)\/(∃ k,ov=some (.int k n)):=by
 unfold pv at h
 split at h
 ·injection h with h;exact .inl ⟨rfl,Yt.1 rfl,h.symm⟩
 ·rename_i k m
  injection h with h;subst h
  cases ov with
  | none=>exact absurd (Yt.2 rfl) (by simp)
  | some v=>exact .inr ⟨k,by rw[(ok_int (V:=V) (hp:=hp) (w:=w) (ho _ _ rfl rfl)).1]⟩
 ·cases h
theorem FR{m h:Nat}{e:Ty}{v:Value}(hr:du V w m e h v):∃ a cap,v = .slice a h cap/\h<=cap/\∀ h',h'<=h->du V w m e h' (.slice (if cap=0 then a else a.map (·.add (0*e.size))) (h'-0) (cap-0)):=by
 rcases hr with ⟨h1,rfl,rfl⟩|⟨h1,cap,ak,el,rfl,h3,h4,h5⟩
 ·exact⟨none,0,rfl,Nat.le_refl _,fun h' hh=>by have:h'=0:=by omega
                                               subst this;exact .inl ⟨h1,rfl,rfl⟩⟩
 ·refine⟨_,cap,rfl,h5,fun h' hh=>.inr ⟨h1,cap,ak,el,?_,h3,h4,by omega⟩⟩
  have:(if cap=0 then (some ⟨V.aF m,0,none⟩:Option Addr) else (some (⟨V.aF m,0,none⟩:Addr)).map (·.add (0*e.size)))=some ⟨V.aF m,0,none⟩:=by
   split
   ·rfl
   ·simp[Addr.add]
  rw[this];simp
theorem SK(hT:cv P T)(hl:kN V hp lk w){t:TypeId}{x:C}{lo hi:Option S}{r:QR}{v:Value}{lv hv:Option Value}(h:NM T lk t x lo hi=some r)(ep:∀ p,r.ob=some p->p)(hx:C.ok V hp w x v)
 (DF:∀ s v,lo=some s->lv=some v->S.ok V hp w s v) (Mc:lo=none↔lv=none) (Uk:∀ s v,hi=some s->hv=some v->S.ok V hp w s v) (L9:hi=none↔hv=none) :
 gX P V hp w r (Instr.sliceAt t v lv hv none):=by
 have mk:∀ {n:Int} {m:Nat} {o:Option S} {ov:Option Value} {d:Nat},(o=none/\ov=none/\n=(d:Int))\/(∃ k,ov=some (.int k n))->0<=n->m=n.toNat->(ov=none/\m=d\/∃ k,ov=some (.int k (m:Int))):=by
  intro n m o ov d hc h0 hm
  rcases hc with ⟨_,h1,h2⟩|⟨k,h1⟩
  ·exact .inl ⟨h1,by omega⟩
  ·exact .inr ⟨k,by rw[h1,hm,Int.toNat_of_nonneg h0]⟩
 unfold NM at h
 split at h
 ·rename_i e' fr e xs he
  split at h
  ·rename_i l h' nv FU
   split at h
   ·rename_i mA
    subst mA
    injection h with h;subst h
    obtain⟨h0,h1,h2⟩:=ep _ rfl
    have bl:=kG (V:=V) (hp:=hp) (w:=w) nv DF Mc
    have bh:=kG (V:=V) (hp:=hp) (w:=w) FU Uk L9
    obtain⟨a,cap,rfl,h3,h4⟩:=Ls (l:=l.toNat) (h':=h'.toNat) hx (by omega) (by omega)
    have eT:=yy (P:=P) (w:=w) (l:=l.toNat) (h':=h'.toNat) hT he a _ cap lv hv (mk (d:=0) bl h0 rfl) (mk (d:=xs.length) bh (by omega) rfl) (by omega) (by omega)
    rw[b_] at eT
    exact⟨rfl,rfl,_,eT,h4⟩
   ·cases h
  ·cases h
 ·rename_i e' fr wh e b0 xs he
  split at h
  ·rename_i l h' nv FU
   split at h
   ·rename_i mA
    subst mA
    injection h with h;subst h
    obtain⟨h0,h1,h2⟩:=ep _ rfl
    have bl:=kG (V:=V) (hp:=hp) (w:=w) nv DF Mc
    have bh:=kG (V:=V) (hp:=hp) (w:=w) FU Uk L9
    have nz:aI (V.Z fr) w (.sl e) [v] xs:=hx.1
    obtain⟨a,cap,rfl,h3,h4⟩:=Ls (l:=l.toNat) (h':=h'.toNat) nz (by omega) (by omega)
    have eT:=yy (P:=P) (w:=w) (l:=l.toNat) (h':=h'.toNat) hT he a _ cap lv hv (mk (d:=0) bl h0 rfl) (mk (d:=xs.length) bh (by omega) rfl) (by omega) (by omega)
    rw[b_] at eT
    exact⟨rfl,rfl,_,eT,h4⟩
   ·cases h
  ·cases h
 ·rename_i e' m he
  split at h
  ·rename_i fr e xs hm
   obtain⟨e1,e2⟩:=hl m (by rw[hm];rfl)
   obtain⟨a_,e3,br,k2,k3⟩:=hx
   rw[<-e1,hm] at k2
   injection k2 with g3 g4 g5
   subst g3;subst g4;cases g5
   rw[hm] at e2
   split at h
   ·rename_i h' FU
    split at h
    ·rename_i mA
     subst mA
     injection h with h;subst h
     obtain⟨h0,h1⟩:=ep _ rfl
     have bh:=kG (V:=V) (hp:=hp) (w:=w) FU Uk L9
     have o0:lv=none:=Mc.1 rfl
     obtain⟨a,cap,rfl,h3,h4⟩:=FR k3
     have eT:=yy (P:=P) (w:=w) (l:=0) (h':=h'.toNat) hT he a _ cap lv hv (.inl ⟨o0,rfl⟩) (mk (d:=xs.length) bh h0 rfl) (by omega) (by omega)
     rw[b_] at eT
     refine⟨rfl,rfl,_,eT,fr,e,xs,by rw[<-e1];exact hm,by omega,h4 _ (by omega)⟩
    ·cases h
   ·rename_i lo' h' FU
    split at h
    ·rename_i l nv
     split at h
     ·rename_i mA
      subst mA
      injection h with h;subst h
      obtain⟨h0,h1,h2⟩:=ep _ rfl
      have bl:=kG (V:=V) (hp:=hp) (w:=w) nv DF Mc
      have bh:=kG (V:=V) (hp:=hp) (w:=w) FU Uk L9
      have iO:=Cl e2 k3 (Nat.le_refl _)
      rw[List.take_length] at iO
      obtain⟨a,cap,rfl,h3,h4⟩:=Ls (l:=l.toNat) (h':=h'.toNat) iO (by omega) (by omega)
      have eT:=yy (P:=P) (w:=w) (l:=l.toNat) (h':=h'.toNat) hT he a _ cap lv hv (mk (d:=0) bl h0 rfl) (mk (d:=xs.length) bh (by omega) rfl) (by omega) (by omega)
      rw[b_] at eT
      refine⟨rfl,rfl,_,eT,⟨fr,e,xs,by rw[<-e1];exact hm⟩,?_⟩
      exact h4.mono (fun b hb=>hb.elim (fun h=>.inl (Vl.db h)) .inr) (fun _ _=>rfl)
     ·cases h
    ·cases h
   ·cases h
  ·cases h
 ·rename_i e' m k he
  split at h
  ·rename_i fr e xs hm
   obtain⟨e1,e2⟩:=hl m (by rw[hm];rfl)
   obtain⟨a_,e3,br,k2,k3,k4⟩:=hx
   rw[<-e1,hm] at k2
   injection k2 with g3 g4 g5
   subst g3;subst g4;cases g5
   rw[hm] at e2
   split at h
   ·rename_i h' FU
    split at h
    ·rename_i mA
     subst mA
     injection h with h;subst h
     obtain⟨h0,h1⟩:=ep _ rfl
     have bh:=kG (V:=V) (hp:=hp) (w:=w) FU Uk L9
     have o0:lv=none:=Mc.1 rfl
     obtain⟨a,cap,rfl,h3,h4⟩:=FR k4
     have eT:=yy (P:=P) (w:=w) (l:=0) (h':=h'.toNat) hT he a _ cap lv hv (.inl ⟨o0,rfl⟩) (mk (d:=k) bh h0 rfl) (by omega) (by omega)
     rw[b_] at eT
     refine⟨rfl,rfl,_,eT,fr,e,xs,by rw[<-e1];exact hm,by omega,h4 _ (by omega)⟩
    ·cases h
   ·cases h
  ·cases h
 ·cases h
theorem US{n:Nat}(h:n<=cY):i64.min<=(n:Int)/\(n:Int)<=i64.max:=by
 have h1:i64.min = -9223372036854775808:=by decide
 have h2:i64.max=9223372036854775807:=by decide
 rw[h1,h2]
 unfold cY at h
 omega
theorem NS{Z:Nat->Prop}{e:Ty}{v:Value}{xs:List e.den}(h:aI Z w (.sl e) [v] xs):∃ a cap,v = .slice a xs.length cap/\xs.length<=cY:=by
 obtain⟨a,cap,hv,h2,h3,h4⟩:=h
 simp only[List.cons.injEq,and_true] at hv
 exact⟨a,cap,hv,h3⟩
theorem C1(he:∀ n,(hp n).ok V hp w n){m h:Nat}{fr:Bool}{e:Ty}{xs:List e.den}{v:Value}(hm:hp m = .row fr e xs)(hr:du V w m e h v)(hh:h<=xs.length):∃ a cap,v = .slice a h cap/\h<=cY:=by
 have h1:=he m
 rw[hm] at h1
 rcases hr with ⟨_,rfl,rfl⟩|⟨k1,cap,ak,el,rfl,k3,k4,k5⟩
 ·exact⟨none,0,rfl,Nat.zero_le _⟩
 ·rcases h1 with ⟨g1,_⟩|⟨_,ba,dC,g2,g3,_⟩
  ·exact absurd k1 g1
  ·exact⟨_,cap,rfl,by omega⟩
theorem Zy(he:∀ n,(hp n).ok V hp w n)(hl:kN V hp lk w){x:C}{n:Int}{v:Value}(h:Xe lk x=some n)(hx:C.ok V hp w x v):∃ a k cap,v = .slice a k cap/\n=(k:Int)/\k<=cY:=by
 unfold Xe at h
 split at h
 ·injection h with h;subst h
  obtain⟨a,cap,h1,h2⟩:=NS hx
  exact⟨a,_,cap,h1,rfl,h2⟩
 ·injection h with h;subst h
  obtain⟨a,cap,h1,h2⟩:=NS hx.2
  exact⟨a,_,cap,h1,rfl,h2⟩
 ·rename_i m
  split at h
  ·rename_i fr e xs hm
   injection h with h;subst h
   obtain⟨a_,e',br,h1,h2⟩:=hx
   obtain⟨e1,_⟩:=hl m (by rw[hm];rfl)
   rw[<-e1,hm] at h1
   injection h1 with g3 g4 g5
   subst g3;subst g4;cases g5
   obtain⟨a,cap,h3,h4⟩:=C1 he (e1.symm.trans hm) h2 (Nat.le_refl _)
   exact⟨a,_,cap,h3,rfl,h4⟩
  ·cases h
 ·rename_i m k
  injection h with h;subst h
  obtain⟨a_,e',br,h1,h3,h2⟩:=hx
  obtain⟨a,cap,h5,h4⟩:=C1 he h1 h2 h3
  exact⟨a,_,cap,h5,rfl,h4⟩
 ·injection h with h;subst h
  obtain⟨a,cap,h1,h2⟩:=NS (ze hx)
  exact⟨a,_,cap,h1,rfl,h2⟩
 ·injection h with h;subst h
  rw[hx.1]
  exact⟨none,0,0,rfl,rfl,Nat.zero_le _⟩
 ·cases h
theorem Xf(hT:cv P T)(he:∀ n,(hp n).ok V hp w n)(hl:kN V hp lk w){t ty:TypeId}{x:C}{n:Int}{v:Value}(h:Sa T lk t x=some n)(hx:C.ok V hp w x v) :
 (Builtin.len_ #[t] ty #[v]).run P w = .ok (.int .i64 n) w/\i64.min<=n/\n<=i64.max:=by
 unfold Sa at h
 split at h
 ·rename_i sz gJ z D2 sO s heq
  injection h with h;subst h
  have hk:=(hJ (hT t _ heq)).2.2
  have hu:P.underlying t=some .string:=by
   unfold ml at hk
   simp only at hk
   split at hk
   ·assumption
   ·cases hk
  obtain⟨rfl,hs⟩:=hx
  refine⟨by simp[Builtin.len_,run_underlying hu,goInt],?_⟩
  have h1:i64.min = -9223372036854775808:=by decide
  have h2:i64.max=9223372036854775807:=by decide
  have h3:s.size<=maxLen:=hs
  unfold maxLen at h3
  rw[h1,h2]
  omega
 ·rename_i e es eb dQ sz gJ z D2 sO heq
  obtain⟨hu,_⟩:=rE (hJ (hT t _ heq)).2.2
  obtain⟨a,k,cap,rfl,rfl,hk⟩:=Zy he hl h hx
  exact⟨by simp[Builtin.len_,run_underlying hu,goInt],US hk⟩
 ·cases h
theorem FE{t:TypeId}(ht:Program.underlying P t=some .bool)(a b:Bool)(w:World):(Op.equal t (.bool a) (.bool b)).run P w = .ok (a == b) w:=by
 unfold Op.equal Op.maxDepth
 rw[Op.equalIn]
 rw[Sem.run_bind,run_underlying ht,Result.andThen_ok]
 rfl
theorem bytes_beq(a b:ByteArray):(a.toList == b.toList)=decide (a=b):=by
 rw[ByteArray.toList_eq,ByteArray.toList_eq]
 by_cases h:a=b
 ·subst h;simp
 ·rw[decide_eq_false h]
  have:¬a.data.toList=b.data.toList:=fun e=>h (by
   cases a;cases b
   simp only[ByteArray.mk.injEq]
   exact Array.toList_inj.1 e)
  simpa using this
theorem Vz(hT:cv P T){t:TypeId}{op:BinOp}{x y:C}{r:QR}{u v:Value}(h:SI T t op x y=some r)(ep:∀ p,r.ob=some p->p)(hx:C.ok V hp w x u)(hy:C.ok V hp w y v)(ox oy:Operand) :
 gX P V hp w r (do eqGuard op t ox oy u v;binOp op t u v):=by
 unfold SI at h
 split at h
 ·rename_i r' hr
  injection h with h;subst h
  exact Xs hr ep hx hy t ox oy
 ·split at h
  ·rename_i a b ht ha hb hz
   injection h with h;subst h
   have e1:=(kF (by assumption) hx:u = .bool _)
   have e2:=(kF (by assumption) hy:v = .bool _)
   subst e1;subst e2
   have hk:=(hJ (hT t _ (by assumption))).2.2
   have hu:Program.underlying P t=some .bool:=by
    unfold ml at hk
    simp only at hk
    split at hk<;>first|assumption|cases hk
   exact⟨rfl,rfl,.bool (a == b),by simp[eqGuard,binOp,FE hu],rfl,trivial⟩
  ·rename_i a b ht ha hb hz
   injection h with h;subst h
   have e1:=(kF (by assumption) hx:u = .bool _)
   have e2:=(kF (by assumption) hy:v = .bool _)
   subst e1;subst e2
   have hk:=(hJ (hT t _ (by assumption))).2.2
   have hu:Program.underlying P t=some .bool:=by
    unfold ml at hk
    simp only at hk
    split at hk<;>first|assumption|cases hk
   exact⟨rfl,rfl,.bool (!(a == b)),by simp[eqGuard,binOp,FE hu],rfl,trivial⟩
  ·split at h
   ·rename_i sa sb g1 g2 g3 g4 g5 g6
    injection h with h;subst h
    obtain⟨e1,_⟩:=k_ (V:=V) (hp:=hp) (w:=w) (by assumption) hx
    obtain⟨e2,_⟩:=k_ (V:=V) (hp:=hp) (w:=w) (by assumption) hy
    subst e1;subst e2
    exact⟨rfl,rfl,.bool (decide (sa=sb)),by simp only[eqGuard,binOp,Op.stringOp,bytes_beq];rfl,rfl,trivial⟩
   ·rename_i sa sb g1 g2 g3 g4 g5 g6
    injection h with h;subst h
    obtain⟨e1,_⟩:=k_ (V:=V) (hp:=hp) (w:=w) (by assumption) hx
    obtain⟨e2,_⟩:=k_ (V:=V) (hp:=hp) (w:=w) (by assumption) hy
    subst e1;subst e2
    exact⟨rfl,rfl,.bool (!decide (sa=sb)),by simp only[eqGuard,binOp,Op.stringOp,bytes_beq];rfl,rfl,trivial⟩
   ·cases h
theorem RG{us vs:Array Value}(d:Nat):∀(fs:List Field) (o:Nat) (ks:List Bool) (xs ys:List C) (b:Bool),FD P o fs ks=true->yQ ks xs ys=some b →
 (∀(j:Nat) c,xs[j]? = some c->∃ u,us[o+j]? = some u/\C.ok V hp w c u)->(∀(j:Nat) c,ys[j]? = some c->∃ u,vs[o+j]? = some u/\C.ok V hp w c u) →
 (Op.eqFields (d+1) us vs fs).run P w = .ok b w:=by
 intro fs
 induction fs with
 | nil =>
   intro o ks xs ys b h hq _ _
   cases ks with
   | nil =>
     unfold yQ at hq
     split at hq<;>first|(rename_i h0 _ _;cases h0;done)|(rename_i h0;cases h0;done)|skip
     ·injection hq with hq;subst hq;rfl
     all_goals first|(cases hq;done)|(simp_all;done)
   | cons k ks=>cases h
 | cons f fs ih =>
   intro o ks xs ys b h hq hx hy
   cases ks with
   | nil=>cases h
   | cons k ks =>
     unfold FD at h
     simp only[Bool.and_eq_true,bne_iff_ne,ne_eq,beq_iff_eq] at h
     obtain⟨⟨⟨h1,h2⟩,h3⟩,h4⟩:=h
     have get:∀ {zs:List C} {ws:Array Value} {z:C} {zr:List C},zs=z::zr->(∀(j:Nat) c,zs[j]? = some c->∃ u,ws[o+j]? = some u/\C.ok V hp w c u) →
      (∃ u,ws[f.offset]? = some u/\C.ok V hp w z u)/\∀(j:Nat) c,zr[j]? = some c->∃ u,ws[o+1+j]? = some u/\C.ok V hp w c u:=by
      intro zs ws z zr e hz
      subst e
      refine⟨by rw[h2];exact hz 0 z rfl,fun j c hj=>?_⟩
      obtain⟨u,e1,e2⟩:=hz (j+1) c (by simpa using hj)
      exact⟨u,by rw[<-e1];congr 1;omega,e2⟩
     have KY:∀ {ws:Array Value} {u:Value},ws[f.offset]? = some u->(part f.type ws f.offset).run P w = .ok u w:=by
      intro ws u hu
      split at h3
      ·rename_i hf;simp[part,sM hf,hu,mX]
      ·rename_i hf;simp[part,sM hf,hu,mX]
      ·cases h3
     unfold yQ at hq
     split at hq
     ·rename_i h0;cases h0
     ·rename_i ks' kk a br kk' b' OQ e1
      injection e1 with e1 LC
      subst e1;subst LC;
      split at hq
      ·rename_i hk
       subst hk
       rw[fv] at hq
       cases hr:yQ ks br OQ with
       | none=>rw[hr] at hq;cases hq
       | some r =>
         rw[hr] at hq
         injection hq with hq
         obtain⟨⟨u,g1,g2⟩,g3⟩:=get rfl hx
         obtain⟨⟨v,g4,g5⟩,g6⟩:=get rfl hy
         obtain⟨rfl,_⟩:=ok_int g2
         obtain⟨rfl,_⟩:=ok_int g5
         have W2:=ih (o+1) ks br OQ r h4 hr g3 g6
         have hu:∃ k,P.underlying f.type=some (.int k):=by
          split at h3
          ·exact⟨_,‹_›⟩
          ·cases h3
          ·cases h3
         obtain⟨k0,hu⟩:=hu
         simp only[Op.eqFields]
         rw[if_pos h1]
         simp only[Sem.run_bind,KY g1,KY g4,Result.andThen_ok,Op.equalIn,run_underlying hu,if_true,Sem.run_pure,Sem.run_ite]
         subst hq
         by_cases ki:a=b'
         ·simp[ki,W2]
         ·simp[ki]
      ·cases hq
     ·rename_i ks' x br y OQ e1
      injection e1 with e1 LC
      subst e1;subst LC
      split at hq
      ·rename_i a b' ha hb
       rw[fv] at hq
       cases hr:yQ ks br OQ with
       | none=>rw[hr] at hq;cases hq
       | some r =>
         rw[hr] at hq
         injection hq with hq
         obtain⟨⟨u,g1,g2⟩,g3⟩:=get rfl hx
         obtain⟨⟨v,g4,g5⟩,g6⟩:=get rfl hy
         obtain rfl:=kF ha g2
         obtain rfl:=kF hb g5
         have W2:=ih (o+1) ks br OQ r h4 hr g3 g6
         have hu:P.underlying f.type=some .bool:=by
          split at h3
          ·cases h3
          ·assumption
          ·cases h3
         simp only[Op.eqFields]
         rw[if_pos h1]
         simp only[Sem.run_bind,KY g1,KY g4,Result.andThen_ok,Op.equalIn,run_underlying hu,Sem.run_pure,Sem.run_ite]
         subst hq
         by_cases ki:a=b'
         ·simp[ki,W2]
         ·simp[ki]
      ·cases hq
     ·cases hq
theorem Vy(hT:cv P T){t:TypeId}{op:BinOp}{xs ys:List C}{r:QR}{us vs:Array Value}(h:SH T t op xs ys=some r)(hx:bO V hp w xs us.toList)(hy:bO V hp w ys vs.toList)(ox oy:Operand) :
 gX P V hp w r (do eqGuard op t ox oy (.agg us) (.agg vs);binOp op t (.agg us) (.agg vs)):=by
 unfold SH at h
 rw[zF] at h
 cases ht:T t with
 | none=>rw[ht] at h;cases h
 | some ti =>
   rw[ht] at h
   simp only[Option.bind_some] at h
   cases hk:ti.eq with
   | none=>rw[hk] at h;cases h
   | some ks =>
     rw[hk] at h
     simp only at h
     have he:=adn (hT t _ ht) hk
     unfold eqB at he
     split at he
     ·rename_i fs hu
      simp only[Bool.and_eq_true,Bool.not_eq_true'] at he
      obtain⟨⟨h1,h2⟩,h3⟩:=he
      have hfo:P.fieldsOf t=fs:=by unfold Program.fieldsOf;rw[hu]
      have each:∀ {zs:List C} {ws:Array Value},bO V hp w zs ws.toList->∀(j:Nat) c,zs[j]? = some c->∃ u,ws[0+j]? = some u/\C.ok V hp w c u:=by
       intro zs ws ho j c hj
       have aT:=(List.getElem?_eq_some_iff.1 hj).1
       have zk:j<ws.size:=by have:=ho.1;simp at this;omega
       have hv:ws[j]? = some ws[j]:=Array.getElem?_eq_getElem zk
       exact⟨ws[j],by rw[Nat.zero_add];exact hv,ho.2 j c _ hj (by simp)⟩
      have key:∀ b,yQ ks xs ys=some b->(Op.equalIn 10000 t (.agg us) (.agg vs)).run P w = .ok b w:=by
       intro b hb
       rw[show (10000:Nat)=9999+1 from rfl,run_equalIn_agg w 9999 t us vs (by rw[hfo];exact hu) h1,hfo]
       exact RG 9998 fs.toList 0 ks xs ys b h3 hb (each hx) (each hy)
      split at h
      ·rename_i b hb
       injection h with h;subst h
       exact⟨rfl,rfl,.bool b,by rw[Sem.run_bind,run_eqGuard_agg w _ t ox oy us vs h2,Result.andThen_ok,run_eql_struct,key b hb];rfl,rfl,trivial⟩
      ·rename_i b hb
       injection h with h;subst h
       exact⟨rfl,rfl,.bool (!b),by rw[Sem.run_bind,run_eqGuard_agg w _ t ox oy us vs h2,Result.andThen_ok,run_neq_struct,key b hb];rfl,rfl,trivial⟩
      ·cases h
     ·cases he
theorem eE:∀ e:Ty,e.lj.length=e.size
 | .int _=>rfl
 | .bool=>rfl
 | .str=>rfl
 | .sl _=>rfl
 | .st t=>eE t
 | .pr a b=>by
   show (a.lj++b.lj).length=a.size+b.size
   rw[List.length_append,eE a,eE b]
 | .ptr _=>rfl
 | .ca _ _=>rfl
 | .gs _ _=>rfl
theorem Xi(z:Array Value)(n k:Nat)(h:k<n):(madeCells z n)[k]? = some z[k%z.size]! := by
 unfold madeCells
 rw[Array.getElem?_map]
 have:(Array.range n)[k]? = some k:=by rw[Array.getElem?_range];simp[h]
 rw[this];rfl
theorem H0(hT:cv P T){base:Nat}{M:LM}{w0:World}(m:Mem base M w0 V hp w){nx:Nat}(hd:hp nx = .dead){t:TypeId}{l c:C}{r:QR}{u v:Value}(h:tY T nx t l c=some r)(ep:∀ p,r.ob=some p->p)
 (hu:C.ok V hp w l u) (hv:C.ok V hp w c v):∃ x w' V',(Instr.makeSlice t u v).run P w = .ok x w'/\Good base M w0 V hp w nx r.res r.new r.hy x w' V':=by
 unfold tY at h
 split at h
 ·rename_i te es eb e sz gJ z0 D2 sO n mm heq
  split at h
  ·rename_i fe
   rw[Bool.and_eq_true] at fe
   obtain⟨fe,tz⟩:=fe
   replace fe:=of_decide_eq_true fe
   injection h with h;subst h
   obtain⟨h0,h1,h2⟩:=ep _ rfl
   obtain⟨rfl,_⟩:=ok_int hu
   obtain⟨rfl,sA⟩:=ok_int hv
   obtain⟨g1,g2,i,z,g3,g4,g5,g6,g7⟩:=rE (hJ (hT t _ heq)).2.2
   have hb:(i.bytes:Int)*mm<=281474976710656:=by rw[g5,Int.mul_comm];omega
   have h63:mm<=9223372036854775807:=sA.2
   have ahj:mm<=140737488355328:=by
    have:mm*1<=mm*(eb:Int):=Int.mul_le_mul_of_nonneg_left (by omega) (by omega)
    omega
   have eT:=run_make (P:=P) w t te i z g1 g3 g6 .i64 .i64 n mm h0 h1 hb h63
   rw[g4] at eT
   have iP:z.cells.size=e.size:=by rw[g7];simpa using eE e
   obtain⟨V',hg⟩:=pV m hd (madeCells z.cells (mm.toNat*e.size)) te (.row true e (List.replicate n.toNat e.gh)) (.c (.own nx)) (.slice (some ⟨w.heap.size,0,none⟩) n.toNat mm.toNat) (fun h=>h)
    (fun V' aJ w' x k1 k2 k3 k4=>by
      constructor
      ·refine .inr ⟨k1,_,te,by rw[k2];exact k4,by rw[List.length_replicate];unfold cY;omega,fun j hj=>?_⟩
       rw[List.length_replicate] at hj
       refine⟨e.lj,eE e,fun q u hq=>?_,by rw[List.getElem_replicate];exact aI.zero e tz⟩
       have fH:=(List.getElem?_eq_some_iff.1 hq).1
       rw[eE e] at fH
       have aT:j*e.size+q<mm.toNat*e.size:=by
        have:(j+1)*e.size<=mm.toNat*e.size:=Nat.mul_le_mul_right _ (by omega)
        rw[Nat.add_mul] at this;omega
       rw[Xi _ _ _ aT,iP]
       have xk:(j*e.size+q)%e.size=q:=by rw[Nat.mul_comm,Nat.mul_add_mod];exact Nat.mod_eq_of_lt fH
       rw[xk,g7]
       have abx:q<e.lj.length:=by rw[eE e];exact fH
       rw[List.getElem?_eq_getElem abx] at hq
       simp only[Option.some.injEq] at hq
       rw[<-hq]
       simp[abx]
      ·refine⟨true,e,_,k3,.inr ⟨k1,mm.toNat,_,te,by rw[k2,List.length_replicate],by rw[k2];exact k4,size_madeCells _ _,by rw[List.length_replicate];omega⟩⟩)
   exact⟨_,_,V',eT,hg⟩
  ·cases h
 ·cases h
theorem LO(off:Nat):∀(l:List Value) (k:Nat) (a:Array Value),off+k+l.length<=a.size →
 ((l.zipIdx k).foldl (fun cs (x:Value×Nat)=>cs.setIfInBounds (off+x.2) x.1) a).toList=a.toList.take (off+k)++l++a.toList.drop (off+k+l.length)
 | [],k,a,_=>by simp
 | v::l,k,a,h=>by
   simp only[List.zipIdx_cons,List.foldl_cons]
   rw[LO off l (k+1) _ (by simp at h ⊢;omega)]
   have aT:off+k<a.toList.length:=by simp at h ⊢;omega
   simp only[Array.toList_setIfInBounds,List.length_cons]
   rw[show off+(k+1)=off+k+1 by omega,List.take_set,List.drop_set,if_pos (by omega)]
   rw[show off+k+(l.length+1)=off+k+1+l.length by omega]
   have hm:(a.toList.take (off+k)).length=off+k:=by rw[List.length_take];omega
   rw[List.take_succ_eq_append_getElem aT,List.set_append_right _ _ (by rw[hm];exact Nat.le_refl _),hm]
   simp
theorem I3(place:Nat->Option (Nat×Nat))(cells:Array Value)(i off size:Nat)(v:Value)(rest:List (Nat×Value))(aJ:place i=some (off,size))(h1:v.cells.size=size)(h2:off+size<=cells.size) :
 Instr.fill place cells ((i,v)::rest)=Instr.fill place ((cells.toList.take off++v.cells.toList++cells.toList.drop (off+size)).toArray) rest:=by
 have:=LO off v.cells.toList 0 cells (by simp[h1];exact h2)
 simp only[Nat.add_zero,Array.length_toList,h1] at this
 have e:v.cells.zipIdx.foldl (fun cs (x:Value×Nat)=>cs.setIfInBounds (off+x.2) x.1) cells=(cells.toList.take off++v.cells.toList++cells.toList.drop (off+size)).toArray:=by
  apply Array.ext'
  rw[<-this,<-Array.foldl_toList]
  simp[Array.toList_zipIdx]
 rw[<-e]
 simp only[Instr.fill,aJ]
 rw[if_neg (by simp[h1];omega)]
theorem yL{s:S}{cs:List C}{v:Value}(h:s.cells=some cs)(ho:S.ok V hp w s v):bO V hp w cs v.cells.toList:=by
 cases s with
 | c x =>
   simp only[S.cells,Option.some.injEq] at h;subst h
   have h1:=C.dA ho
   have:v.cells = #[v]:=by cases v<;>first|rfl|(simp[Value.oneCell'] at h1)
   rw[this]
   exact bu ho cu
 | agg xs =>
   simp only[S.cells,Option.some.injEq] at h;subst h
   obtain⟨vs,rfl,h1⟩:=ho
   exact h1
 | _=>cases h
def oR(V:Vl)(hp:Nat->az)(w:World):List (Nat×S)->List (Nat×Value)->Prop
 | [],[]=>True
 | p::ps,q::qs=>p.1=q.1/\S.ok V hp w p.2 q.2/\oR V hp w ps qs
 | _,_=>False
theorem LK{fs:List (Nat×Nat×Bool)}{place:Nat->Option (Nat×Nat)}(tz:∀(i:Nat) x,fs[i]? = some x->place i=some (x.1,x.2.1)) :
 ∀ {ps:List (Nat×S)} {qs:List (Nat×Value)} {cs dm:List C} {cells:Array Value},y8 fs cs ps=some dm->oR V hp w ps qs->bO V hp w cs cells.toList →
  ∃ fb,Instr.fill place cells qs=some fb/\bO V hp w dm fb.toList
 | [],[],cs,dm,cells,h,_,ho=>by
   simp only[y8,Option.some.injEq] at h;subst h
   exact⟨cells,rfl,ho⟩
 | (i,s)::ps,(j,v)::qs,cs,dm,cells,h,hq,ho=>by
   obtain⟨h1,h2,h3⟩:=hq
   simp only at h1 h2
   subst h1
   unfold y8 at h
   split at h
   ·rename_i o n ag xs hi fA
    rw[fa] at hi
    simp only[dz,mH,mG,cp] at h
    split at h
    ·rename_i hc
     have vg:=yL fA h2
     have hlen:v.cells.size=n:=by have:=vg.1;rw[hc.1] at this;simpa using this.symm
     have cD:cells.size=cs.length:=by have:=ho.1;simpa using this.symm
     rw[I3 place cells i o n v qs (tz i _ hi) hlen (by omega)]
     refine LK tz h h3 ?_
     have:=gW (gW (nh ho o) vg) (ng ho (o+n))
     simpa[List.append_assoc] using this
    ·cases h
   ·cases h
 | [],_::_,_,_,_,_,hq,_=>hq.elim
 | _::_,[],_,_,_,_,hq,_=>hq.elim
theorem Jw:∀ {fl:List Field} {fs:List (Nat×Nat×Bool)},rp P fl fs=true →
 ∃ sH,fl.mapM (fun f=>(P.info? f.type).map fun i=>(f.offset,i.size))=some sH/\∀(i:Nat) x,fs[i]? = some x->sH[i]? = some (x.1,x.2.1)
 | [],fs,k2=>⟨[],rfl,fun i x hx=>by obtain⟨f,_,_,h,_⟩:=y7 k2 hx;simp at h⟩
 | f::fl,[],k2=>by cases k2
 | f::fl,y::ys,k2=>by
   obtain⟨f',j,d,e1,e2,e3,e4,e5,_⟩:=y7 k2 (i:=0) (x:=y) rfl
   simp only[List.getElem?_cons_zero,Option.some.injEq] at e1
   subst e1
   unfold rp at k2
   simp only[Bool.and_eq_true] at k2
   obtain⟨sH,m1,m2⟩:=Jw k2.2
   refine⟨(f.offset,j.size)::sH,by simp[e4,m1],fun i x hx=>?_⟩
   cases i with
   | zero=>simp only[List.getElem?_cons_zero,Option.some.injEq] at hx;subst hx;simp[e2,e5]
   | succ i=>simpa using m2 i x (by simpa using hx)
theorem Pj(hT:cv P T){t:TypeId}{fs:List (Nat×Nat×Bool)}{sz gJ:Nat}{z:List Value}{ty:Option Ty}{sO:Option (List Bool)}(heq:T t=some { k:=.st fs,size:=sz,bytes:=gJ,zero:=z,ty:=ty,eq:=sO })
 {ps:List (Nat×S)} {qs:Array (Nat×Value)} {r:QR} (h:omap (fun cs=>({ res:=.agg cs }:QR)) (y8 fs (lmap cell z) ps)=some r) (hq:oR V hp w ps qs.toList):gX P V hp w r (Instr.build t qs):=by
 simp only[fv] at h
 cases hf:y8 fs (lmap cell z) ps with
 | none=>rw[hf] at h;cases h
 | some cs =>
   rw[hf] at h
   simp only[Option.map_some,Option.some.injEq] at h
   subst h
   obtain⟨⟨i,zv,g1,g2,g3,g4,g5,g6⟩,g7,g8⟩:=hJ (hT t _ heq)
   obtain⟨fields,k1,k2⟩:=JH g8
   have sH:=Jw k2
   obtain⟨sH,m1,m2⟩:=sH
   obtain⟨fb,n1,n2⟩:=LK (place:=fun i=>sH.toArray[i]?) (cells:=z.toArray) (fun i x hx=>by simpa using m2 i x hx) hf hq (by simpa using g6 V hp w)
   refine⟨rfl,rfl,.agg fb,?_,fb,rfl,n2⟩
   refine run_build w t qs fb ?_
   unfold Program.built
   simp only[g1,k1,g4,m1]
   rw[g5]
   exact n1
end
end Go.SX
/- Literals of slices; calls under a contract; every operation that writes nothing. No condition. -/
namespace Go.SX
open Go.RowKit
set_option linter.unusedVariables false
set_option linter.unusedSimpArgs false
section
variable {P : Program} {T : cC} {V : Vl} {hp lk : Nat → az} {w : World}
theorem kO{fr a_:Bool}(h:fr=true->a_=true){b:Nat}(hz:V.Z a_ b):V.Z fr b:=by
 cases fr with
 | false=>exact Vl.db hz
 | true=>have:=h rfl;subst this;exact hz
theorem VF{fr:Bool}{e:Ty}{c:C}{xs:List e.den}{v:Value}(h:rB lk e c=some xs)(ho:C.ok V hp w c v)(h1:c.jC=true)(h2:fr=true->c.gj=true):aI (V.Z fr) w (.sl e) [v] xs:=by
 unfold rB at h
 split at h
 ·rename_i a_ e' br
  have cm:aI (V.Z a_) w (.sl e') [v] br:=ho
  exact sh (cm.mono (fun b hb=>kO h2 hb) (fun _ _=>rfl)) h
 ·cases h1
 ·cases h1
 ·cases h1
 ·rename_i a_ wh e' b br
  have cm:aI (V.Z a_) w (.gs wh e') [v] (b,br):=ho
  exact sh (ze (cm.mono (fun b hb=>kO h2 hb) (fun _ _=>rfl))) h
 ·injection h with h;subst h
  rw[ho.1]
  exact aI.zero (.sl e) rfl
 ·cases h
theorem SO{fr:Bool}:∀(t:Ty) {cs:List C} {d:t.den} {rest:List C} {vs:List Value},iY lk t cs=some (d,rest)->bO V hp w cs vs->(∀ c∈cs,c.jC=true/\(fr=true->c.gj=true)) →
 ∃ us ws,vs=us++ws/\aI (V.Z fr) w t us d/\bO V hp w rest ws/\∃ ps,cs=ps++rest:=by
 intro t
 induction t with
 | int k =>
   intro cs d rest vs h ho hz
   obtain⟨c,rfl,hc⟩:=bX h
   obtain⟨v,cI,rfl,h1,h2⟩:=df ho
   obtain⟨h3,h4⟩:=vB hc h1
   exact⟨[v],cI,rfl,⟨by rw[h3],h4⟩,h2,[c],rfl⟩
 | bool =>
   intro cs d rest vs h ho hz
   obtain⟨c,rfl,hc⟩:=bX h
   obtain⟨v,cI,rfl,h1,h2⟩:=df ho
   exact⟨[v],cI,rfl,by rw[wF hc h1];exact rfl,h2,[c],rfl⟩
 | str =>
   intro cs d rest vs h ho hz
   obtain⟨c,rfl,hc⟩:=bX h
   obtain⟨v,cI,rfl,h1,h2⟩:=df ho
   obtain⟨h3,h4⟩:=k_ hc h1
   exact⟨[v],cI,rfl,⟨by rw[h3],h4⟩,h2,[c],rfl⟩
 | sl e ih =>
   intro cs d rest vs h ho hz
   obtain⟨c,rfl,hc⟩:=bX h
   obtain⟨v,cI,rfl,h1,h2⟩:=df ho
   obtain⟨h3,h4⟩:=hz c (by simp)
   exact⟨[v],cI,rfl,VF hc h1 h3 h4,h2,[c],rfl⟩
 | st t ih=>exact fun h ho hz=>ih h ho hz
 | pr a b fX fR =>
   intro cs d rest vs h ho hz
   unfold iY at h
   cases ha:iY lk a cs with
   | none=>simp[ha] at h
   | some x =>
     obtain⟨x,r⟩:=x
     simp only[ha] at h
     cases hb:iY lk b r with
     | none=>simp[hb] at h
     | some y =>
       obtain⟨y,r'⟩:=y
       simp only[hb,Option.some.injEq,Prod.mk.injEq] at h
       obtain⟨rfl,rfl⟩:=h
       obtain⟨us,ws,rfl,h1,h2,ps,rfl⟩:=fX ha ho hz
       obtain⟨V6,ws',rfl,h3,h4,ps',rfl⟩:=fR hb h2 (fun c hc=>hz c (List.mem_append_right _ hc))
       exact⟨us++V6,ws',by rw[List.append_assoc],⟨us,V6,rfl,h1,h3⟩,h4,ps++ps',by rw[List.append_assoc]⟩
 | ptr t ih =>
   intro cs d rest vs h ho hz
   obtain⟨c,rfl,hc⟩:=bX h
   obtain⟨v,cI,rfl,h1,h2⟩:=df ho
   obtain⟨h3,h4⟩:=hz c (by simp)
   refine⟨[v],cI,rfl,?_,h2,[c],rfl⟩
   unfold SN at hc
   split at hc
   ·split at hc
    ·rename_i hk;subst hk;injection hc with hc;subst hc
     obtain⟨b,o,e1,e2,es,e3,e4,e5⟩:=h1
     exact⟨b,o,by rw[e1,Nat.add_zero],kO h4 e2,es,e3,e4,e5.mono (fun b hb=>kO h4 hb) (fun _ _=>rfl)⟩
    ·cases hc
   ·cases h3
   ·cases hc
 | ca f t ih =>
   intro cs d rest vs h ho hz
   obtain⟨c,rfl,hc⟩:=bX h
   obtain⟨v,cI,rfl,h1,h2⟩:=df ho
   obtain⟨h3,h4⟩:=hz c (by simp)
   refine⟨[v],cI,rfl,?_,h2,[c],rfl⟩
   unfold SM at hc
   split at hc
   ·split at hc
    ·rename_i hf
     split at hc
     ·rename_i hk;subst hk;subst hf;injection hc with hc;subst hc
      exact aI.mono (t:=.ca _ _) (fun b hb=>kO h4 hb) (fun _ _=>rfl) h1
     ·cases hc
    ·cases hc
   ·rename_i f' ns
    split at hc
    ·rename_i hf
     subst hf
     cases ns with
     | cons n ns=>cases h3
     | nil =>
       obtain⟨us,ws,e5,e6,e7,_⟩:=ih (Ad hc) (show bO V hp w [] [] from cu) (fun c hc=>by cases hc)
       have hu:us=[]:=(List.append_eq_nil_iff.1 e5.symm).1
       subst hu
       exact⟨#[],congrArg (fun x=>[x]) h1.1,e6⟩
    ·cases hc
   ·cases hc
 | gs wh e ih =>
   intro cs d rest vs h ho hz
   obtain⟨c,rfl,hc⟩:=bX h
   obtain⟨v,cI,rfl,h1,h2⟩:=df ho
   obtain⟨h3,h4⟩:=hz c (by simp)
   exact⟨[v],cI,rfl,NR hc h1 h4,h2,[c],rfl⟩
theorem vC{fr:Bool}{t:Ty}{cs:List C}{d:t.den}{vs:List Value}(h:readAll lk t cs=some d)(ho:bO V hp w cs vs)(hz:∀ c∈cs,c.jC=true/\(fr=true->c.gj=true)):aI (V.Z fr) w t vs d:=by
 unfold readAll at h
 split at h
 ·rename_i d' hr
  injection h with h;subst h
  obtain⟨us,ws,rfl,h1,h2,_⟩:=SO t hr ho hz
  have:ws=[]:=by have:=h2.1;simp at this;exact List.length_eq_zero_iff.1 this.symm
  rw[this,List.append_nil]
  exact h1
 ·cases h
theorem SP{fr:Bool}{t:Ty}{s:S}{d:t.den}{v:Value}(h:wI lk t s=some d)(ho:S.ok V hp w s v)(h1:s.jC=true)(h2:fr=true->s.gj=true):aI (V.Z fr) w t v.cells.toList d:=by
 unfold wI at h
 split at h
 ·rename_i x
  split at h
  ·cases h
  ·have nC:=C.dA ho
   have hc:v.cells = #[v]:=by cases v<;>first|rfl|(simp[Value.oneCell'] at nC)
   rw[hc]
   exact vC h (bu ho cu) (fun c hc=>by simp at hc;subst hc;exact⟨h1,h2⟩)
 ·rename_i cs
  split at h
  ·obtain⟨vs,rfl,h3⟩:=ho
   refine vC h h3 (fun c hc=>⟨?_,fun hf=>?_⟩)
   ·have pW:fK C.jC cs=true:=h1
    rw[iF,List.all_eq_true] at pW
    exact pW c hc
   ·have v7:fK C.gj cs=true:=h2 hf
    rw[iF,List.all_eq_true] at v7
    exact v7 c hc
  ·cases h
 ·cases h
theorem DA(fr:Bool):∀(t:Ty) (d:t.den),∀ c∈expand fr t d,c.jC=true/\(fr=true->c.gj=true):=by
 intro t
 induction t with
 | int k=>intro d c hc;simp[expand] at hc;subst hc;exact⟨rfl,fun _=>rfl⟩
 | bool=>intro d c hc;simp[expand] at hc;subst hc;exact⟨rfl,fun _=>rfl⟩
 | str=>intro d c hc;simp[expand] at hc;subst hc;exact⟨rfl,fun _=>rfl⟩
 | sl e ih=>intro d c hc;simp[expand] at hc;subst hc;exact⟨rfl,fun h=>h⟩
 | st t ih=>exact fun d=>ih d
 | pr a b fX fR =>
   intro d c hc
   unfold expand at hc
   rw[cp,List.mem_append] at hc
   exact hc.elim (fX _ c) (fR _ c)
 | ptr t ih=>intro d c hc;simp[expand] at hc;subst hc;exact⟨rfl,fun h=>h⟩
 | ca f t ih=>intro d c hc;simp[expand] at hc;subst hc;exact⟨rfl,fun h=>h⟩
 | gs wh e ih=>intro d c hc;simp[expand] at hc;subst hc;exact⟨rfl,fun h=>h⟩
theorem EM{fr:Bool}{e:Ty}:∀ {ps:List (Nat×S)} {qs:List (Nat×Value)} {k:Nat} {xs:List e.den} {cells:Array Value},lf lk e k ps=some xs->oR V hp w ps qs →
 (∀ p∈ps,p.2.jC=true/\(fr=true->p.2.gj=true))->(k+ps.length)*e.size<=cells.size →
 ∃ fb,Instr.fill (fun i=>some (i*e.size,e.size)) cells qs=some fb/\fb.size=cells.size/\(∀ j,j<k*e.size->fb[j]? = cells[j]?)/\xs.length=ps.length ∧
  ∀ i (h:i<xs.length),∃ es,es.length=e.size/\(∀(j:Nat) u,es[j]? = some u->fb[(k+i)*e.size+j]? = some u)/\aI (V.Z fr) w e es xs[i]
 | [],[],k,xs,cells,h,_,_,_=>by
   simp only[lf,Option.some.injEq] at h;subst h
   exact⟨cells,rfl,rfl,fun _ _=>rfl,rfl,fun i hi=>by simp at hi⟩
 | (i,s)::ps,(j,v)::qs,k,xs,cells,h,hq,hz,cD=>by
   obtain⟨h1,h2,h3⟩:=hq
   simp only at h1 h2
   subst h1
   unfold lf at h
   simp only at h
   split at h
   ·rename_i ia
    subst ia
    split at h
    ·rename_i x br hx vg
     injection h with h;subst h
     obtain⟨z1,z2⟩:=hz (i,s) (by simp)
     have iO:=SP (fr:=fr) hx h2 z1 z2
     have hlen:=aI.length iO
     simp only[Array.length_toList] at hlen
     have xl:i*e.size+e.size<=cells.size:=by
      have:(i+1)*e.size<=(i+((i,s)::ps).length)*e.size:=Nat.mul_le_mul_right _ (by simp)
      rw[Nat.add_mul,Nat.one_mul] at this
      omega
     rw[I3 _ cells i (i*e.size) e.size v qs rfl hlen xl]
     obtain⟨fb,g1,g2,g3,g4,g5⟩:=EM (fr:=fr) (k:=i+1) vg h3 (fun p aJ=>hz p (by simp[aJ])) (cells:=(cells.toList.take (i*e.size)++v.cells.toList++cells.toList.drop (i*e.size+e.size)).toArray) (by
      have hh:(cells.toList.take (i*e.size)++v.cells.toList++cells.toList.drop (i*e.size+e.size)).length=cells.size:=by
       simp only[List.length_append,List.length_take,List.length_drop,Array.length_toList,hlen];omega
      simp only[List.size_toArray,hh]
      rw[show i+1+ps.length=i+((i,s)::ps).length by simp;omega]
      exact cD)
     have ac2:(cells.toList.take (i*e.size)++v.cells.toList++cells.toList.drop (i*e.size+e.size)).length=cells.size:=by
      simp only[List.length_append,List.length_take,List.length_drop,Array.length_toList,hlen];omega
     have DI:(cells.toList.take (i*e.size)).length=i*e.size:=by rw[List.length_take,Array.length_toList];omega
     refine⟨fb,g1,by rw[g2];simp only[List.size_toArray,ac2],fun j hj=>?_,by simp[g4],fun q fH=>?_⟩
     ·rw[g3 j (by rw[Nat.add_mul];omega)]
      rw[List.getElem?_toArray,List.append_assoc,List.getElem?_append_left (by rw[DI];exact hj),List.getElem?_take,if_pos hj]
      simp
     ·cases q with
      | zero =>
        refine⟨v.cells.toList,by simpa using hlen,fun j u hu=>?_,iO⟩
        have hj:=(List.getElem?_eq_some_iff.1 hu).1
        simp only[Array.length_toList,hlen] at hj
        rw[Nat.add_zero,g3 (i*e.size+j) (by rw[Nat.add_mul,Nat.one_mul];omega)]
        rw[List.getElem?_toArray,List.append_assoc,List.getElem?_append_right (by rw[DI];omega),DI,show i*e.size+j-i*e.size=j by omega,List.getElem?_append_left (by simp[hlen];exact hj)]
        exact hu
      | succ q =>
        obtain⟨es,k1,k2,k3⟩:=g5 q (by simpa using fH)
        refine⟨es,k1,fun j u hu=>?_,k3⟩
        rw[show i+(q+1)=i+1+q by omega]
        exact k2 j u hu
    ·cases h
   ·cases h
 | [],_::_,_,_,_,_,hq,_,_=>hq.elim
 | _::_,[],_,_,_,_,hq,_,_=>hq.elim
theorem ug(e:Ty):∀ n,(jI n e).length=n*e.size
 | 0=>by simp[jI]
 | n+1=>by simp only[jI,List.length_append,eE,ug e n,Nat.add_mul,Nat.one_mul];omega
theorem G8(e:Ty):∀(n i j:Nat),i<n->j<e.size->(jI n e)[i*e.size+j]? = e.lj[j]?
 | 0,i,j,h,_=>by omega
 | n+1,0,j,_,hj=>by
   rw[Nat.zero_mul,Nat.zero_add]
   simp only[jI]
   rw[List.getElem?_append_left (by rw[eE];exact hj)]
 | n+1,i+1,j,h,hj=>by
   simp only[jI]
   rw[List.getElem?_append_right (by rw[eE,Nat.add_mul,Nat.one_mul];omega),eE,show (i+1)*e.size+j-e.size=i*e.size+j by rw[Nat.add_mul,Nat.one_mul];omega]
   exact G8 e n i j (by omega) hj
theorem JR{e:Ty}(aJ:e.plain=true)(n:Nat){Z:Nat->Prop}{w':World}:∀ i (h:i<(List.replicate n e.gh).length),∃ es,es.length=e.size/\(∀(j:Nat) u,es[j]? = some u->(jI n e)[i*e.size+j]? = some u)/\aI Z w' e es (List.replicate n e.gh)[i]:=by
 intro i h
 rw[List.length_replicate] at h
 refine⟨e.lj,eE e,fun j u hu=>?_,?_⟩
 ·have hj:=(List.getElem?_eq_some_iff.1 hu).1
  rw[eE] at hj
  rw[G8 e n i j h hj];exact hu
 ·rw[List.getElem_replicate]
  exact aI.zero e aJ
theorem Ph(hT:cv P T){t:TypeId}{len te es n:Nat}{dQ:Ty}{sz gJ:Nat}{z:List Value}{ty:Option Ty}{sO:Option (List Bool)}(heq:T t=some { k:=.arr len te es n dQ,size:=sz,bytes:=gJ,zero:=z,ty:=ty,eq:=sO })
 {ps:List (Nat×S)} {qs:Array (Nat×Value)} {r:QR} (h:HU len es n dQ ps=some r) (hq:oR V hp w ps qs.toList):gX P V hp w r (Instr.build t qs):=by
 obtain⟨⟨i,zv,g1,g2,g3,g4,g5,g6⟩,g7,g8⟩:=hJ (hT t _ heq)
 obtain⟨a0,a1,⟨i2,a2,a3⟩,a4,a5,a6,a7,a8⟩:=N8 (hT t _ heq) rfl
 simp only at a0 g5
 subst a0
 have Uh:∀ fb,Instr.fill (fun i=>some (i*es,es)) (jI n dQ).toArray qs.toList=some fb->(Instr.build t qs).run P w = .ok (.agg fb) w:=by
  intro fb hf
  simp only[Instr.build,Sem.run_bind,ot g1 g4,Result.andThen_ok,run_underlying a1,run_sizeOf a2,a3,g5,hf,Sem.run_pure]
 unfold HU at h
 split at h
 ·injection h with h;subst h
  have hq0:qs.toList=[]:=by
   cases hqs:qs.toList with
   | nil=>rfl
   | cons q r=>rw[hqs] at hq;exact hq.elim
  refine⟨rfl,rfl,_,Uh (jI n dQ).toArray (by rw[hq0];rfl),a4,_,rfl,by simp[ug],fun i hi=>?_⟩
  obtain⟨jc,k1,k2,k3⟩:=JR (Z:=fun _=>False) (w':=w) a5 n i hi
  exact⟨jc,k1,fun j u hu=>by simpa using k2 j u hu,k3⟩
 ·split at h
  case isFalse=>cases h
  case isTrue hc =>
  simp only[Bool.and_eq_true,decide_eq_true_eq,iF,List.all_eq_true,dz] at hc
  obtain⟨⟨c1,c2⟩,c3⟩:=hc
  rw[fv] at h
  cases hx:lf (fun _=>.dead) dQ 0 ps with
  | none=>rw[hx] at h;cases h
  | some xs =>
    rw[hx] at h
    simp only[Option.map_some,Option.some.injEq] at h
    subst h
    have qz:n=len:=by
     rw[c3] at a6
     exact Nat.eq_of_mul_eq_mul_right dQ.size_pos a6
    obtain⟨fb,k1,k2,k3,k4,k5⟩:=EM (fr:=false) (k:=0) (cells:=(jI n dQ).toArray) hx hq (fun p aJ=>⟨c1 p aJ,fun hf=>by cases hf⟩) (by simp[ug,c2,qz])
    rw[<-c3] at k1
    refine⟨rfl,rfl,_,Uh fb k1,a4,fb,rfl,by rw[k2,k4,c2];simp[ug,qz],fun i hi=>?_⟩
    obtain⟨jc,p1,p2,p3⟩:=k5 i hi
    exact⟨jc,p1,fun j u hu=>by have:=p2 j u hu;rwa [Nat.zero_add] at this,p3.flat a4⟩
theorem SJ(hT:cv P T){t:TypeId}{ps:List (Nat×S)}{qs:Array (Nat×Value)}{r:QR}(h:NK T t ps=some r)(hq:oR V hp w ps qs.toList):gX P V hp w r (Instr.build t qs):=by
 unfold NK at h
 split at h
 ·rename_i heq;exact Pj hT heq h hq
 ·rename_i heq;exact Ph hT heq h hq
 ·cases h
theorem Sb(e:Ty)(ps:List (Nat×S)):(F_ e ps).size=e.size:=by
 unfold F_
 split
 ·rename_i h
  rw[Bool.and_eq_true,decide_eq_true_eq] at h
  rw[<-b_ e.CP,h.2]
 ·rfl
theorem wB(hT:cv P T){base:Nat}{M:LM}{w0:World}(m:Mem base M w0 V hp w){nx:Nat}(hd:hp nx = .dead){t:TypeId}{n:Nat}{ps:List (Nat×S)}{qs:Array (Nat×Value)}{r:QR}
 (h:lL T lk nx t n ps=some r) (hq:oR V hp w ps qs.toList):∃ x w' V',(Instr.buildSlice t n qs).run P w = .ok x w'/\Good base M w0 V hp w nx r.res r.new r.hy x w' V':=by
 unfold lL at h
 cases he:ll T t with
 | none=>rw[he] at h;cases h
 | some e0 =>
   rw[he] at h
   simp only at h
   have cD:=Sb e0 ps
   generalize F_ e0 ps=e at h cD
   unfold tt at h
   split at h
   ·rename_i hc
    rw[Bool.and_eq_true] at hc
    obtain⟨hc,c4⟩:=hc
    simp only[Bool.and_eq_true,decide_eq_true_eq,iF,List.all_eq_true,dz] at hc
    obtain⟨⟨c1,c2⟩,c3⟩:=hc
    rw[fv] at h
    cases hx:lf lk e 0 ps with
    | none=>rw[hx] at h;cases h
    | some xs =>
      rw[hx] at h
      simp only[Option.map_some,Option.some.injEq] at h
      subst h
      obtain⟨te,i,z,h2,h3,h4,h5,h6⟩:=Bd hT he
      rw[<-cD] at h4
      generalize eD:(e.flat||fK (fun p=>p.2.gj) ps)=fl
      have iP:z.cells.size=e.size:=by rw[h6,cD];simpa using eE e0
      generalize wg:(if n*e.size=0 then (#[]:Array Value) else z.cells)=z0
      have acW:=EM (fr:=fK (fun p=>p.2.gj) ps) (k:=0) (cells:=(Array.range (n*e.size)).map (z0[·%z0.size]!)) hx hq (fun p aJ=>⟨c1 p aJ,fun hf=>by rw[iF,List.all_eq_true] at hf;exact hf p aJ⟩) (by simp[c2])
      obtain⟨fb,g1,g2,g3,g4,g5⟩:=acW
      simp only[Array.size_map,Array.size_range] at g2
      obtain⟨V',hg⟩:=pV m hd fb te (.row fl e xs) (.c (.own nx)) (.slice (some ⟨w.heap.size,0,none⟩) n n)
       (by
         intro hl
         cases fl with
         | true=>exact hl
         | false =>
           have eo:(e.flat||e.bQ)=true:=hl
           rw[Bool.or_eq_false_iff] at eD
           rw[eD.1,Bool.false_or] at eo
           rw[eo,eD.2] at c4
           cases c4)
       (fun V' aJ w' x k1 k2 k3 k4=>by
         constructor
         ·refine .inr ⟨k1,_,te,by rw[k2];exact k4,?_,fun j hj=>?_⟩
          ·rw[g4,c2]
           have:n*1<=n*e.size:=Nat.mul_le_mul_left _ e.size_pos
           unfold cY;omega
          ·obtain⟨es,q1,q2,q3⟩:=g5 j hj
           refine⟨es,q1,fun a u hu=>by have:=q2 a u hu;rwa [Nat.zero_add] at this,?_⟩
           cases sw:e.flat with
           | true=>exact q3.flat sw
           | false =>
             rw[sw,Bool.false_or] at eD
             rw[<-eD]
             exact x.rd q3
         ·exact⟨fl,e,xs,k3,.inr ⟨k1,n,_,te,by rw[k2,g4,c2],by rw[k2];exact k4,g2,by rw[g4,c2];exact Nat.le_refl _⟩⟩)
      refine⟨_,_,V',?_,hg⟩
      have hnb:¬(16777216<n*e.size):=by omega
      simp only[Instr.buildSlice,Sem.run_bind,run_underlying h2,Result.andThen_ok,run_sizeOf h3,h4,Sem.run_ite]
      rw[if_neg (by omega)]
      simp only[Result.andThen_ok,Sem.run_pure,Sem.run_bind]
      by_cases hn:n*e.size=0
      ·rw[if_pos hn] at wg
       rw[if_pos hn,wg]
       simp only[Sem.run_pure,Result.andThen_ok,g1,newRow,Sem.run_bind,run_newObj_alloc]
      ·rw[if_neg hn] at wg
       rw[if_neg hn]
       simp only[ot h3 h5,Result.andThen_ok,wg,Sem.run_pure,g1,newRow,Sem.run_bind,run_newObj_alloc]
   ·cases h
theorem vZ:∀ {t:Ty} {Z:Nat->Prop} {cs:List Value} {d:t.den} {bs:List (Option Nat)} (nx:Nat),jg Z w t cs d bs->(fresh t d nx).2.length=bs.length:=by
 intro t
 induction t with
 | int k=>intro Z cs d bs nx h;rw[h.2];rfl
 | bool=>intro Z cs d bs nx h;rw[h.2];rfl
 | str=>intro Z cs d bs nx h;rw[h.2];rfl
 | sl e ih =>
   intro Z cs d bs nx h
   rcases h with ⟨_,_,rfl⟩|⟨b,cap,ak,el,_,rfl,_⟩<;>rfl
 | st t ih=>exact fun nx h=>ih nx h
 | pr a b fX fR =>
   intro Z cs d bs nx h
   obtain⟨c1,c2,b1,b2,rfl,rfl,h1,h2⟩:=h
   show (dX _ _).length=_
   rw[cp,List.length_append,List.length_append,fX nx h1,fR _ h2]
 | ptr t ih=>intro Z cs d bs nx h;exact h.elim
 | ca f t ih=>intro Z cs d bs nx h;exact h.elim
 | gs wh e ih=>intro Z cs d bs nx h;exact h.elim
structure pk (V:Vl) (hp:Nat->az) (Z:Nat->Prop) (nx:Nat) (es:List az) (bs:List (Option Nat)):Prop where
 has:∀(j:Nat) b,bs[j]? = some b->(V.has (nx+j)↔b.isSome=true)
 aF:∀(j:Nat) b,bs[j]? = some (some b)->V.aF (nx+j)=b
 an:∀(j:Nat) e,es[j]? = some e->hp (nx+j)=e
 Af:∀ b,Z b->V.Z1 b
theorem pk.left{Z:Nat->Prop}{nx:Nat}{e1 e2:List az}{b1 b2:List (Option Nat)}(h:pk V hp Z nx (e1++e2) (b1++b2)):pk V hp Z nx e1 b1 where
 has j b hb:=h.has j b (by rw[List.getElem?_append_left (List.getElem?_eq_some_iff.1 hb).1];exact hb)
 aF j b hb:=h.aF j b (by rw[List.getElem?_append_left (List.getElem?_eq_some_iff.1 hb).1];exact hb)
 an j e he:=h.an j e (by rw[List.getElem?_append_left (List.getElem?_eq_some_iff.1 he).1];exact he)
 Af:=h.Af
theorem pk.right{Z:Nat->Prop}{nx:Nat}{e1 e2:List az}{b1 b2:List (Option Nat)}(hl:e1.length=b1.length)(h:pk V hp Z nx (e1++e2) (b1++b2)):pk V hp Z (nx+e1.length) e2 b2 where
 has j b hb:=by
  rw[Nat.add_assoc]
  exact h.has (e1.length+j) b (by rw[hl,List.getElem?_append_right (by omega)];rw[show b1.length+j-b1.length=j by omega];exact hb)
 aF j b hb:=by
  rw[Nat.add_assoc]
  exact h.aF (e1.length+j) b (by rw[hl,List.getElem?_append_right (by omega)];rw[show b1.length+j-b1.length=j by omega];exact hb)
 an j e he:=by
  rw[Nat.add_assoc]
  exact h.an (e1.length+j) e (by rw[List.getElem?_append_right (by omega)];rw[show e1.length+j-e1.length=j by omega];exact he)
 Af:=h.Af
theorem WE{Z:Nat->Prop}:∀ {t:Ty} {cs:List Value} {d:t.den} {bs:List (Option Nat)} {nx:Nat},jg Z w t cs d bs->pk V hp Z nx (fresh t d nx).2 bs →
 bO V hp w (fresh t d nx).1 cs/\∀(j:Nat) e,(fresh t d nx).2[j]? = some e->e.ok V hp w (nx+j):=by
 intro t
 induction t with
 | int k=>intro cs d bs nx h _;obtain⟨⟨rfl,h1⟩,_⟩:=h;exact⟨bu ⟨rfl,h1⟩ cu,fun j e he=>by simp[fresh] at he⟩
 | bool=>intro cs d bs nx h _;obtain⟨h1,_⟩:=h;rw[show cs=_ from h1];exact⟨bu ⟨rfl,trivial⟩ cu,fun j e he=>by simp[fresh] at he⟩
 | str=>intro cs d bs nx h _;obtain⟨⟨rfl,h1⟩,_⟩:=h;exact⟨bu ⟨rfl,h1⟩ cu,fun j e he=>by simp[fresh] at he⟩
 | sl e ih =>
   intro cs d bs nx h hl
   have h0:hp nx = .row true e d:=hl.an 0 _ rfl
   rcases h with ⟨rfl,rfl,rfl⟩|⟨b,cap,ak,el,rfl,rfl,h1,h2,h3,h4,h5⟩
   ·have hh:¬V.has nx:=fun h=>by have:=(hl.has 0 none rfl).1 h;cases this
    refine⟨bu ⟨true,e,[],h0,.inl ⟨hh,rfl,rfl⟩⟩ cu,fun j e' he=>?_⟩
    cases j with
    | zero=>simp only[fresh,List.getElem?_cons_zero,Option.some.injEq] at he;subst he;exact .inl ⟨hh,rfl⟩
    | succ j=>simp[fresh] at he
   ·have hh:V.has nx:=(hl.has 0 (some b) rfl).2 rfl
    have hb:V.aF nx=b:=hl.aF 0 b rfl
    refine⟨bu ⟨true,e,d,h0,.inr ⟨hh,cap,ak,el,by rw[hb],by rw[hb];exact h1,h2,h3⟩⟩ cu,fun j e' he=>?_⟩
    cases j with
    | zero =>
      simp only[fresh,List.getElem?_cons_zero,Option.some.injEq] at he;subst he
      refine .inr ⟨hh,ak,el,by rw[Nat.add_zero,hb];exact h1,h4,fun i hi=>?_⟩
      obtain⟨es,g1,g2,g3⟩:=h5 i hi
      exact⟨es,g1,g2,g3.mono (fun b hb=>.inl (hl.Af b hb)) (fun _ _=>rfl)⟩
    | succ j=>simp[fresh] at he
 | st t ih=>exact fun h hl=>ih h hl
 | pr a b fX fR =>
   intro cs d bs nx h hl
   obtain⟨c1,c2,b1,b2,rfl,rfl,h1,h2⟩:=h
   have hlen:=vZ nx h1
   have eo:pk V hp Z nx ((fresh a d.1 nx).2++(fresh b d.2 (nx+(fresh a d.1 nx).2.length)).2) (b1++b2):=by
    have:=hl
    unfold fresh at this
    simp only[cp,dz] at this
    exact this
   obtain⟨g1,g2⟩:=fX h1 eo.left
   obtain⟨g3,g4⟩:=fR h2 (eo.right hlen)
   unfold fresh
   simp only[cp,dz]
   refine⟨gW g1 g3,fun j e he=>?_⟩
   rcases Nat.lt_or_ge j (fresh a d.1 nx).2.length with hj|hj
   ·rw[List.getElem?_append_left hj] at he
    exact g2 j e he
   ·rw[List.getElem?_append_right hj] at he
    have:=g4 _ e he
    rwa [show nx+(fresh a d.1 nx).2.length+(j-(fresh a d.1 nx).2.length)=nx+j by omega] at this
 | ptr t ih=>intro cs d bs nx h _;exact h.elim
 | ca f t ih=>intro cs d bs nx h _;exact h.elim
 | gs wh e ih=>intro cs d bs nx h _;exact h.elim
theorem DD{Z:Nat->Prop}{t:Ty}{v:Value}{d:t.den}{bs:List (Option Nat)}{nx:Nat}(h:E1 Z w t v d bs)(hl:pk V hp Z nx (fJ t d nx).2 bs) :
 mo V hp w (fJ t d nx).1 v/\∀(j:Nat) e,(fJ t d nx).2[j]? = some e->e.ok V hp w (nx+j):=by
 obtain⟨cs,h1,h2⟩:=h
 obtain⟨g1,g2⟩:=WE h2 hl
 refine⟨?_,g2⟩
 unfold mo fJ
 unfold rK at h1
 simp only
 split
 ·rename_i ht;rw[if_pos ht] at h1;exact⟨_,h1,by simpa using g1⟩
 ·rename_i ht;rw[if_neg ht] at h1;rw[<-h1];exact g1
theorem Ay{Z:Nat->Prop}:∀ {ts:List Ty} {vs:List Value} {d:cj ts} {bs:List (Option Nat)} (nx:Nat),fu Z w ts vs d bs->(dh ts d nx).2.length=bs.length
 | [],vs,d,bs,nx,h=>by rw[h.2];rfl
 | [t],vs,d,bs,nx,h=>by obtain⟨v,_,cs,_,h2⟩:=h;exact vZ nx h2
 | t::u::r,vs,d,bs,nx,h=>by
   obtain⟨v,cI,b1,b2,rfl,rfl,⟨cs,_,h2⟩,h3⟩:=h
   show (dX _ _).length=_
   rw[cp,List.length_append,List.length_append]
   have e1:(fJ t d.1 nx).2.length=b1.length:=vZ nx h2
   rw[e1,Ay _ h3]
theorem Bp{Z:Nat->Prop}:∀ {ts:List Ty} {vs:List Value} {d:cj ts} {bs:List (Option Nat)} {nx:Nat},fu Z w ts vs d bs->pk V hp Z nx (dh ts d nx).2 bs →
 (dh ts d nx).1.length=vs.length/\(∀(j:Nat) x v,(dh ts d nx).1[j]? = some x->vs[j]? = some v->mo V hp w x v)/\∀(j:Nat) e,(dh ts d nx).2[j]? = some e->e.ok V hp w (nx+j)
 | [],vs,d,bs,nx,h,_=>by rw[h.1];exact⟨rfl,fun j x v hx=>by simp[dh] at hx,fun j e he=>by simp[dh] at he⟩
 | [t],vs,d,bs,nx,h,hl=>by
   obtain⟨v,rfl,h1⟩:=h
   obtain⟨g1,g2⟩:=DD h1 hl
   refine⟨rfl,fun j x v' hx hv=>?_,g2⟩
   cases j with
   | zero=>simp only[dh,List.getElem?_cons_zero,Option.some.injEq] at hx hv;subst hx;subst hv;exact g1
   | succ j=>simp at hv
 | t::u::r,vs,d,bs,nx,h,hl=>by
   obtain⟨v,cI,b1,b2,rfl,rfl,h1,h3⟩:=h
   have e1:(fJ t d.1 nx).2.length=b1.length:=by obtain⟨cs,_,h2⟩:=h1;exact vZ nx h2
   have eo:pk V hp Z nx ((fJ t d.1 nx).2++(dh (u::r) d.2 (nx+(fJ t d.1 nx).2.length)).2) (b1++b2):=by
    have:=hl
    unfold dh at this
    simp only[cp,dz] at this
    exact this
   obtain⟨g1,g2⟩:=DD h1 eo.left
   obtain⟨k1,k2,k3⟩:=Bp h3 (eo.right e1)
   unfold dh
   simp only[cp,dz]
   refine⟨by simp[k1],fun j x v' hx hv=>?_,fun j e he=>?_⟩
   ·cases j with
    | zero=>simp only[List.getElem?_cons_zero,Option.some.injEq] at hx hv;subst hx;subst hv;exact g1
    | succ j=>exact k2 j x v' (by simpa using hx) (by simpa using hv)
   ·rcases Nat.lt_or_ge j (fJ t d.1 nx).2.length with hj|hj
    ·rw[List.getElem?_append_left hj] at he
     exact g2 j e he
    ·rw[List.getElem?_append_right hj] at he
     have:=k3 _ e he
     rwa [show nx+(fJ t d.1 nx).2.length+(j-(fJ t d.1 nx).2.length)=nx+j by omega] at this
theorem Q7{x:Bool×List C}{v:Value}(h:mo V hp w x v):S.ok V hp w (jl x) v:=by
 unfold jl
 unfold mo at h
 split
 ·rename_i hx;rw[if_pos hx] at h;exact h
 ·rename_i hx;rw[if_neg hx] at h
  split
  ·rename_i c hc
   rw[hc] at h
   exact h.2 0 c v rfl rfl
  ·trivial
theorem I6{Z:Nat->Prop}{ts:List Ty}{vs:List Value}{d:cj ts}{bs:List (Option Nat)}{nx:Nat}(h:fu Z w ts vs d bs)(hl:pk V hp Z nx (dt ts d nx).2 bs) :
 S.ok V hp w (dt ts d nx).1 (qf vs)/\∀(j:Nat) e,(dt ts d nx).2[j]? = some e->e.ok V hp w (nx+j):=by
 have e2:(dt ts d nx).2=(dh ts d nx).2:=by unfold dt;split<;>rename_i h<;>rw[h]
 rw[e2] at hl ⊢
 obtain⟨g1,g2,g3⟩:=Bp h hl
 refine⟨?_,g3⟩
 unfold dt
 split
 ·rename_i x es hx
  rw[hx] at g1 g2
  cases vs with
  | nil=>simp at g1
  | cons v cI =>
    have:cI=[]:=by simp at g1;exact g1
    subst this
    exact Q7 (g2 0 x v rfl rfl)
 ·rename_i xs es lu hx
  rw[hx] at g1 g2
  have hv:qf vs = .tuple vs.toArray:=by
   unfold qf
   split
   ·rename_i v
    cases xs with
    | nil=>simp at g1
    | cons x br =>
      have:br=[]:=by simp at g1;exact g1
      subst this
      exact (lu x rfl).elim
   ·rfl
  rw[hv]
  exact⟨vs.toArray,rfl,by simpa using g1,fun j x v mj cr=>g2 j x v mj (by simpa using cr)⟩
theorem FK{Z:Nat->Prop}{ts:List Ty}{vs:List Value}{d:cj ts}{bs:List (Option Nat)}(nx:Nat)(h:fu Z w ts vs d bs):(dt ts d nx).2.length=bs.length:=by
 have e2:(dt ts d nx).2=(dh ts d nx).2:=by unfold dt;split<;>rename_i h<;>rw[h]
 rw[e2];exact Ay nx h
theorem FL(ts:List Ty)(d:cj ts)(nx:Nat):∀ e∈(dt ts d nx).2,∀ cs,e ≠ .bx cs:=by
 have e2:(dt ts d nx).2=(dh ts d nx).2:=by unfold dt;split<;>rename_i h<;>rw[h]
 rw[e2];clear e2
 have one:∀(t:Ty) (d:t.den) (nx:Nat),∀ e∈(fresh t d nx).2,∀ cs,e ≠ .bx cs:=by
  intro t
  induction t with
  | int k=>intro d nx e he;simp[fresh] at he
  | bool=>intro d nx e he;simp[fresh] at he
  | str=>intro d nx e he;simp[fresh] at he
  | sl e ih=>intro d nx e' he cs hc;simp[fresh] at he;rw[he] at hc;cases hc
  | st t ih=>exact fun d nx e he=>ih d nx e he
  | pr a b fX fR =>
    intro d nx e he
    unfold fresh at he
    simp only[cp,List.mem_append] at he
    exact he.elim (fX _ _ e) (fR _ _ e)
  | ptr t ih=>intro d nx e he;simp[fresh] at he
  | ca f t ih=>intro d nx e he;simp[fresh] at he
  | gs wh e ih=>intro d nx e he;simp[fresh] at he
 induction ts generalizing nx with
 | nil=>intro e he;simp[dh] at he
 | cons t r ih =>
   cases r with
   | nil=>exact one t d nx
   | cons u r =>
     intro e he
     unfold dh at he
     simp only[cp,List.mem_append] at he
     exact he.elim (one t d.1 nx e) (ih d.2 _ e)
theorem Vi{Z:Nat->Prop}:∀ {t:Ty} {cs:List Value} {d:t.den} {bs:List (Option Nat)},jg Z w t cs d bs->t.wf d:=by
 intro t
 induction t with
 | int k=>exact fun h=>h.1.wf
 | bool=>exact fun h=>trivial
 | str=>exact fun h=>h.1.wf
 | sl e ih =>
   intro cs d bs h
   rcases h with ⟨_,rfl,_⟩|⟨b,cap,ak,el,_,_,_,_,_,h4,h5⟩
   ·exact⟨Nat.zero_le _,fun x hx=>by simp at hx⟩
   ·refine⟨h4,fun x hx=>?_⟩
    obtain⟨i,hi,rfl⟩:=List.getElem_of_mem hx
    obtain⟨es,_,_,g3⟩:=h5 i hi
    exact g3.wf
 | st t ih=>exact fun h=>ih h
 | pr a b fX fR=>intro cs d bs h;obtain⟨c1,c2,b1,b2,_,_,h1,h2⟩:=h;exact⟨fX h1,fR h2⟩
 | ptr t ih=>intro cs d bs h;exact h.elim
 | ca f t ih=>intro cs d bs h;exact h.elim
 | gs wh e ih=>intro cs d bs h;exact h.elim
theorem qh{Z:Nat->Prop}:∀ {ts:List Ty} {vs:List Value} {d:cj ts} {bs:List (Option Nat)},fu Z w ts vs d bs->z5 ts d
 | [],_,_,_,_=>trivial
 | [t],_,_,_,h=>by obtain⟨v,_,cs,_,h2⟩:=h;exact Vi h2
 | t::u::r,_,_,_,h=>by obtain⟨v,cI,b1,b2,_,_,⟨cs,_,h2⟩,h3⟩:=h;exact⟨Vi h2,qh h3⟩
theorem DC(ts:List Ty)(d:cj ts)(nx:Nat):∀ e∈(dt ts d nx).2,¬e.hD:=by
 have e2:(dt ts d nx).2=(dh ts d nx).2:=by unfold dt;split<;>rename_i h<;>rw[h]
 rw[e2];clear e2
 have one:∀(t:Ty) (d:t.den) (nx:Nat),∀ e∈(fresh t d nx).2,¬e.hD:=by
  intro t
  induction t with
  | int k=>intro d nx e he;simp[fresh] at he
  | bool=>intro d nx e he;simp[fresh] at he
  | str=>intro d nx e he;simp[fresh] at he
  | sl e ih=>intro d nx e' he hc;simp[fresh] at he;rw[he] at hc;exact hc
  | st t ih=>exact fun d nx e he=>ih d nx e he
  | pr a b fX fR =>
    intro d nx e he
    unfold fresh at he
    simp only[cp,List.mem_append] at he
    exact he.elim (fX _ _ e) (fR _ _ e)
  | ptr t ih=>intro d nx e he;simp[fresh] at he
  | ca f t ih=>intro d nx e he;simp[fresh] at he
  | gs wh e ih=>intro d nx e he;simp[fresh] at he
 induction ts generalizing nx with
 | nil=>intro e he;simp[dh] at he
 | cons t ts ih =>
   cases ts with
   | nil=>exact fun e he=>one t d nx e he
   | cons u r =>
     intro e he
     have fG:e∈dX (fJ t d.1 nx).2 (dh (u::r) d.2 (nx+bL (fJ t d.1 nx).2)).2:=he
     rw[cp,List.mem_append] at fG
     exact fG.elim (one t d.1 nx e) (ih d.2 _ e)
theorem T9{base:Nat}{M:LM}{w0 w':World}(m:Mem base M w0 V hp w){nx:Nat}{rs:List Ty}{d:cj rs}{v:Value}(hr:vK w w' rs v d)(hd:∀ j,j<(dt rs d nx).2.length->hp (nx+j) = .dead) :
 ∃ V',Good base M w0 V hp w nx (dt rs d nx).1 (dt rs d nx).2 (Et rs d) v w' V':=by
 obtain⟨⟨Z1,bs,vs,rfl,h1,h2,h3,h4⟩,hk⟩:=hr
 have hlen:=FK nx h1
 have x:=VX.uu m hk (nx:=nx) (es:=(dt rs d nx).2) (bs:=bs) (Z:=Z1) hlen.symm hd
 have hl:pk (V.ext nx bs Z1) (ey hp nx (dt rs d nx).2) Z1 nx (dt rs d nx).2 bs:=⟨fun j b hb=>Vl.lD hb,fun j b hb=>Vl.nG hb,fun j e he=>sx he,fun b hb=>.inr hb⟩
 obtain⟨g1,g2⟩:=I6 h1 hl
 refine⟨_,⟨m.grow hk hlen.symm hd h2 h3 h4 (fun j cs hj=>?_) (fun j e he=>g2 j e he) (DC rs d nx),x,g1,fun p aJ=>?_⟩⟩
 ·exact (FL rs d nx _ (List.mem_of_getElem? hj) cs rfl).elim
 ·unfold Et at aJ
  split at aJ
  ·injection aJ with aJ;subst aJ;exact qh h1
  ·cases aJ
theorem aaK{Z1:Nat->Prop}:∀ {t:Ty} {cs:List Value} {d:t.den} {bs:List (Option Nat)},jg Z1 w t cs d bs->(∀ b,Z1 b->V.Z true b)->(∀ b,some b∈bs->V.Z true b)->bO V hp w (I9 t d) cs:=by
 intro t
 induction t with
 | int k=>intro cs d bs h _ _;obtain⟨⟨rfl,h1⟩,_⟩:=h;exact bu ⟨rfl,h1⟩ cu
 | bool=>intro cs d bs h _ _;obtain⟨h1,_⟩:=h;rw[show cs=_ from h1];exact bu ⟨rfl,trivial⟩ cu
 | str=>intro cs d bs h _ _;obtain⟨⟨rfl,h1⟩,_⟩:=h;exact bu ⟨rfl,h1⟩ cu
 | sl e ih =>
   intro cs d bs h hz hb
   rcases h with ⟨rfl,rfl,rfl⟩|⟨b,cap,ak,el,rfl,rfl,h1,h2,h3,h4,h5⟩
   ·exact bu ⟨none,0,rfl,Nat.le_refl _,Nat.zero_le _,fun i hi=>absurd hi (Nat.not_lt_zero _)⟩ cu
   ·refine bu ⟨some ⟨b,0,none⟩,cap,rfl,h3,h4,fun i hi=>?_⟩ cu
    obtain⟨es,g1,g2,g3⟩:=h5 i hi
    refine⟨⟨b,0,none⟩,rfl,rfl,hb b (List.mem_singleton.2 rfl),es,g1,fun j hj=>?_,g3.mono (fun b hb=>hz b hb) (fun _ _=>rfl)⟩
    rw[Nat.zero_add,show w.cell? ⟨b,i*e.size+j,none⟩=ak[i*e.size+j]? from by simp[World.cell?,h1]]
    exact g2 j _ (List.getElem?_eq_getElem hj)
 | st t ih=>exact fun h hz hb=>ih h hz hb
 | pr a b fX fR =>
   intro cs d bs h hz hb
   obtain⟨c1,c2,b1,b2,rfl,rfl,h1,h2⟩:=h
   unfold I9
   rw[cp]
   exact gW (fX h1 hz (fun b h=>hb b (List.mem_append_left _ h))) (fR h2 hz (fun b h=>hb b (List.mem_append_right _ h)))
 | ptr t ih=>intro cs d bs h _ _;exact h.elim
 | ca f t ih=>intro cs d bs h _ _;exact h.elim
 | gs wh e ih=>intro cs d bs h _ _;exact h.elim
theorem Zo{Z1:Nat->Prop}{ts:List Ty}{vs:List Value}{d:cj ts}{bs:List (Option Nat)}(h:fu Z1 w ts vs d bs)(hz:∀ b,Z1 b->V.Z true b)(hb:∀ b,some b∈bs->V.Z true b):S.ok V hp w (WG ts d) (qf vs):=by
 match ts,d,h with
 | [],d,h=>exact trivial
 | [t],d,h =>
   obtain⟨v,rfl,cs,h1,h2⟩:=h
   have g1:=aaK (V:=V) (hp:=hp) h2 hz hb
   show S.ok V hp w (jl (iQ t,I9 t d)) v
   unfold rK at h1
   unfold jl
   simp only
   split
   ·rename_i ht;rw[if_pos ht] at h1;exact⟨_,h1,by simpa using g1⟩
   ·rename_i ht
    rw[if_neg ht] at h1
    subst h1
    match hf:I9 t d,g1 with
    | [c],g1=>exact g1.2 0 c v rfl rfl
    | [],g1=>exact trivial
    | _::_::_,g1=>exact trivial
 | t::u::r,d,h=>exact trivial
theorem FN{base:Nat}{M:LM}{w0 w':World}(m:Mem base M w0 V hp w){nx:Nat}{fz:Bool}{rs:List Ty}{d:cj rs}{v:Value}(hr:vK w w' rs v d)(hd:∀ j,j<(CD fz rs d nx).2.length->hp (nx+j) = .dead) :
 ∃ V',Good base M w0 V hp w nx (CD fz rs d nx).1 (CD fz rs d nx).2 (Et rs d) v w' V':=by
 cases fz with
 | false=>exact T9 m hr hd
 | true =>
   obtain⟨⟨Z1,bs,vs,rfl,h1,h2,h3,h4⟩,hk⟩:=hr
   have dR:∀ j,j<([]:List az).length->hp (nx+j) = .dead:=fun j hj=>absurd hj (Nat.not_lt_zero _)
   have x:=VX.uu m hk (nx:=nx) (es:=[]) (bs:=[]) (Z:=fun b=>w.heap.size<=b/\b<w'.heap.size) rfl dR
   have g1:S.ok (V.ext nx [] (fun b=>w.heap.size<=b/\b<w'.heap.size)) (ey hp nx []) w' (WG rs d) (qf vs):=Zo h1 (fun b hb=>.inl (.inr (h4 b hb))) (fun b hb=>.inl (.inr ⟨(h3 b hb).1,(h3 b hb).2.1⟩))
   refine⟨_,⟨m.grow hk rfl dR (by simp) (fun b hb=>by cases hb) (fun b hb=>hb) (fun j cs hj=>by cases hj) (fun j e he=>by cases he) (fun e he=>by cases he),x,g1,fun p aJ=>?_⟩⟩
   unfold Et at aJ
   split at aJ
   ·injection aJ with aJ;subst aJ;exact qh h1
   ·cases aJ
end
end Go.SX
/- Every operation that writes nothing. No condition. -/
namespace Go.SX
open Go.RowKit
set_option linter.unusedVariables false
set_option linter.unusedSimpArgs false
def h_ (P : Program) (f : FuncId) : Prop := ∃ fn, P.funcs[f]? = some fn ∧ (fn.name == "runtime.NumGoroutine") = false ∧ fn.body.isNone = false
def eI(P:Program)(Γ:FuncId->Option PC):Prop:=∀ f c,Γ f=some c->n8 P f c/\h_ P f
theorem N0{P:Program}{f:FuncId}(h:h_ P f)(args:Array Value)(w:World):(callFunc f args).run P w = .ok (.enter f args) w:=by
 obtain⟨fn,h1,h2,h3⟩:=h
 simp only[callFunc,Sem.run_bind,run_program,Result.andThen_ok,h1]
 rw[if_neg (by rw[h2];simp)]
 rw[if_neg (by rw[h3];simp)]
 rfl
section
variable {P : Program} {T : cC} {Γ : FuncId → Option PC} {base : Nat} {M : LM} {w0 : World} {V : Vl} {hp lk : Nat → az} {w : World} {a : Act} {ev : Operand → S}
  {next : Act → World → Prop} {Q : Exit → Act → World → Prop}
theorem dZ{o:Oper}{v:Value}{w':World}(hr:(execOp a.eval o).run P w = .ok (.value v) w')(h:next (a.put o.dst v) w'):o.wp P a w next Q:=by
 unfold Oper.wp
 rw[hr]
 exact h
theorem wp_pure(m:Mem base M w0 V hp w){o:Oper}{r:QR}{e:Sem Value}{nx:Nat}(aJ:gX P V hp w r e)(he:execOp a.eval o=(do pure (.value (<-e))))
 (h:∀ v w' V',Good base M w0 V hp w nx r.res r.new r.hy v w' V'->next (a.put o.dst v) w'):o.wp P a w next Q:=by
 obtain⟨h1,h2,v,h3,h4⟩:=aJ
 refine dZ (v:=v) (w':=w) ?_ (h v w V ?_)
 ·rw[he];simp[h3]
 ·rw[h1,h2];exact fo m h4
theorem r9{f:Operand->S}{g:Operand->Value}(h:∀ x,S.ok V hp w (f x) (g x)):∀ l:List (Nat×Operand),oR V hp w (l.map fun p=>(p.1,f p.2)) (l.map fun p=>(p.1,g p.2))
 | []=>trivial
 | p::r=>⟨rfl,h p.2,r9 h r⟩
theorem IT(ek:∀ x,S.ok V hp w (ev x) (a.eval x)):∀ {l:List Operand} {ns:List Nat},uH (l.map ev)=some ns →
 l.map a.eval=ns.map (fun n=>Value.pointer (some ⟨V.aF n,0,none⟩))/\∀ n∈ns,V.has n/\∃ cs,hp n = .bx cs
 | [],ns,h=>by simp only[List.map_nil,uH,Option.some.injEq] at h;subst h;exact⟨rfl,fun n hn=>by simp at hn⟩
 | x::l,ns,h=>by
   simp only[List.map_cons] at h
   unfold uH at h
   split at h
   ·rename_i heq;cases heq
   ·rename_i n r heq
    simp only[List.cons.injEq] at heq
    obtain⟨e1,e2⟩:=heq
    rw[fv] at h
    cases hc:uH r with
    | none=>rw[hc] at h;cases h
    | some ms =>
      rw[hc] at h
      simp only[Option.map_some,Option.some.injEq] at h
      subst h
      rw[<-e2] at hc
      obtain⟨g1,g2⟩:=IT ek hc
      have hx:=ek x
      rw[e1] at hx
      obtain⟨k1,k2,k3⟩:=hx
      refine⟨by simp[g1,k1],fun q hq=>?_⟩
      simp only[List.mem_cons] at hq
      rcases hq with rfl|hq
      ·exact⟨k2,k3⟩
      ·exact g2 q hq
   ·cases h
theorem Wo(ek:∀ x,S.ok V hp w (ev x) (a.eval x)){l:Array Operand}{x:C}(h:l.toList.map ev=[.c x]):∃ y,l = #[y]/\C.ok V hp w x (a.eval y):=by
 cases l with
 | mk l =>
   cases l with
   | nil=>cases h
   | cons y l =>
     simp only[List.map_cons,List.cons.injEq,List.map_eq_nil_iff] at h
     obtain⟨h1,rfl⟩:=h
     have:=ek y
     rw[h1] at this
     exact⟨y,rfl,this⟩
theorem Ll(ek:∀ x,S.ok V hp w (ev x) (a.eval x)){l:Array Operand}{x y:C}(h:l.toList.map ev=[.c x,.c y]):∃ p q,l = #[p,q]/\C.ok V hp w x (a.eval p)/\C.ok V hp w y (a.eval q):=by
 cases l with
 | mk l =>
   cases l with
   | nil=>cases h
   | cons p l =>
     cases l with
     | nil=>simp at h
     | cons q l =>
       simp only[List.map_cons,List.cons.injEq,List.map_eq_nil_iff] at h
       obtain⟨h1,h2,rfl⟩:=h
       have g1:=ek p
       have g2:=ek q
       rw[h1] at g1
       rw[h2] at g2
       exact⟨p,q,rfl,g1,g2⟩
theorem OP{o:Oper}{c:Call}{g:FuncId}{x:Operand}{ea:Array Value}(ho:o.op = .call c)(hc:c.callee = .value x)(hv:a.eval x = .func (.func g) #[] ea)(hk:h_ P g){R:Ending->World->Prop}
 (tQ:Calls P g (c.args.map a.eval++ea) w R) (h:∀ e w',R e w'->∃ v,e = .returned v/\next (a.put o.dst v) w'):o.wp P a w next Q:=by
 unfold Oper.wp execOp
 simp only[ho,resolve,hc,hv,Deferred.ofValue,invoke,Sem.run_bind,Sem.run_pure,Result.andThen_ok,Array.append_empty,Array.empty_append,N0 hk]
 refine Calls.mono tQ fun e w' hr=>?_
 obtain⟨v,rfl,hn⟩:=h e w' hr
 exact hn
theorem Iy{o:Oper}{c:Call}{g:FuncId}{x:Operand}(ho:o.op = .call c)(hc:c.callee = .value x)(hx:C.ok V hp w (.fn g []) (a.eval x))(hk:h_ P g){R:Ending->World->Prop}
 (tQ:Calls P g (c.args.map a.eval) w R) (h:∀ e w',R e w'->∃ v,e = .returned v/\next (a.put o.dst v) w'):o.wp P a w next Q :=
 OP (ea := #[]) ho hc (by rw[hx.1];rfl) hk (by rw[Array.append_empty];exact tQ) h
theorem VA(hT:cv P T)(hΓ:eI P Γ)(m:Mem base M w0 V hp w)(hl:kN V hp lk w)(ek:∀ x,S.ok V hp w (ev x) (a.eval x)){o:Oper}{r:QR}{nx:Nat}
 (hq:jf T Γ lk nx ev o.op=some r) (hd:∀ j,j<r.new.length->hp (nx+j) = .dead) (ep:∀ p,r.ob=some p->p)
 (h:∀ v w' V',Good base M w0 V hp w nx r.res r.new r.hy v w' V'->next (a.put o.dst v) w'):o.wp P a w next Q:=by
 obtain⟨dst,op,ty,pos,aft,gd⟩:=o
 simp only at hq
 cases op with
 | move x =>
   simp only[jf,Option.some.injEq] at hq;subst hq
   exact dZ (v:=a.eval x) rfl (h _ _ _ (fo m (ek x)))
 | assign x =>
   simp only[jf,Option.some.injEq] at hq;subst hq
   exact dZ (v:=a.eval x) rfl (h _ _ _ (fo m (ek x)))
 | pick c x y =>
   simp only[jf,fv] at hq
   cases hs:K6 (ev c) (ev x) (ev y) with
   | none=>rw[hs] at hq;cases hq
   | some s =>
     rw[hs] at hq
     simp only[Option.map_some,Option.some.injEq] at hq;subst hq
     obtain⟨p,h1,h2⟩:=VB hs (ek c) (ek x) (ek y)
     refine dZ (v:=if p then a.eval x else a.eval y) ?_ (h _ _ _ (fo m h2))
     simp only[execOp,h1,Sem.run_bind,Sem.run_pure,Result.andThen_ok]
 | alloc t =>
   simp only[jf] at hq
   unfold Vx at hq
   cases ht:T t with
   | none=>rw[ht] at hq;cases hq
   | some ti =>
     rw[ht] at hq
     simp only at hq
     obtain⟨⟨i,z,g1,g2,g3,g4,g5,g6⟩,g7,g8⟩:=hJ (hT t ti ht)
     have Bu:hp nx = .dead:=by
      split at hq<;>(simp only[Option.some.injEq] at hq;subst hq;exact hd 0 (by simp))
     split at hq
     ·rename_i len te es n dQ hk
      simp only[Option.some.injEq] at hq;subst hq
      obtain⟨a0,a1,⟨i2,a2,a3⟩,a4,a5,a6,a7,a8,a9⟩:=N8 (hT t ti ht) hk
      obtain⟨V',hg⟩:=pV m Bu ti.zero.toArray t (.row true dQ (List.replicate n dQ.gh)) (.c (.eR nx 0 0)) (.pointer (some ⟨w.heap.size,0,none⟩)) (fun h=>h)
       (fun V' aJ w' x k1 k2 k3 k4=>by
         refine⟨.inr ⟨k1,_,t,by rw[k2];exact k4,by rw[List.length_replicate];unfold cY;omega,fun j hj=>?_⟩,k1,true,dQ,_,k3,by rw[List.length_replicate];omega,by rw[k2,Nat.zero_mul]⟩
         obtain⟨jc,q1,q2,q3⟩:=JR (Z:=V'.Z true) (w':=w') a5 n j hj
         exact⟨jc,q1,fun a u hu=>by rw[a0];simpa using q2 a u hu,q3⟩)
      refine dZ ?_ (h _ _ _ hg)
      simp only[execOp,Instr.alloc,Sem.run_bind,ot g1 g4,Result.andThen_ok,newVar,newRow,g5,run_newObj_alloc,Sem.run_pure]
     ·simp only[Option.some.injEq] at hq;subst hq
      obtain⟨V',hg⟩:=pV m Bu ti.zero.toArray t (.bx (lmap cell ti.zero)) (.c (.box nx 0)) (.pointer (some ⟨w.heap.size,0,none⟩)) (fun h=>h)
       (fun V' aJ w' x k1 k2 k3 k4=>⟨⟨_,t,by rw[k2];exact k4,by simpa using g6 V' aJ w'⟩,by rw[<-k2];exact⟨rfl,k1,_,k3⟩⟩)
      refine dZ ?_ (h _ _ _ hg)
      simp only[execOp,Instr.alloc,Sem.run_bind,ot g1 g4,Result.andThen_ok,newVar,newRow,g5,run_newObj_alloc,Sem.run_pure]
 | box t x =>
   simp only[jf] at hq
   cases hc:(ev x).cells with
   | none=>rw[hc] at hq;cases hq
   | some cs =>
     rw[hc] at hq
     simp only[Option.some.injEq] at hq;subst hq
     have ho:=yL hc (ek x)
     have Bu:hp nx = .dead:=hd 0 (by simp)
     obtain⟨V',hg⟩:=pV m Bu (a.eval x).cells t (.bx cs) (.c (.box nx 0)) (.pointer (some ⟨w.heap.size,0,none⟩)) (fun h=>h)
      (fun V' aJ w' x k1 k2 k3 k4=>⟨⟨_,t,by rw[k2];exact k4,sF x ho⟩,by rw[<-k2];exact⟨rfl,k1,_,k3⟩⟩)
     refine dZ ?_ (h _ _ _ hg)
     simp only[execOp,Instr.box,Sem.run_bind,newVar,newRow,run_newObj_alloc,Result.andThen_ok,Sem.run_pure]
 | build t parts =>
   simp only[jf,bS] at hq
   have o7:=r9 ek parts.toList
   exact wp_pure m (SJ (qs:=parts.map fun (i,x)=>(i,a.eval x)) hT hq (by simpa using o7)) rfl h
 | buildSlice t n parts =>
   simp only[jf,bS] at hq
   have o7:=r9 ek parts.toList
   have iN:hp nx = .dead:=by
    have bo:0<r.new.length:=by
     unfold lL at hq
     cases he:ll T t with
     | none=>rw[he] at hq;cases hq
     | some e =>
       rw[he] at hq
       simp only at hq
       unfold tt at hq
       split at hq
       ·rw[fv] at hq
        cases hs:lf lk (F_ e (parts.toList.map fun p=>(p.1,ev p.2))) 0 (parts.toList.map fun p=>(p.1,ev p.2)) with
        | none=>rw[hs] at hq;cases hq
        | some xs=>rw[hs] at hq;simp only[Option.map_some,Option.some.injEq] at hq;subst hq;simp
       ·cases hq
    exact hd 0 bo
   obtain⟨v,w',V',h1,h2⟩:=wB (qs:=parts.map fun (i,x)=>(i,a.eval x)) hT m iN hq (by simpa using o7)
   refine dZ (v:=v) (w':=w') ?_ (h _ _ _ h2)
   simp only[execOp,Sem.run_bind,h1,Result.andThen_ok,Sem.run_pure]
 | load t p =>
   simp only[jf] at hq
   have et:=ek p
   cases hc:ev p with
   | c x =>
     rw[hc] at hq et
     exact wp_pure m (JD hT hl hq et) rfl h
   | _=>rw[hc] at hq;cases hq
 | nilCheck x =>
   simp only[jf] at hq
   split at hq
   ·rename_i RT
    simp only[Option.some.injEq] at hq;subst hq
    have hx:=ek x
    refine dZ (v:=a.eval x) (w':=w) ?_ (h _ _ _ (fo m hx))
    cases hc:ev x with
    | c y =>
      rw[hc] at RT hx
      cases y with
      | box n off=>simp only[execOp,hx.1,Sem.run_bind,Sem.run_pure]
      | at_ fr t d off=>obtain⟨b,o,e1,_⟩:=hx;simp only[execOp,e1,Sem.run_bind,Sem.run_pure]
      | eR n i off=>obtain⟨_,_,_,_,_,_,e1⟩:=hx;simp only[execOp,e1,Sem.run_bind,Sem.run_pure]
      | fn f ea=>simp only[execOp,hx.1,Sem.run_bind,Sem.run_pure]
      | _=>cases RT
    | _=>rw[hc] at RT;cases RT
   ·cases hq
 | binOp op xt x y yt =>
   simp only[jf] at hq
   have h1:=ek x
   have h2:=ek y
   cases hc:ev x with
   | c u =>
     cases fF:ev y with
     | c v=>rw[hc,fF] at hq;rw[hc] at h1;rw[fF] at h2;exact wp_pure m (Vz hT hq ep h1 h2 x y) rfl h
     | _=>rw[hc,fF] at hq;cases hq
   | agg u =>
     cases fF:ev y with
     | agg v =>
       rw[hc,fF] at hq;rw[hc] at h1;rw[fF] at h2
       obtain⟨us,e1,g1⟩:=h1
       obtain⟨vs,e2,g2⟩:=h2
       have hr:=Vy hT hq g1 g2 x y
       rw[<-e1,<-e2] at hr
       exact wp_pure m hr rfl h
     | _=>rw[hc,fF] at hq;cases hq
   | _=>rw[hc] at hq;cases hq
 | unOp op xt x =>
   simp only[jf] at hq
   have h1:=ek x
   cases hc:ev x with
   | c u=>rw[hc] at hq h1;exact wp_pure m (ZH hq h1) rfl h
   | _=>rw[hc] at hq;cases hq
 | convert s t x =>
   simp only[jf] at hq
   have h1:=ek x
   split at hq
   ·rename_i ti k sz gJ z D2 sO k' n hs heq hx
    simp only[Option.some.injEq] at hq;subst hq
    rw[hx] at h1
    obtain⟨e1,_⟩:=ok_int (V:=V) (hp:=hp) (w:=w) h1
    have hu:=UJ (hJ (hT t _ heq)).2.2
    obtain⟨d,dR,_⟩:=VV (hT s ti hs)
    refine dZ (v:=.int k (k.wrap n)) (w':=w) ?_ (h _ _ _ (fo m ⟨rfl,gN _ _⟩))
    simp[execOp,convert,run_underlying dR,run_underlying hu,e1,Conv.intToInt]
   ·rename_i e es eb dQ sz gJ z D2 sO sz2 by2 z2 ty2 aho c aew aex hx
    split at hq
    ·rename_i sz3 by3 z3 ty3 ahp aey
     cases iO:rB lk (.int .u8) c with
     | none=>rw[iO] at hq;cases hq
     | some xs =>
       rw[iO] at hq
       simp only[omap,Option.some.injEq] at hq;subst hq
       rw[hx] at h1
       obtain⟨hus,_⟩:=rE (hJ (hT s _ aew)).2.2
       have hue:=UJ (hJ (hT e _ aey)).2.2
       have hut:Program.underlying P t=some .string:=by
        have hk:=(hJ (hT t _ aex)).2.2
        unfold ml at hk
        simp only at hk
        split at hk<;>first|assumption|cases hk
       obtain⟨av,cap,he1,WN,hlen,xX⟩:=QX hl iO h1
       have he1:a.eval x = .slice av xs.length cap:=by injection he1
       have cD:(strOfNums xs).size<=maxLen:=by
        rw[strOfNums_size]
        unfold cY at hlen
        unfold maxLen
        omega
       have acS:(convert s t (.slice av xs.length cap)).run P w = .ok (.string (strOfNums xs)) w:=by
        match xs,xX with
        | [],_ =>
          show (convert s t (.slice av 0 cap)).run P w=_
          rw[run_convert_bytes_string w s t e av 0 cap hus hue hut]
          cases av<;>simp[Conv.bytesToString,loadCells]
          all_goals rfl
        | y::ys,xX =>
          obtain⟨ad,e5,e6,_,_⟩:=xX 0 (by simp)
          obtain⟨b,o,sp⟩:=ad
          simp only at e6
          subst e6;subst e5
          refine run_convert_bytes_arg w s e hus hue b o _ cap (y::ys) rfl (fun i hi=>?_) t hut
          obtain⟨ad,f1,f2,_,cs,f3,f4,f5⟩:=xX i hi
          injection f1 with f1
          subst f1
          obtain⟨f6,_⟩:=(f5:cs=[.int .u8 _]/\_)
          subst f6
          have f7:=f4 0 (by simp)
          rw[show (Ty.int u8).size=1 from rfl,Nat.mul_one,Nat.add_zero] at f7
          rw[f7,List.getD_eq_getElem?_getD,List.getElem?_eq_getElem hi]
          rfl
       refine dZ (v:=.string (strOfNums xs)) (w':=w) ?_ (h _ _ _ (fo m ⟨rfl,cD⟩))
       simp[execOp,he1,acS]
    ·cases hq
   ·cases hq
 | makeSlice t l c =>
   simp only[jf] at hq
   have h1:=ek l
   have h2:=ek c
   cases hc:ev l with
   | c u =>
     cases fF:ev c with
     | c v =>
       rw[hc,fF] at hq;rw[hc] at h1;rw[fF] at h2
       have Bu:hp nx = .dead:=by
        have bo:0<r.new.length:=by
         simp only at hq
         unfold tY at hq
         split at hq
         ·split at hq
          ·injection hq with hq;subst hq;simp
          ·cases hq
         ·cases hq
        exact hd 0 bo
       obtain⟨x,w',V',g1,g2⟩:=H0 hT m Bu hq ep h1 h2
       refine dZ (v:=x) (w':=w') ?_ (h _ _ _ g2)
       simp only[execOp,Sem.run_bind,g1,Result.andThen_ok,Sem.run_pure]
     | _=>rw[hc,fF] at hq;cases hq
   | _=>rw[hc] at hq;cases hq
 | slice t x lo hi mx =>
   cases mx with
   | some _=>cases hq
   | none =>
     simp only[jf,fv] at hq
     have h1:=ek x
     cases hc:ev x with
     | c u =>
       rw[hc] at hq h1
       refine wp_pure m (SK (lv:=lo.map a.eval) (hv:=hi.map a.eval) hT hl hq ep h1 ?_ ?_ ?_ ?_) rfl h
       ·intro s v hs hv
        cases lo with
        | none=>cases hs
        | some y=>simp only[Option.map_some,Option.some.injEq] at hs hv;rw[<-hs,<-hv];exact ek y
       ·cases lo<;>simp
       ·intro s v hs hv
        cases hi with
        | none=>cases hs
        | some y=>simp only[Option.map_some,Option.some.injEq] at hs hv;rw[<-hs,<-hv];exact ek y
       ·cases hi<;>simp
     | _=>rw[hc] at hq;cases hq
 | fieldAddr t x f =>
   simp only[jf] at hq
   have h1:=ek x
   cases hc:ev x with
   | c u=>rw[hc] at hq h1;exact wp_pure m (HW hT hq h1) rfl h
   | _=>rw[hc] at hq;cases hq
 | field t x f =>
   simp only[jf] at hq
   have h1:=ek x
   split at hq
   ·rename_i off n ag cs hf hx
    rw[hx] at h1
    rw[fv] at hq
    cases hpo:partOf cs off n with
    | none=>rw[hpo] at hq;cases hq
    | some r' =>
      rw[hpo] at hq
      simp only[Option.map_some,Option.some.injEq] at hq;subst hq
      obtain⟨vs,e1,ho⟩:=h1
      obtain⟨k1,k2⟩:=r8 hpo
      obtain⟨fields,fd,j,d,g1,g2,g3,g4,g5,g6,g7,g8⟩:=fU hT hf
      have cm:=nh (ng ho off) n
      rw[<-k1] at cm
      simp only at g3 g6 g8
      have hlen:((vs.toList.drop off).take n).length=n:=by rw[<-cm.1,k2]
      have abq:off+n<=vs.size:=by
       rw[List.length_take,List.length_drop] at hlen
       have:0<n:=Nat.pos_of_ne_zero g4
       simp at hlen;omega
      cases ag with
      | true =>
        refine dZ (v:=.agg (vs.extract off (off+n))) (w':=w) ?_ (h _ _ _ (fo m ⟨vs.extract off (off+n),rfl,?_⟩))
        ·simp only[execOp,Instr.field,part,e1,asAgg,Sem.run_bind,run_underlying g1,Result.andThen_ok,g2,Sem.run_pure,sM g7,g8,if_true,run_sizeOf g5,g6,g3]
        ·rw[Array.toList_extract]
         have:(vs.toList.take (off+n)).drop off=(vs.toList.drop off).take n:=by rw[List.drop_take];simp
         simpa[List.extract_eq_take_drop,this] using cm
      | false =>
        have Je:n=1\/n≠1:=by omega
        have AE:∃ v,vs[off]? = some v:=⟨vs[off]'(by have:0<n:=Nat.pos_of_ne_zero g4;omega),Array.getElem?_eq_getElem _⟩
        obtain⟨v,hv⟩:=AE
        refine dZ (v:=v) (w':=w) ?_ (h _ _ _ (fo m ?_))
        ·simp only[execOp,Instr.field,part,e1,asAgg,Sem.run_bind,run_underlying g1,Result.andThen_ok,g2,Sem.run_pure,sM g7,g8,Bool.false_eq_true,if_false,g3,hv]
        ·show S.ok V hp w (jl (false,r')) v
         unfold jl
         simp only[Bool.false_eq_true,if_false]
         split
         ·obtain⟨v',cI,e2,k3,_⟩:=df cm
          have hn:n=1:=by simpa using k2.symm
          have:((vs.toList.drop off).take n)[0]? = some v:=by
           rw[List.getElem?_take,if_pos (by omega),List.getElem?_drop]
           simpa using hv
          rw[e2] at this
          simp only[List.getElem?_cons_zero,Option.some.injEq] at this
          rw[<-this];exact k3
         ·trivial
   ·cases hq
 | indexAddr t x i =>
   simp only[jf] at hq
   have h1:=ek x
   have h2:=ek i
   cases hc:ev x with
   | c u =>
     cases fF:ev i with
     | c v=>rw[hc,fF] at hq;rw[hc] at h1;rw[fF] at h2;exact wp_pure m (HY hT hl hq ep h1 h2) rfl h
     | _=>rw[hc,fF] at hq;cases hq
   | _=>rw[hc] at hq;cases hq
 | extract x i =>
   simp only[jf] at hq
   have h1:=ek x
   cases hc:ev x with
   | sP vs =>
     rw[hc] at hq h1
     simp only[fv,fa] at hq
     cases hv:vs[i]? with
     | none=>rw[hv] at hq;cases hq
     | some y =>
       rw[hv] at hq
       simp only[Option.map_some,Option.some.injEq] at hq;subst hq
       obtain⟨us,e1,e2,e3⟩:=h1
       have aT:=(List.getElem?_eq_some_iff.1 hv).1
       have hu:us[i]? = some (us[i]'(by omega)):=Array.getElem?_eq_getElem _
       refine dZ (v:=us[i]'(by omega)) (w':=w) ?_ (h _ _ _ (fo m (Q7 (e3 i y _ hv hu))))
       simp only[execOp,Instr.extract,e1,hu,Sem.run_bind,Sem.run_pure,Result.andThen_ok]
   | _=>rw[hc] at hq;cases hq
 | makeFunc fn first captured =>
   cases fn with
   | func f =>
     simp only[jf] at hq
     split at hq
     ·rename_i afV
      rw[fv,bS] at hq
      cases hc:uH (captured.toList.map ev) with
      | none=>rw[hc] at hq;cases hq
      | some ns =>
        rw[hc] at hq
        simp only[Option.map_some,Option.some.injEq] at hq;subst hq
        obtain⟨g1,g2⟩:=IT ek hc
        refine dZ (v:=.func (.func f) #[] (captured.map a.eval)) (w':=w) ?_ (h _ _ _ (fo m ⟨?_,g2⟩))
        ·have:first = #[]:=by cases first;simp_all
         subst this
         simp[execOp,Instr.makeFunc]
        ·congr 1
         apply Array.ext'
         simpa using g1
     ·cases hq
   | _=>cases hq
 | call c =>
   simp only[jf] at hq
   split at hq
   ·rename_i b hb
    rw[bS] at hq
    unfold NL at hq
    split at hq
    ·rename_i t x Ud Uc
     rw[fv] at hq
     cases hn:Sa T lk t x with
     | none=>rw[hn] at hq;cases hq
     | some n =>
       rw[hn] at hq
       simp only[Option.map_some,Option.some.injEq] at hq;subst hq
       obtain⟨y,hy,hya⟩:=Wo ek Uc
       have aer:c.argTypes = #[t]:=by cases hca:c.argTypes;rw[hca] at Ud;simp at Ud;rw[Ud]
       obtain⟨g1,g2⟩:=Xf (ty:=ty) hT m.cE hl hn hya
       refine dZ (v:=.int .i64 n) (w':=w) ?_ (h _ _ _ (fo m ⟨rfl,g2⟩))
       simp only[execOp,resolve,hb,invoke,builtin,hy,aer,Sem.run_bind,Sem.run_pure,Result.andThen_ok,List.map_toArray,List.map_cons,List.map_nil,g1]
    ·rename_i k x k' y Uc
     split at hq
     ·rename_i hk
      subst hk
      simp only[Option.some.injEq] at hq;subst hq
      obtain⟨p,q,hpq,h1,h2⟩:=Ll ek Uc
      obtain⟨e1,g1⟩:=ok_int h1
      obtain⟨e2,g2⟩:=ok_int h2
      refine dZ (v:=.int k' (pZ x y)) (w':=w) ?_ (h _ _ _ (fo m ⟨rfl,?_⟩))
      ·simp[execOp,resolve,hb,invoke,builtin,hpq,e1,e2,Builtin.min_,Builtin.min2,pZ]
      ·show k'.min<=pZ x y/\pZ x y<=k'.max
       unfold pZ;split<;>assumption
     ·cases hq
    ·rename_i k x k' y Uc
     split at hq
     ·rename_i hk
      subst hk
      simp only[Option.some.injEq] at hq;subst hq
      obtain⟨p,q,hpq,h1,h2⟩:=Ll ek Uc
      obtain⟨e1,g1⟩:=ok_int h1
      obtain⟨e2,g2⟩:=ok_int h2
      refine dZ (v:=.int k' (imax x y)) (w':=w) ?_ (h _ _ _ (fo m ⟨rfl,?_⟩))
      ·simp[execOp,resolve,hb,invoke,builtin,hpq,e1,e2,Builtin.max_,Builtin.max2,imax]
      ·show k'.min<=imax x y/\imax x y<=k'.max
       unfold imax;split<;>assumption
     ·cases hq
    ·cases hq
   ·rename_i x hx
    have h1:=ek x
    split at hq
    ·rename_i g hg
     rw[hg] at h1
     rw[bS] at hq
     unfold K5 at hq
     cases hc:Γ g with
     | none=>rw[hc] at hq;cases hq
     | some pc =>
       rw[hc] at hq
       simp only at hq
       cases dR:mN lk pc.ts (c.args.toList.map ev) with
       | none=>rw[dR] at hq;cases hq
       | some d =>
         rw[dR] at hq
         simp only[Option.some.injEq] at hq;subst hq
         obtain⟨k1,k2⟩:=hΓ g pc hc
         have hargs:=xz hl pc.ts (vs:=c.args.toList.map a.eval) dR (by simp) (fun i s v hi hv=>by
          rw[List.getElem?_map] at hi hv
          cases mj:c.args.toList[i]? with
          | none=>rw[mj] at hi;cases hi
          | some y =>
            rw[mj] at hi hv
            simp only[Option.map_some,Option.some.injEq] at hi hv
            rw[<-hi,<-hv];exact ek y)
         have tQ:=k1 w _ d hargs (ep _ rfl)
         refine Iy (R:=fun e w'=>∃ v,e = .returned v/\vK w w' pc.rs v (pc.F d)) rfl hx h1 k2 (by rw[show c.args.map a.eval=(c.args.toList.map a.eval).toArray from Array.ext' (by simp)];exact tQ) (fun e w' hr=>?_)
         obtain⟨v,rfl,hr⟩:=hr
         obtain⟨V',kH⟩:=FN m hr hd
         exact⟨v,rfl,h v w' V' kH⟩
    ·rename_i fr g t d0 hg
     rw[hg] at h1
     rw[bS,bS,cp] at hq
     unfold K5 at hq
     cases hc:Γ g with
     | none=>rw[hc] at hq;cases hq
     | some pc =>
       rw[hc] at hq
       simp only at hq
       cases dR:mN lk pc.ts (c.args.toList.map ev++(expand fr t d0).map S.c) with
       | none=>rw[dR] at hq;cases hq
       | some d =>
         rw[dR] at hq
         simp only[Option.some.injEq] at hq;subst hq
         obtain⟨k1,k2⟩:=hΓ g pc hc
         have pW:aI (V.Z fr) w (.ca g t) [a.eval x] d0:=h1
         obtain⟨ea,e1,e2⟩:=pW
         injection e1 with e1 _
         have ho:=sG (V:=V) (hp:=hp) fr t e2
         have hargs:=xz hl pc.ts (vs:=c.args.toList.map a.eval++ea.toList) dR (by simp[ho.1]) (fun i s v hi hv=>by
          rcases Nat.lt_or_ge i c.args.toList.length with aT|jV
          ·rw[List.getElem?_append_left (by simpa using aT),List.getElem?_map] at hi
           rw[List.getElem?_append_left (by simpa using aT),List.getElem?_map] at hv
           cases mj:c.args.toList[i]? with
           | none=>rw[mj] at hi;cases hi
           | some y =>
             rw[mj] at hi hv
             simp only[Option.map_some,Option.some.injEq] at hi hv
             rw[<-hi,<-hv];exact ek y
          ·rw[List.getElem?_append_right (by simpa using jV),List.getElem?_map] at hi
           rw[List.getElem?_append_right (by simpa using jV)] at hv
           simp only[List.length_map] at hi hv
           cases hy:(expand fr t d0)[i-c.args.toList.length]? with
           | none=>rw[hy] at hi;cases hi
           | some y =>
             rw[hy] at hi
             simp only[Option.map_some,Option.some.injEq] at hi
             rw[<-hi]
             exact ho.2 _ y v hy hv)
         have tQ:=k1 w _ d hargs (ep _ rfl)
         refine OP (R:=fun e w'=>∃ v,e = .returned v/\vK w w' pc.rs v (pc.F d)) rfl hx e1 k2 (by rw[show c.args.map a.eval++ea=(c.args.toList.map a.eval++ea.toList).toArray from Array.ext' (by simp)];exact tQ) (fun e w' hr=>?_)
         obtain⟨v,rfl,hr⟩:=hr
         obtain⟨V',kH⟩:=FN m hr hd
         exact⟨v,rfl,h v w' V' kH⟩
    ·cases hq
   ·cases hq
 | _=>cases hq
end
end Go.SX
