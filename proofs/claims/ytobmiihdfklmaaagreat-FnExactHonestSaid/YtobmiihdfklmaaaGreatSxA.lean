/- A verified symbolic executor and its contracts (part SxA). No condition. -/
import Derived.Orders
import Derived.Below
import GoSem.ClaimData
import Derived.Laws.BytesArg
import Derived.Laws.OwnMore
import Derived.Laws.CopyRow
import Derived.Laws.NewFold
import Derived.Laws.Tables
import Derived.Laws.StructEq
set_option linter.unusedVariables false
set_option linter.unusedSimpArgs false
open Go.IntKind (i64 u8)
/- The data that a Go value of plain types reads as, and what keeps such a reading: types, typed data, readings of cells. No condition. -/
namespace Go.SX
open Go.RowKit
set_option linter.unusedVariables false
inductive Ty where
 | int (k:IntKind)
 | bool
 | str
 | sl (e:Ty)
 | st (t:Ty)
 | pr (a b:Ty)
 | ptr (t:Ty)
 | bS (f:Nat) (t:Ty)
 | gs (wh:Bool) (e:Ty)
 deriving DecidableEq
@[reducible] def Ty.den:Ty->Type
 | .int _=>Int
 | .bool=>Bool
 | .str=>ByteArray
 | .sl e=>List e.den
 | .st t=>t.den
 | .pr a b=>a.den×b.den
 | .ptr t=>t.den
 | .bS _ t=>t.den
 | .gs _ e=>Nat×List e.den
def Ty.size:Ty->Nat
 | .st t=>t.size
 | .pr a b=>a.size+b.size
 | _=>1
def Ty.en:(t:Ty)->t.den
 | .int _=>(0:Int)
 | .bool=>false
 | .str=>ByteArray.empty
 | .sl _=>[]
 | .st t=>t.en
 | .pr a b=>(a.en,b.en)
 | .ptr t=>t.en
 | .bS _ t=>t.en
 | .gs _ _=>(0,[])
def Ty.flat:Ty->Bool
 | .sl _=>false
 | .st t=>t.flat
 | .pr a b=>a.flat&&b.flat
 | .ptr _=>false
 | .bS _ _=>false
 | .gs _ _=>false
 | _=>true
def Ty.plain:Ty->Bool
 | .st t=>t.plain
 | .pr a b=>a.plain&&b.plain
 | .ptr _=>false
 | .bS _ _=>false
 | _=>true
def cQ:Nat:=9223372036854775807
def Ty.wf:(t:Ty)->t.den->Prop
 | .int k,n=>k.min<=n/\n<=k.max
 | .bool,_=>True
 | .str,s=>s.size<=maxLen
 | .sl e,xs=>xs.length<=cQ/\∀ x∈xs,e.wf x
 | .st t,d=>t.wf d
 | .pr a b,d=>a.wf d.1/\b.wf d.2
 | .ptr t,d=>t.wf d
 | .bS _ t,d=>t.wf d
 | .gs _ e,d=>d.2.length<=cQ/\∀ x∈d.2,e.wf x
def l9(w:World)(b off:Nat)(cs:List Value):Prop:=∀ j (h:j<cs.length),w.cell? ⟨b,off+j,none⟩=some cs[j]
def Rp(b:Nat)(cs:List Value):Prop:=∃ o n cap,cs=[.slice (some ⟨b,o,none⟩) n cap]
def Ow(w:World)(b:Nat)(cs:List Value)(sz:Nat):Prop:=∃ n cap ay el,cs=[.slice (some ⟨b,0,none⟩) n cap]/\w.heap[b]? = some (.cells ay el (0,0))/\ay.size=cap*sz
def aH(Z:Nat->Prop)(w:World):(t:Ty)->List Value->t.den->Prop
 | .int k,cs,n=>cs=[.int k n]/\k.min<=n/\n<=k.max
 | .bool,cs,b=>cs=[.bool b]
 | .str,cs,s=>cs=[.string s]/\s.size<=maxLen
 | .sl e,cs,xs=>∃ a cap,cs=[.slice a xs.length cap]/\xs.length<=cap/\xs.length<=cQ ∧
    ∀ i (h:i<xs.length),∃ ad:Addr,a=some ad/\ad.spot=none/\Z ad.block ∧
     ∃ es,es.length=e.size/\l9 w ad.block (ad.off+i*e.size) es/\aH Z w e es xs[i]
 | .st t,cs,d=>aH Z w t cs d
 | .pr a b,cs,d=>∃ c1 c2,cs=c1++c2/\aH Z w a c1 d.1/\aH Z w b c2 d.2
 | .ptr t,cs,d=>∃ b o,cs=[.pointer (some ⟨b,o,none⟩)]/\Z b/\∃ es,es.length=t.size/\l9 w b o es/\aH Z w t es d
 | .bS f t,cs,d=>∃ da:Array Value,cs=[.func (.func f) #[] da]/\aH Z w t da.toList d
 | .gs wh e,cs,d=>(∃ a cap,cs=[.slice a d.2.length cap]/\d.2.length<=cap/\d.2.length<=cQ ∧
    ∀ i (h:i<d.2.length),∃ ad:Addr,a=some ad/\ad.spot=none/\Z ad.block ∧
     ∃ es,es.length=e.size/\l9 w ad.block (ad.off+i*e.size) es/\aH Z w e es d.2[i])/\(0<d.2.length->Rp d.1 cs)/\(wh=true->0<d.2.length->Ow w d.1 cs e.size)
def kL(Z:Nat->Prop)(w w':World):Prop:=∀ b,Z b->w'.heap[b]? = w.heap[b]?
theorem kL.refl(Z:Nat->Prop)(w:World):kL Z w w:=fun _ _=>rfl
theorem kL.trans{Z:Nat->Prop}{a b c:World}(h:kL Z a b)(k:kL Z b c):kL Z a c:=fun x hx=>(k x hx).trans (h x hx)
theorem kL.mono{Z Z':Nat->Prop}{a b:World}(h:kL Z a b)(hz:∀ x,Z' x->Z x):kL Z' a b:=fun x hx=>h x (hz x hx)
theorem h_{w w':World}{b off:Nat}{cs:List Value}(hb:w'.heap[b]? = w.heap[b]?)(h:l9 w b off cs):l9 w' b off cs :=
 fun j hj=>(World.cell?_of_block hb).trans (h j hj)
theorem aH.mono{Z Z':Nat->Prop}{w w':World}(hz:∀ b,Z b->Z' b)(ha:kL Z w w'):∀ {t:Ty} {cs:List Value} {d:t.den},aH Z w t cs d->aH Z' w' t cs d:=by
 intro t
 induction t with
 | int k=>exact fun h=>h
 | bool=>exact fun h=>h
 | str=>exact fun h=>h
 | sl e ih =>
   intro cs xs h
   obtain⟨a,cap,h1,h2,h3,h4⟩:=h
   refine⟨a,cap,h1,h2,h3,fun i hi=>?_⟩
   obtain⟨ad,e1,e2,e3,es,e4,e5,e6⟩:=h4 i hi
   exact⟨ad,e1,e2,hz _ e3,es,e4,h_ (ha _ e3) e5,ih e6⟩
 | st t ih=>exact fun h=>ih h
 | pr a b eM eN =>
   intro cs d h
   obtain⟨c1,c2,h1,h2,h3⟩:=h
   exact⟨c1,c2,h1,eM h2,eN h3⟩
 | ptr t ih =>
   intro cs d h
   obtain⟨b,o,h1,h2,es,h3,h4,h5⟩:=h
   exact⟨b,o,h1,hz b h2,es,h3,h_ (ha b h2) h4,ih h5⟩
 | bS f t ih =>
   intro cs d h
   obtain⟨da,h1,h2⟩:=h
   exact⟨da,h1,ih h2⟩
 | gs wh e ih =>
   intro cs d h
   obtain⟨⟨a,cap,h1,h2,h3,h4⟩,h5,h6⟩:=h
   refine⟨⟨a,cap,h1,h2,h3,fun i hi=>?_⟩,h5,fun hw hp=>?_⟩
   ·obtain⟨ad,e1,e2,e3,es,e4,e5,e6⟩:=h4 i hi
    exact⟨ad,e1,e2,hz _ e3,es,e4,h_ (ha _ e3) e5,ih e6⟩
   ·obtain⟨n,oS,ay,el,k1,k2,k3⟩:=h6 hw hp
    obtain⟨ad,e1,e2,e3,_⟩:=h4 0 hp
    rw[k1] at h1
    injection h1 with h1 _
    injection h1 with q1 q2 q3
    rw[e1] at q1
    injection q1 with q1
    rw[<-q1] at e3
    exact⟨n,oS,ay,el,k1,by rw[ha _ e3];exact k2,k3⟩
theorem aH.length{Z:Nat->Prop}{w:World}:∀ {t:Ty} {cs:List Value} {d:t.den},aH Z w t cs d->cs.length=t.size:=by
 intro t
 induction t with
 | int k=>intro cs d h;rw[h.1];rfl
 | bool=>intro cs d h;rw[show cs=_ from h];rfl
 | str=>intro cs d h;rw[h.1];rfl
 | sl e ih=>intro cs d h;obtain⟨a,cap,h1,_⟩:=h;rw[h1];rfl
 | st t ih=>exact fun h=>ih h
 | pr a b eM eN =>
   intro cs d h
   obtain⟨c1,c2,h1,h2,h3⟩:=h
   rw[h1,List.length_append,eM h2,eN h3];rfl
 | ptr t ih=>intro cs d h;obtain⟨b,o,h1,_⟩:=h;rw[h1];rfl
 | bS f t ih=>intro cs d h;obtain⟨da,h1,_⟩:=h;rw[h1];rfl
 | gs wh e ih=>intro cs d h;obtain⟨⟨a,cap,h1,_⟩,_⟩:=h;rw[h1];rfl
theorem aH.wf{Z:Nat->Prop}{w:World}:∀ {t:Ty} {cs:List Value} {d:t.den},aH Z w t cs d->t.wf d:=by
 intro t
 induction t with
 | int k=>exact fun h=>h.2
 | bool=>exact fun h=>trivial
 | str=>exact fun h=>h.2
 | sl e ih =>
   intro cs xs h
   obtain⟨a,cap,h1,h2,h3,h4⟩:=h
   refine⟨h3,fun x hx=>?_⟩
   obtain⟨i,hi,rfl⟩:=List.getElem_of_mem hx
   obtain⟨ad,e1,e2,e3,es,e4,e5,e6⟩:=h4 i hi
   exact ih e6
 | st t ih=>exact fun h=>ih h
 | pr a b eM eN =>
   intro cs d h
   obtain⟨c1,c2,h1,h2,h3⟩:=h
   exact⟨eM h2,eN h3⟩
 | ptr t ih=>intro cs d h;obtain⟨b,o,h1,h2,es,h3,h4,h5⟩:=h;exact ih h5
 | bS f t ih=>intro cs d h;obtain⟨da,h1,h2⟩:=h;exact ih h2
 | gs wh e ih =>
   intro cs d h
   obtain⟨⟨a,cap,h1,h2,h3,h4⟩,_⟩:=h
   refine⟨h3,fun x hx=>?_⟩
   obtain⟨i,hi,rfl⟩:=List.getElem_of_mem hx
   obtain⟨ad,e1,e2,e3,es,e4,e5,e6⟩:=h4 i hi
   exact ih e6
theorem aH.flat{Z Z':Nat->Prop}{w w':World}:∀ {t:Ty},t.flat=true->∀ {cs:List Value} {d:t.den},aH Z w t cs d->aH Z' w' t cs d:=by
 intro t
 induction t with
 | int k=>exact fun _ _ _ h=>h
 | bool=>exact fun _ _ _ h=>h
 | str=>exact fun _ _ _ h=>h
 | sl e ih=>intro h;cases h
 | st t ih=>exact fun hf _ _ h=>ih hf h
 | pr a b eM eN =>
   intro hf cs d h
   obtain⟨c1,c2,h1,h2,h3⟩:=h
   have KF:(a.flat&&b.flat)=true:=hf
   simp only[Bool.and_eq_true] at KF
   exact⟨c1,c2,h1,eM KF.1 h2,eN KF.2 h3⟩
 | ptr t ih=>intro h;cases h
 | bS f t ih=>intro h;cases h
 | gs wh e ih=>intro h;cases h
theorem aH.ec{Z:Nat->Prop}{w:World}:∀ {t:Ty} {cs:List Value} {d:t.den},aH Z w t cs d->∀ v∈cs,v.oneCell'=true:=by
 intro t
 induction t with
 | int k=>intro cs d h;rw[h.1];simp[Value.oneCell']
 | bool=>intro cs d h;rw[show cs=_ from h];simp[Value.oneCell']
 | str=>intro cs d h;rw[h.1];simp[Value.oneCell']
 | sl e ih=>intro cs d h;obtain⟨a,cap,h1,_⟩:=h;rw[h1];simp[Value.oneCell']
 | st t ih=>exact fun h=>ih h
 | pr a b eM eN =>
   intro cs d h
   obtain⟨c1,c2,h1,h2,h3⟩:=h
   intro v hv
   rw[h1,List.mem_append] at hv
   exact hv.elim (eM h2 v) (eN h3 v)
 | ptr t ih=>intro cs d h;obtain⟨b,o,h1,_⟩:=h;rw[h1];simp[Value.oneCell']
 | bS f t ih=>intro cs d h;obtain⟨da,h1,_⟩:=h;rw[h1];simp[Value.oneCell']
 | gs wh e ih=>intro cs d h;obtain⟨⟨a,cap,h1,_⟩,_⟩:=h;rw[h1];simp[Value.oneCell']
theorem aH.Mw{Z:Nat->Prop}{w:World}(k:IntKind):aH Z w (.int k) [.int k 0] (Ty.en (.int k)):=⟨rfl,by cases k<;>decide,by cases k<;>decide⟩
def Ty.hY:Ty->List Value
 | .int k=>[.int k 0]
 | .bool=>[.bool false]
 | .str=>[.string ByteArray.empty]
 | .sl _=>[.slice none 0 0]
 | .st t=>t.hY
 | .pr a b=>a.hY++b.hY
 | .ptr _=>[.pointer none]
 | .bS _ _=>[.nilFunc]
 | .gs _ _=>[.slice none 0 0]
theorem aH.zero{Z:Nat->Prop}{w:World}:∀(t:Ty),t.plain=true->aH Z w t t.hY t.en:=by
 intro t
 induction t with
 | int k=>exact fun _=>aH.Mw k
 | bool=>exact fun _=>rfl
 | str=>exact fun _=>⟨rfl,by decide⟩
 | sl e ih=>exact fun _=>⟨none,0,rfl,Nat.le_refl _,Nat.zero_le _,fun i hi=>absurd hi (Nat.not_lt_zero _)⟩
 | st t ih=>exact fun h=>ih h
 | pr a b eM eN =>
   intro h
   have h':(a.plain&&b.plain)=true:=h
   rw[Bool.and_eq_true] at h'
   exact⟨_,_,rfl,eM h'.1,eN h'.2⟩
 | ptr t ih=>intro h;cases h
 | bS f t ih=>intro h;cases h
 | gs wh e ih=>exact fun _=>⟨⟨none,0,rfl,Nat.le_refl _,Nat.zero_le _,fun i hi=>absurd hi (Nat.not_lt_zero _)⟩,fun hp=>absurd hp (Nat.lt_irrefl _),fun _ hp=>absurd hp (Nat.lt_irrefl _)⟩
def Ty.de:Ty->Ty
 | .gs _ e=>.sl e.de
 | .sl e=>.sl e.de
 | .st t=>.st t.de
 | .pr a b=>.pr a.de b.de
 | t=>t
def iN:(t:Ty)->t.den->t.de.den
 | .gs _ e,d=>d.2.map (iN e)
 | .sl e,d=>d.map (iN e)
 | .st t,d=>iN t d
 | .pr a b,d=>(iN a d.1,iN b d.2)
 | .int _,d=>d
 | .bool,d=>d
 | .str,d=>d
 | .ptr _,d=>d
 | .bS _ _,d=>d
def zu(e:Ty)(xs:List e.den):List e.de.den:=xs.map (iN e)
theorem cK:∀ t:Ty,t.de.size=t.size
 | .gs _ _=>rfl
 | .st t=>cK t
 | .pr a b=>by show a.de.size+b.de.size=a.size+b.size;rw[cK a,cK b]
 | .int _=>rfl
 | .bool=>rfl
 | .str=>rfl
 | .sl _=>rfl
 | .ptr _=>rfl
 | .bS _ _=>rfl
theorem tj:∀ t:Ty,t.de.flat=t.flat
 | .gs _ _=>rfl
 | .st t=>tj t
 | .pr a b=>by show (a.de.flat&&b.de.flat)=(a.flat&&b.flat);rw[tj a,tj b]
 | .int _=>rfl
 | .bool=>rfl
 | .str=>rfl
 | .sl _=>rfl
 | .ptr _=>rfl
 | .bS _ _=>rfl
theorem aH.On{Z:Nat->Prop}{w:World}{e:Ty}{es:List Value}{l:List e.den}{i:Nat}(hi:i<(l.map (iN e)).length)(h:∀ dY:i<l.length,aH Z w e.de es (iN e (l[i]'dY))):aH Z w e.de es ((l.map (iN e))[i]'hi):=by
 rw[List.getElem_map];exact h _
theorem aH.un{Z:Nat->Prop}{w:World}:∀(t:Ty) {cs:List Value} {d:t.den},aH Z w t cs d->aH Z w t.de cs (iN t d)
 | .gs _ e,_,d,h=>by
   obtain⟨⟨a,cap,h1,h2,h3,h4⟩,_⟩:=h
   refine⟨a,cap,?_,?_,?_,fun i hi=>?_⟩
   ·show _=[Value.slice a (d.2.map (iN e)).length cap];rw[List.length_map];exact h1
   ·show (d.2.map (iN e)).length<=_;rw[List.length_map];exact h2
   ·show (d.2.map (iN e)).length<=_;rw[List.length_map];exact h3
   ·have dY:i<d.2.length:=by have:i<(d.2.map (iN e)).length:=hi;rwa [List.length_map] at this
    obtain⟨ad,e1,e2,e3,es,e4,e5,e6⟩:=h4 i dY
    refine⟨ad,e1,e2,e3,es,by rw[cK];exact e4,by rw[cK];exact e5,?_⟩
    exact aH.On (l:=d.2) hi (fun _=>aH.un e e6)
 | .sl e,_,d,h=>by
   obtain⟨a,cap,h1,h2,h3,h4⟩:=h
   refine⟨a,cap,?_,?_,?_,fun i hi=>?_⟩
   ·show _=[Value.slice a (List.map (iN e) d).length cap];rw[List.length_map];exact h1
   ·show (List.map (iN e) d).length<=_;rw[List.length_map];exact h2
   ·show (List.map (iN e) d).length<=_;rw[List.length_map];exact h3
   ·have dY:i<List.length d:=by have:i<(List.map (iN e) d).length:=hi;rwa [List.length_map] at this
    obtain⟨ad,e1,e2,e3,es,e4,e5,e6⟩:=h4 i dY
    refine⟨ad,e1,e2,e3,es,by rw[cK];exact e4,by rw[cK];exact e5,?_⟩
    exact aH.On (l:=d) hi (fun _=>aH.un e e6)
 | .st t,_,_,h=>aH.un t h
 | .pr a b,_,_,h=>by obtain⟨c1,c2,h1,h2,h3⟩:=h;exact⟨c1,c2,h1,aH.un a h2,aH.un b h3⟩
 | .int _,_,_,h=>h
 | .bool,_,_,h=>h
 | .str,_,_,h=>h
 | .ptr _,_,_,h=>h
 | .bS _ _,_,_,h=>h
def ids:(t:Ty)->t.den->List Nat
 | .gs _ e,d=>match d.2 with|[]=>[]|x::r=>d.1::(x::r).flatMap (ids e)
 | .sl e,d=>d.flatMap (ids e)
 | .st t,d=>ids t d
 | .pr a b,d=>ids a d.1++ids b d.2
 | _,_=>[]
def eT(e:Ty)(xs:List e.den):List Nat:=xs.flatMap (ids e)
theorem MG{Z:Nat->Prop}{w:World}{wh:Bool}{e:Ty}{cs:List Value}{d:Nat×List e.den}(h:aH Z w (.gs wh e) cs d)(hp:0<d.2.length):Z d.1/\∃ o cap,cs=[.slice (some ⟨d.1,o,none⟩) d.2.length cap]:=by
 obtain⟨⟨a,cap,h1,h2,h3,h4⟩,h5,_⟩:=h
 obtain⟨o,n,oS,k1⟩:=h5 hp
 obtain⟨ad,e1,e2,e3,_⟩:=h4 0 hp
 rw[k1] at h1
 injection h1 with h1 _
 injection h1 with q1 q2 q3
 rw[e1] at q1
 injection q1 with q1
 rw[<-q1] at e3
 exact⟨e3,o,cap,by rw[k1,q2,q3]⟩
theorem aH.ng{Z:Nat->Prop}{w:World}:∀(t:Ty) {cs:List Value} {d:t.den},aH Z w t cs d->∀ i∈ids t d,Z i
 | .gs wh e,cs,(b,xs),h,i,hi=>by
   cases xs with
   | nil=>cases hi
   | cons x xr =>
     rcases List.mem_cons.1 hi with rfl|hi
     ·exact (MG h (Nat.succ_pos _)).1
     ·obtain⟨y,hy,Qf⟩:=List.mem_flatMap.1 hi
      obtain⟨j,hj,rfl⟩:=List.getElem_of_mem hy
      obtain⟨⟨a,cap,h1,h2,h3,h4⟩,_⟩:=h
      obtain⟨_,_,_,_,es,_,_,h6⟩:=h4 j hj
      exact aH.ng e h6 i Qf
 | .st t,_,_,h,i,hi=>aH.ng t h i hi
 | .pr a b,_,d,h,i,hi=>by
   obtain⟨c1,c2,h1,h2,h3⟩:=h
   rcases List.mem_append.1 hi with hi|hi
   ·exact aH.ng a h2 i hi
   ·exact aH.ng b h3 i hi
 | .int _,_,_,_,i,hi=>by cases hi
 | .bool,_,_,_,i,hi=>by cases hi
 | .str,_,_,_,i,hi=>by cases hi
 | .sl e,_,d,h,i,hi=>by
   obtain⟨y,hy,Qf⟩:=List.mem_flatMap.1 (show i∈List.flatMap (ids e) d from hi)
   obtain⟨j,hj,rfl⟩:=List.getElem_of_mem hy
   obtain⟨a,cap,h1,h2,h3,h4⟩:=h
   obtain⟨_,_,_,_,es,_,_,h6⟩:=h4 j hj
   exact aH.ng e h6 i Qf
 | .ptr _,_,_,_,i,hi=>by cases hi
 | .bS _ _,_,_,_,i,hi=>by cases hi
def Ty.bW:Ty->Bool
 | .gs _ _=>true
 | .sl e=>e.bW
 | .st t=>t.bW
 | .pr a b=>a.bW||b.bW
 | _=>false
def xB:(t:Ty)->t.de.den->Prop
 | .gs _ _,d=>d=[]
 | .sl _,d=>d=[]
 | .st t,d=>xB t d
 | .pr a b,d=>xB a d.1/\xB b d.2
 | _,_=>True
def fq:(t:Ty)->t.de.den->t.den
 | .gs _ _,_=>(0,[])
 | .sl _,_=>[]
 | .st t,d=>fq t d
 | .pr a b,d=>(fq a d.1,fq b d.2)
 | .int _,d=>d
 | .bool,d=>d
 | .str,d=>d
 | .ptr _,d=>d
 | .bS _ _,d=>d
theorem aH.fq{Z:Nat->Prop}{w:World}:∀(t:Ty) {cs:List Value} {d:t.de.den},aH Z w t.de cs d->xB t d->aH Z w t cs (SX.fq t d)
 | .gs wh e,cs,d,h,hn=>by
   have hn:d=[]:=hn
   subst hn
   obtain⟨a,cap,h1,h2,h3,h4⟩:=h
   exact⟨⟨a,cap,h1,Nat.zero_le _,Nat.zero_le _,fun i hi=>absurd hi (Nat.not_lt_zero _)⟩,fun hp=>absurd hp (Nat.lt_irrefl _),fun _ hp=>absurd hp (Nat.lt_irrefl _)⟩
 | .sl e,cs,d,h,hn=>by
   have hn:d=[]:=hn
   subst hn
   obtain⟨a,cap,h1,h2,h3,h4⟩:=h
   exact⟨a,cap,h1,Nat.zero_le _,Nat.zero_le _,fun i hi=>absurd hi (Nat.not_lt_zero _)⟩
 | .st t,_,_,h,hn=>aH.fq t h hn
 | .pr a b,_,_,h,hn=>by
   obtain⟨c1,c2,h1,h2,h3⟩:=h
   exact⟨c1,c2,h1,aH.fq a h2 hn.1,aH.fq b h3 hn.2⟩
 | .int _,_,_,h,_=>h
 | .bool,_,_,h,_=>h
 | .str,_,_,h,_=>h
 | .ptr _,_,_,h,_=>h
 | .bS _ _,_,_,h,_=>h
def nth{α:Type}(d:α):List α->Nat->α
 | [],_=>d
 | x::_,0=>x
 | _::r,n+1=>nth d r n
def iD{α:Type}:List α->Nat->Option α
 | [],_=>none
 | x::_,0=>some x
 | _::r,n+1=>iD r n
def b9{α:Type}:List α->Nat->α->List α
 | [],_,_=>[]
 | _::r,0,y=>y::r
 | x::r,n+1,y=>x::b9 r n y
def p9{α:Type}:Nat->List α->List α
 | 0,_=>[]
 | _+1,[]=>[]
 | n+1,x::r=>x::p9 n r
def og{α:Type}:Nat->List α->List α
 | 0,l=>l
 | _+1,[]=>[]
 | n+1,_::r=>og n r
def dg{α:Type}:List α->List α->List α
 | [],ys=>ys
 | x::r,ys=>x::dg r ys
def lmap{α β:Type}(f:α->β):List α->List β
 | []=>[]
 | x::r=>f x::lmap f r
def bf{α:Type}:List α->Nat
 | []=>0
 | _::r=>bf r+1
def dN{α:Type}(p:α->Bool):List α->Bool
 | []=>true
 | x::r=>p x&&dN p r
def iC{α:Type}(p:α->Bool):List α->Bool
 | []=>false
 | x::r=>p x||iC p r
def pB{α:Type}(x:α):Nat->List α
 | 0=>[]
 | n+1=>x::pB x n
def omap{α β:Type}(f:α->β):Option α->Option β
 | some x=>some (f x)
 | none=>none
def yY.{u}{α:Type}{β:Type u}(o:Option α)(f:α->Option β):Option β :=
 match o with
 | some x=>f x
 | none=>none
def yZ{α:Type}(o p:Option α):Option α :=
 match o with
 | some x=>some x
 | none=>p
theorem dc{α:Type}:∀(l:List α) (n:Nat),iD l n=l[n]?
 | [],_=>rfl
 | _::_,0=>rfl
 | _::r,n+1=>by simp[iD,dc r n]
theorem cB{α:Type}(d:α):∀(l:List α) (n:Nat),nth d l n=(l[n]?).getD d
 | [],_=>rfl
 | _::_,0=>rfl
 | _::r,n+1=>by simp[nth,cB d r n]
theorem eI{α:Type}:∀(l:List α) (n:Nat) (y:α),b9 l n y=l.set n y
 | [],_,_=>rfl
 | _::_,0,_=>rfl
 | x::r,n+1,y=>by simp[b9,eI r n y]
theorem iY{α:Type}:∀(n:Nat) (l:List α),p9 n l=l.take n
 | 0,_=>rfl
 | _+1,[]=>rfl
 | n+1,x::r=>by simp[p9,iY n r]
theorem iX{α:Type}:∀(n:Nat) (l:List α),og n l=l.drop n
 | 0,_=>rfl
 | _+1,[]=>rfl
 | n+1,x::r=>by simp[og,iX n r]
theorem bN{α:Type}:∀(l k:List α),dg l k=l++k
 | [],_=>rfl
 | x::r,k=>by simp[dg,bN r k]
theorem bP{α β:Type}(f:α->β):∀(l:List α),lmap f l=l.map f
 | []=>rfl
 | x::r=>by simp[lmap,bP f r]
theorem cx{α:Type}:∀(l:List α),bf l=l.length
 | []=>rfl
 | x::r=>by simp[bf,cx r]
theorem fa{α:Type}(p:α->Bool):∀(l:List α),dN p l=l.all p
 | []=>rfl
 | x::r=>by simp[dN,fa p r]
theorem rB{α:Type}(p:α->Bool):∀(l:List α),iC p l=l.any p
 | []=>rfl
 | x::r=>by simp[iC,rB p r]
theorem mu{α:Type}(x:α):∀ n,pB x n=List.replicate n x
 | 0=>rfl
 | n+1=>by simp[pB,mu x n,List.replicate_succ]
theorem dB{α β:Type}(f:α->β)(o:Option α):omap f o=o.map f:=by cases o<;>rfl
theorem sU.{u}{α:Type}{β:Type u}(o:Option α)(f:α->Option β):yY o f=o.bind f:=by cases o<;>rfl
end Go.SX
/- Symbolic values and states, and when a frame and a world are such. No condition. -/
namespace Go.SX
open Go.RowKit
set_option linter.unusedVariables false
inductive C where
  | val (v : Value)
  | fm
  | fe
  /-- a slice that reads as 'xs', by memory that nobody writes any more -/
  | rd (fr : Bool) (e : Ty) (xs : List e.den)
  /-- row 'n', whole -/
  | own (n : Nat)
  /-- the first 'h' elements of row 'n' -/
  | pre (n h : Nat)
  /-- a slice that reads as 'xs', by the memory of row 'n' -/
  | eK (n : Nat) (e : Ty) (xs : List e.den)
  /-- the address of cell 'off' of box 'n' -/
  | box (n off : Nat)
  /-- a slice of addresses: its cells are those of box 'n', 'len' of them -/
  | jI (n len : Nat)
  /-- the address of cell 'off' of a datum 'd' in memory that nobody writes any more -/
  | at_ (fr : Bool) (t : Ty) (d : t.den) (off : Nat)
  /-- the address of cell 'off' of element 'i' of row 'n' -/
  | dR (n i off : Nat)
  /-- a function value that has captured boxes -/
  | fn (f : FuncId) (da : List Nat)
  /-- a function value whose captured addresses lead to memory that nobody writes any more -/
  | bS (fr : Bool) (f : Nat) (t : Ty) (d : t.den)
  /-- as 'rd'; the slice lies in block 'b' ('wh': it is all of it) -/
  | rg (fr wh : Bool) (e : Ty) (b : Nat) (xs : List e.den)
  | any
inductive S where
  | c (x : C)
  | agg (cs : List C)
  | vl (vs : List (Bool × List C))
  | eP
  | any
  /-- an array of flat elements -/
  | arr (e : Ty) (xs : List e.den)
inductive az where
 | dead
 | bx (cs:List C)
 | row (fr:Bool) (e:Ty) (xs:List e.den)
structure St where
 ts:List S
 hp:List az
def St.aB(st:St)(n:Nat):az:=nth .dead st.hp n
def Uv:Value->Prop
 | .int k n=>k.min<=n/\n<=k.max
 | .string s=>s.size<=maxLen
 | .slice a n c=>a=none/\n=0/\c=0
 | .agg _=>False
 | .tuple _=>False
 | _=>True
structure Vl where
 aI:Nat->Nat
 has:Nat->Prop
 Z0:Nat->Prop
 Z1:Nat->Prop
def Vl.Z(V:Vl)(fr:Bool)(b:Nat):Prop:=V.Z1 b\/(fr=false/\V.Z0 b)
theorem Vl.eD{V:Vl}{b:Nat}{fr:Bool}(h:V.Z fr b):V.Z false b:=by
 rcases h with h|⟨_,h⟩
 ·exact .inl h
 ·exact .inr ⟨rfl,h⟩
def dT(V:Vl)(w:World)(n:Nat)(e:Ty)(h:Nat)(v:Value):Prop :=
 (¬V.has n/\v = .slice none 0 0/\h=0) ∨
 (V.has n/\∃ cap ay el,v = .slice (some ⟨V.aI n,0,none⟩) h cap/\w.heap[V.aI n]? = some (.cells ay el (0,0))/\ay.size=cap*e.size/\h<=cap)
def C.ok(V:Vl)(hp:Nat->az)(w:World):C->Value->Prop
 | .val u,v=>v=u/\Uv u
 | .fm,v=>v = .bool true
 | .fe,v=>v = .bool false
 | .rd fr e xs,v=>aH (V.Z fr) w (.sl e) [v] xs
 | .own n,v=>∃ fr e xs,hp n = .row fr e xs/\dT V w n e xs.length v
 | .pre n h,v=>∃ fr e xs,hp n = .row fr e xs/\h<=xs.length/\dT V w n e h v
 | .eK n e xs,v=>(∃ fr e' ys,hp n = .row fr e' ys)/\aH (fun b=>V.Z false b\/(V.has n/\b=V.aI n)) w (.sl e) [v] xs
 | .box n off,v=>v = .pointer (some ⟨V.aI n,off,none⟩)/\V.has n/\∃ cs,hp n = .bx cs
 | .jI n len,v=>∃ cap,(v = .slice (some ⟨V.aI n,0,none⟩) len cap/\len<=1000)/\V.has n/\∃ cs,hp n = .bx cs
 | .at_ fr t d off,v=>∃ b o,v = .pointer (some ⟨b,o+off,none⟩)/\V.Z fr b/\∃ es,es.length=t.size/\l9 w b o es/\aH (V.Z fr) w t es d
 | .dR n i off,v=>V.has n/\∃ fr e xs,hp n = .row fr e xs/\i<xs.length/\v = .pointer (some ⟨V.aI n,i*e.size+off,none⟩)
 | .fn f da,v=>v = .func (.func f) #[] (da.map (fun n=>Value.pointer (some ⟨V.aI n,0,none⟩))).toArray/\∀ n∈da,V.has n/\∃ cs,hp n = .bx cs
 | .bS fr f t d,v=>aH (V.Z fr) w (.bS f t) [v] d
 | .rg fr wh e b xs,v=>aH (V.Z fr) w (.gs wh e) [v] (b,xs)
 | .any,v=>v.oneCell'=true
def br(V:Vl)(hp:Nat->az)(w:World)(cs:List C)(vs:List Value):Prop:=cs.length=vs.length/\∀(j:Nat) c v,cs[j]? = some c->vs[j]? = some v->C.ok V hp w c v
def kb(V:Vl)(hp:Nat->az)(w:World)(x:Bool×List C)(v:Value):Prop :=
 if x.1 then ∃ vs,v = .agg vs/\br V hp w x.2 vs.toList else br V hp w x.2 [v]
def S.ok(V:Vl)(hp:Nat->az)(w:World):S->Value->Prop
 | .c x,v=>C.ok V hp w x v
 | .agg cs,v=>∃ vs,v = .agg vs/\br V hp w cs vs.toList
 | .vl xs,v=>∃ vs,v = .tuple vs/\xs.length=vs.size/\∀(j:Nat) x v,xs[j]? = some x->vs[j]? = some v->kb V hp w x v
 | .eP,v=>v=undef
 | .any,_=>True
 | .arr e xs,v=>e.flat=true/\∃ vs,v = .agg vs/\vs.size=xs.length*e.size/\∀ i (h:i<xs.length),∃ es,es.length=e.size/\(∀(j:Nat) u,es[j]? = some u->vs[i*e.size+j]? = some u)/\aH (fun _=>False) w e es xs[i]
def az.ok(V:Vl)(hp:Nat->az)(w:World)(n:Nat):az->Prop
 | .dead=>True
 | .bx cs=>∃ ay el,w.heap[V.aI n]? = some (.cells ay el (0,0))/\br V hp w cs ay.toList
 | .row fr e xs=>(¬V.has n/\xs=[])\/(V.has n/\∃ ay el,w.heap[V.aI n]? = some (.cells ay el (0,0))/\xs.length<=cQ ∧
    ∀ i (h:i<xs.length),∃ es,es.length=e.size/\(∀ j u,es[j]? = some u->ay[i*e.size+j]? = some u)/\aH (V.Z fr) w e es xs[i])
def az.live:az->Bool
 | .dead=>false
 | _=>true
structure LM where
  fn : Nat → Prop
  nm : Nat → Nat → Prop
  /-- old memory that the call may still see -/
  y2 : Nat → Prop
  sub : ∀ b, fn b → y2 b
  /-- the block of a box that is lent, under name 0 -/
  lb : Nat → Prop
instance:CoeFun LM (fun _=>Nat->Prop):=⟨LM.fn⟩
def az.uI:az->Bool
 | .bx _=>true
 | _=>false
def az.eH:az->Prop
 | .row false e _=>(e.flat||e.bW)=true
 | _=>False
def az.gJ:az->List Nat
 | .row false e xs=>if e.bW then eT e xs else []
 | _=>[]
structure Kept (base : Nat) (M : LM) (w0 w : World) : Prop where
  os : w.os = w0.os
  tape : w.tape = w0.tape
  output : w.output = w0.output
  size : base ≤ w.heap.size
  block : ∀ b, b < base → ¬ M b → w.heap[b]? = w0.heap[b]?
  /-- a block of M keeps its size -/
  shape : ∀ b ay el, b < base → M b → w0.heap[b]? = some (.cells ay el (0, 0)) → ∃ cS kW, w.heap[b]? = some (.cells cS kW (0, 0)) ∧ cS.size = ay.size
structure Mem (base:Nat) (M:LM) (w0:World) (V:Vl) (hp:Nat->az) (w:World):Prop where
 dx:∀ n,(hp n).ok V hp w n
 box:∀ n cs,hp n = .bx cs->V.has n
 own:∀ n,(hp n).live=true->V.has n->(base<=V.aI n\/M (V.aI n))/\V.aI n<w.heap.size/\¬V.Z false (V.aI n)
 iZ:∀ n e xs,hp n = .row true e xs->V.has n->base<=V.aI n
 fZ:∀ n m,(hp n).live=true->(hp m).live=true->V.has n->V.has m->V.aI n=V.aI m->n=m
 z0:∀ b,V.Z0 b->b<base/\M.y2 b
 z1:∀ b,V.Z1 b->base<=b/\b<w.heap.size
 kept:Kept base M w0 w
 pz:∀ n,(hp n).eH->V.has n->M.nm (V.aI n) n
 oh:∀ b,M.lb b->(hp 0).uI=true/\V.aI 0=b
 gJ:∀ n,V.has n->∀ i∈(hp n).gJ,n=0->M i
structure Rel (base:Nat) (M:LM) (w0:World) (V:Vl) (st:St) (ts:Array Value) (w:World):Prop where
 len:st.ts.length=ts.size
 iM:∀(i:Nat) s v,st.ts[i]? = some s->ts[i]? = some v->S.ok V st.aB w s v
 mem:Mem base M w0 V st.aB w
end Go.SX
/- The symbolic executor: what an operation, a region, a code comes to, as a proposition over numbers and lists. Definitions alone. No condition. -/
namespace Go.SX
open Go.RowKit
set_option linter.unusedVariables false
inductive TK where
  | int (k : IntKind)
  | bool
  | str
  | sl (e : TypeId) (Uz Tj : Nat) (cF : Ty)
  | st (fs : List (Nat × Nat × Bool))
  /-- an array of 'len' elements of 'es' cells each: 'n' flat ones in all -/
  | arr (len : Nat) (te : TypeId) (es n : Nat) (cF : Ty)
  | sc
  /-- a slice of addresses -/
  | Eo (e : TypeId)
structure TI where
  k : TK
  size : Nat
  bytes : Nat
  zero : List Value
  ty : Option Ty
  /-- a struct of ints and bools, that '==' compares: is the field a bool? -/
  eq : Option (List Bool)
abbrev bT:=TypeId->Option TI
@[reducible] def bU:List Ty->Type
 | []=>Unit
 | [t]=>t.den
 | t::u::r=>t.den×bU (u::r)
structure PC where
  ts : List Ty
  rs : List Ty
  pre : bU ts → Prop
  F : bU ts → bU rs
  /-- is the result's memory written no more? -/
  fz : Bool := false
def bb(k:IntKind)(a n:Int):Int:=k.wrap (a*2^min n.toNat k.bits)
def iB(k:IntKind)(a n:Int):Int:=a.fdiv (2^min n.toNat k.bits)
def sM(k:IntKind)(a b:Int):Int:=k.wrap (BitVec.ofInt k.bits a &&& BitVec.ofInt k.bits b).toNat
def gj(k:IntKind)(a b:Int):Int:=k.wrap (BitVec.ofInt k.bits a ||| BitVec.ofInt k.bits b).toNat
def QT(k:IntKind)(a b:Int):Int:=k.wrap (BitVec.ofInt k.bits a ^^^ BitVec.ofInt k.bits b).toNat
def ly(a b:Int):Int:=if b<a then b else a
def imax(a b:Int):Int:=if b>a then b else a
def cell(v:Value):C :=
 match v with
 | .bool true=>.fm
 | .bool false=>.fe
 | .int k n=>if k.min<=n/\n<=k.max then .val (.int k n) else .any
 | .string s=>if s.size<=maxLen then .val (.string s) else .any
 | .slice none 0 0=>.val (.slice none 0 0)
 | .pointer none=>.val (.pointer none)
 | _=>.any
def S.ofConst(v:Value):S :=
 match v with
 | .agg cs=>if dN Value.oneCell' cs.toList then .agg (lmap cell cs.toList) else .any
 | .tuple _=>.any
 | v=>.c (cell v)
def St.eval(st:St):Operand->S
 | .tmp t=>nth .any st.ts t
 | .const v=>.ofConst v
 | .global _=>.any
 | .func f=>.c (.fn f [])
structure QR where
 ob:Option Prop:=none
 hy:Option Prop:=none
 res:S
 new:List az:=[]
def S.cells:S->Option (List C)
 | .c x=>some [x]
 | .agg cs=>some cs
 | _=>none
def fI{a b:Ty}(h:a=b)(xs:List a.den):List b.den:=h▸xs
def expand(fr:Bool):(t:Ty)->t.den->List C
 | .int k,n=>[.val (.int k n)]
 | .bool,b=>[.val (.bool b)]
 | .str,s=>[.val (.string s)]
 | .sl e,xs=>[.rd fr e xs]
 | .st t,d=>expand fr t d
 | .pr a b,d=>dg (expand fr a d.1) (expand fr b d.2)
 | .ptr t,d=>[.at_ fr t d 0]
 | .bS f t,d=>[.bS fr f t d]
 | .gs wh e,d=>[.rg fr wh e d.1 d.2]
def jy{α:Type}(f:C->Option α):List C->Option (α×List C)
 | c::r=>match f c with|some x=>some (x,r)|none=>none
 | []=>none
def CG(k:IntKind):C->Option Int
 | .val (.int k' n)=>if k'=k then some n else none
 | _=>none
def rdBool:C->Option Bool
 | .val (.bool b)=>some b
 | .fm=>some true
 | .fe=>some false
 | _=>none
def rdStr:C->Option ByteArray
 | .val (.string s)=>some s
 | _=>none
def jP(e' e:Ty)(xs:List e'.den):Option (List e.den) :=
 if h:e'=e then some (fI h xs) else if h:e'.de=e then some (fI h (zu e' xs)) else none
def my(lk:Nat->az)(e:Ty):C->Option (List e.den)
 | .rd _ e' xs=>jP e' e xs
 | .eK _ e' xs=>if h:e'=e then some (fI h xs) else none
 | .own n =>
   match lk n with
   | .row _ e' xs=>jP e' e xs
   | _=>none
 | .pre n m =>
   match lk n with
   | .row _ e' xs=>jP e' e (xs.take m)
   | _=>none
 | .rg _ _ e' _ xs=>jP e' e xs
 | .val (.slice none 0 0)=>some []
 | _=>none
def LQ(wh:Bool)(e:Ty):C->Option (Nat×List e.den)
 | .rg _ ql e' b xs=>if h:e'=e then (if wh&&!ql then none else some (b,fI h xs)) else none
 | .val (.slice none 0 0)=>some (0,[])
 | _=>none
def ND{a b:Ty}(h:a=b)(d:a.den):b.den:=h▸d
def whole{α:Type}:Option (α×List C)->Option α
 | some (d,[])=>some d
 | _=>none
def Jt(lk:Nat->az)(t:Ty)(rc:List C->Option (t.den×List C)):C->Option t.den
 | .at_ _ t' d 0=>if h:t'=t then some (ND h d) else none
 | .box n 0=>match lk n with | .bx cs=>whole (rc cs)|_=>none
 | _=>none
def Js(f:Nat)(t:Ty)(rc:List C->Option (t.den×List C)):C->Option t.den
 | .bS _ f' t' d=>if f'=f then (if h:t'=t then some (ND h d) else none) else none
 | .fn f' ns=>if f'=f then whole (rc (lmap (fun n=>.box n 0) ns)) else none
 | _=>none
def fp(lk:Nat->az):(t:Ty)->List C->Option (t.den×List C)
 | .int k,cs=>jy (CG k) cs
 | .bool,cs=>jy rdBool cs
 | .str,cs=>jy rdStr cs
 | .sl e,cs=>jy (my lk e) cs
 | .st t,cs=>fp lk t cs
 | .pr a b,cs =>
   match fp lk a cs with
   | some (x,r) =>
     match fp lk b r with
     | some (y,r')=>some ((x,y),r')
     | none=>none
   | none=>none
 | .ptr t,cs=>jy (Jt lk t (fp lk t)) cs
 | .bS f t,cs=>jy (Js f t (fp lk t)) cs
 | .gs wh e,cs=>jy (LQ wh e) cs
def readAll(lk:Nat->az)(t:Ty)(cs:List C):Option t.den :=
 match fp lk t cs with
 | some (d,[])=>some d
 | _=>none
def nR:Ty->Bool
 | .st _=>true
 | _=>false
def qg(lk:Nat->az)(t:Ty):S->Option t.den
 | .c x=>if nR t then none else readAll lk t [x]
 | .agg cs=>if nR t then readAll lk t cs else none
 | _=>none
def kt(lk:Nat->az):(ts:List Ty)->List S->Option (bU ts)
 | [],[]=>some ()
 | [t],[s]=>qg lk t s
 | t::u::r,s::ss =>
   match qg lk t s with
   | some x =>
     match kt lk (u::r) ss with
     | some y=>some (x,y)
     | none=>none
   | none=>none
 | _,_=>none
def fresh:(t:Ty)->t.den->Nat->List C×List az
 | .int k,n,_=>([.val (.int k n)],[])
 | .bool,b,_=>([.val (.bool b)],[])
 | .str,s,_=>([.val (.string s)],[])
 | .sl e,xs,nx=>([.own nx],[.row true e xs])
 | .st t,d,nx=>fresh t d nx
 | .pr a b,d,nx =>
   let x:=fresh a d.1 nx
   let y:=fresh b d.2 (nx+bf x.2)
   (dg x.1 y.1,dg x.2 y.2)
 | .ptr _,_,_=>([.any],[])
 | .bS _ _,_,_=>([.any],[])
 | .gs _ _,_,_=>([.any],[])
def dM(t:Ty)(d:t.den)(nx:Nat):(Bool×List C)×List az :=
 let x:=fresh t d nx
 ((nR t,x.1),x.2)
def cb:(ts:List Ty)->bU ts->Nat->List (Bool×List C)×List az
 | [],_,_=>([],[])
 | [t],d,nx=>let x:=dM t d nx;([x.1],x.2)
 | t::u::r,d,nx =>
   let x:=dM t d.1 nx
   let y:=cb (u::r) d.2 (nx+bf x.2)
   (x.1::y.1,dg x.2 y.2)
def nU(x:Bool×List C):S :=
 if x.1 then .agg x.2 else match x.2 with|[c]=>.c c|_=>.any
def dt(ts:List Ty)(d:bU ts)(nx:Nat):S×List az :=
 match cb ts d nx with
 | ([x],es)=>(nU x,es)
 | (xs,es)=>(.vl xs,es)
def A8:(t:Ty)->t.den->List C
 | .int k,n=>[.val (.int k n)]
 | .bool,b=>[.val (.bool b)]
 | .str,s=>[.val (.string s)]
 | .sl e,xs=>[.rd true e xs]
 | .st t,d=>A8 t d
 | .pr a b,d=>dg (A8 a d.1) (A8 b d.2)
 | .ptr _,_=>[.any]
 | .bS _ _,_=>[.any]
 | .gs _ _,_=>[.any]
def MB:(ts:List Ty)->bU ts->S
 | [t],d=>nU (nR t,A8 t d)
 | _,_=>.any
def vu(fz:Bool)(ts:List Ty)(d:bU ts)(nx:Nat):S×List az :=
 match fz with
 | true=>(MB ts d,[])
 | false=>dt ts d nx
def zt:(ts:List Ty)->bU ts->Prop
 | [],_=>True
 | [t],d=>t.wf d
 | t::u::r,d=>t.wf d.1/\zt (u::r) d.2
def Ub:List Ty->Bool
 | []=>false
 | [.bool]=>false
 | _=>true
def DK(ts:List Ty)(d:bU ts):Option Prop:=if Ub ts then some (zt ts d) else none
def CE(Γ:FuncId->Option PC)(lk:Nat->az)(nx:Nat)(f:FuncId)(args:List S):Option QR :=
 match Γ f with
 | some c =>
   match kt lk c.ts args with
   | some d=>let r:=vu c.fz c.rs (c.F d) nx;some { ob:=some (c.pre d),hy:=DK c.rs (c.F d),res:=r.1,new:=r.2 }
   | none=>none
 | none=>none
def MU(op:BinOp)(k:IntKind)(a b:Int):Option (Option Prop×C) :=
 match op with
 | .add=>some (none,.val (.int k (k.wrap (a+b))))
 | .sub=>some (none,.val (.int k (k.wrap (a-b))))
 | .mul=>some (none,.val (.int k (k.wrap (a*b))))
 | .quo=>some (some (b≠0),.val (.int k (k.wrap (a.tdiv b))))
 | .rem=>some (some (b≠0),.val (.int k (a.tmod b)))
 | .and=>some (none,.val (.int k (sM k a b)))
 | .or=>some (none,.val (.int k (gj k a b)))
 | .xor=>some (none,.val (.int k (QT k a b)))
 | .eql=>some (none,.val (.bool (decide (a=b))))
 | .neq=>some (none,.val (.bool (!decide (a=b))))
 | .lss=>some (none,.val (.bool (decide (a<b))))
 | .leq=>some (none,.val (.bool (decide (a<=b))))
 | .gtr=>some (none,.val (.bool (decide (b<a))))
 | .geq=>some (none,.val (.bool (decide (b<=a))))
 | _=>none
def m5:C->Option Bool
 | .val (.bool b)=>some b
 | .fm=>some true
 | .fe=>some false
 | _=>none
def Nc(op:BinOp)(x y:C):Option QR :=
 match op,x,y with
 | .shl,.val (.int k a),.val (.int _ n)=>some { ob:=some (0<=n),res:=.c (.val (.int k (bb k a n))) }
 | .shr,.val (.int k a),.val (.int _ n)=>some { ob:=some (0<=n),res:=.c (.val (.int k (iB k a n))) }
 | op,.val (.int k a),.val (.int k' b) =>
   if k'=k then
    match MU op k a b with
    | some (p,c)=>some { ob:=p,res:=.c c }
    | none=>none
   else none
 | _,_,_=>none
def Jp(T:bT)(t:TypeId)(op:BinOp)(x y:C):Option QR :=
 match Nc op x y with
 | some r=>some r
 | none =>
   match T t,m5 x,m5 y,op with
   | some { k:=.bool,.. },some a,some b,.eql=>some { res:=.c (.val (.bool (a == b))) }
   | some { k:=.bool,.. },some a,some b,.neq=>some { res:=.c (.val (.bool (!(a == b)))) }
   | _,_,_,_ =>
     match T t,rdStr x,rdStr y,op with
     | some { k:=.str,.. },some a,some b,.eql=>some { res:=.c (.val (.bool (decide (a=b)))) }
     | some { k:=.str,.. },some a,some b,.neq=>some { res:=.c (.val (.bool (!decide (a=b)))) }
     | _,_,_,_=>none
def r8:List Bool->List C->List C->Option Bool
 | [],[],[]=>some true
 | false::ks,.val (.int k a)::xs,.val (.int k' b)::ys=>if k'=k then omap (fun r=>decide (a=b)&&r) (r8 ks xs ys) else none
 | true::ks,x::xs,y::ys =>
   match m5 x,m5 y with
   | some a,some b=>omap (fun r=>(a == b)&&r) (r8 ks xs ys)
   | _,_=>none
 | _,_,_=>none
def Jo(T:bT)(t:TypeId)(op:BinOp)(xs ys:List C):Option QR :=
 match yY (T t) (fun i=>i.eq) with
 | some ks =>
   match r8 ks xs ys,op with
   | some b,.eql=>some { res:=.c (.val (.bool b)) }
   | some b,.neq=>some { res:=.c (.val (.bool (!b))) }
   | _,_=>none
 | none=>none
def Q7(op:UnOp)(x:C):Option QR :=
 match op,x with
 | .not,.val (.bool b)=>some { res:=.c (.val (.bool !b)) }
 | .not,.fm=>some { res:=.c .fe }
 | .not,.fe=>some { res:=.c .fm }
 | .neg,.val (.int k n)=>some { res:=.c (.val (.int k (k.wrap (0-n)))) }
 | _,_=>none
def CF(c a b:S):Option S :=
 match c,a,b with
 | .c .fm,a,_=>some a
 | .c .fe,_,b=>some b
 | .c (.val (.bool p)),.c (.val (.int k x)),.c (.val (.int k' y))=>if k'=k then some (.c (.val (.int k (if p then x else y)))) else none
 | .c (.val (.bool p)),.c x,.c y =>
   match m5 x,m5 y with
   | some a,some b=>some (.c (.val (.bool (if p then a else b))))
   | _,_=>none
 | _,_,_=>none
def M3(lk:Nat->az):C->Option Int
 | .rd _ _ xs=>some (xs.length:Int)
 | .eK _ _ xs=>some (xs.length:Int)
 | .own n=>match lk n with | .row _ _ xs=>some (xs.length:Int)|_=>none
 | .pre _ h=>some (h:Int)
 | .rg _ _ _ _ xs=>some (xs.length:Int)
 | .val (.slice none 0 0)=>some 0
 | _=>none
def IU(T:bT)(lk:Nat->az)(t:TypeId)(x:C):Option Int :=
 match T t,x with
 | some { k:=.str,.. },.val (.string s)=>some (s.size:Int)
 | some { k:=.sl _ _ _ _,.. },x=>M3 lk x
 | some { k:=.Eo _,.. },.jI _ l=>some (l:Int)
 | _,_=>none
def CB(T:bT)(t:TypeId)(cs:List C):Option S :=
 match T t with
 | some { k:=.st _,size:=n,.. }=>if bf cs=n then some (.agg cs) else none
 | some { k:=.arr _ _ _ _ _,.. }=>none
 | some _=>match cs with|[x]=>some (.c x)|_=>none
 | none=>none
def ta(T:bT)(t:TypeId):Option Nat:=omap (·.size) (T t)
def partOf(cs:List C)(off n:Nat):Option (List C) :=
 let r:=p9 n (og off cs)
 if bf r=n then some r else none
def rZ(lk:Nat->az)(n:Nat):C->Option (List C)
 | .at_ fr ty d off=>partOf (expand fr ty d) off n
 | .box m off=>match lk m with | .bx cs=>partOf cs off n|_=>none
 | .dR m i off=>match lk m with | .row fr e xs=>partOf (expand fr e (xs.getD i e.en)) off n|_=>none
 | _=>none
def zj(T:bT)(lk:Nat->az)(t:TypeId)(p:C):Option QR :=
 match ta T t with
 | none=>none
 | some n =>
   match rZ lk n p with
   | some cs=>omap (fun s=>{ res:=s }) (CB T t cs)
   | none=>none
def oJ(T:bT)(t:TypeId)(f:Nat):Option (Nat×Nat×Bool) :=
 match T t with
 | some { k:=.st fs,.. }=>iD fs f
 | _=>none
def lH(T:bT)(t:TypeId)(p:C)(f:Nat):Option QR :=
 match oJ T t f with
 | some (o,_,_) =>
   match p with
   | .at_ fr ty d off=>some { res:=.c (.at_ fr ty d (off+o)) }
   | .box m off=>some { res:=.c (.box m (off+o)) }
   | .dR m i off=>some { res:=.c (.dR m i (off+o)) }
   | _=>none
 | none=>none
def ia(T:bT)(t:TypeId):Option Ty :=
 match T t with
 | some { k:=.sl _ _ _ e,.. }=>some e
 | _=>none
def Ak(T:bT)(lk:Nat->az)(t:TypeId)(x:C)(i:C):Option QR :=
 match ia T t,x,i with
 | some e',.rd fr e xs,.val (.int _ n)=>if e.de=e' then some { ob:=some (0<=n/\n<(xs.length:Int)),res:=.c (.at_ fr e (xs.getD n.toNat e.en) 0) } else none
 | some e',.rg fr _ e _ xs,.val (.int _ n)=>if e.de=e' then some { ob:=some (0<=n/\n<(xs.length:Int)),res:=.c (.at_ fr e (xs.getD n.toNat e.en) 0) } else none
 | some e',.own m,.val (.int _ n) =>
   match lk m with
   | .row _ e xs=>if e.de=e' then some { ob:=some (0<=n/\n<(xs.length:Int)),res:=.c (.dR m n.toNat 0) } else none
   | _=>none
 | some e',.pre m h,.val (.int _ n) =>
   match lk m with
   | .row _ e _=>if e.de=e' then some { ob:=some (0<=n/\n<(h:Int)),res:=.c (.dR m n.toNat 0) } else none
   | _=>none
 | _,_,_=>none
def Ai(T:bT)(lk:Nat->az)(t:TypeId)(m i0:Nat)(k:Int):Option QR :=
 match T t with
 | some { k:=.arr len te es n cF,.. } =>
   match lk m with
   | .row _ e xs=>if e=cF then some { ob:=some (0<=k/\k<(len:Int)/\i0+(k.toNat+1)*(es/cF.size)<=xs.length),res:=.c (.dR m (i0+k.toNat*(es/cF.size)) 0) } else none
   | _=>none
 | _=>none
def sY(T:bT)(lk:Nat->az)(t:TypeId)(x:C)(i:C):Option QR :=
 match x,i with
 | .dR m i0 0,.val (.int _ k)=>Ai T lk t m i0 k
 | x,i=>Ak T lk t x i
def kR(NH:Int):Option S->Option Int
 | none=>some NH
 | some (.c (.val (.int _ n)))=>some n
 | _=>none
def EV(T:bT)(lk:Nat->az)(t:TypeId)(x:C)(lo hi:Option S):Option QR :=
 match ia T t,x with
 | some e',.rd fr e xs =>
   match kR 0 lo,kR xs.length hi with
   | some l,some h=>if e.de=e' then some { ob:=some (0<=l/\l<=h/\h<=(xs.length:Int)),res:=.c (.rd fr e ((xs.take h.toNat).drop l.toNat)) } else none
   | _,_=>none
 | some e',.rg fr _ e _ xs =>
   match kR 0 lo,kR xs.length hi with
   | some l,some h=>if e.de=e' then some { ob:=some (0<=l/\l<=h/\h<=(xs.length:Int)),res:=.c (.rd fr e ((xs.take h.toNat).drop l.toNat)) } else none
   | _,_=>none
 | some e',.own m =>
   match lk m with
   | .row _ e xs =>
     match lo,kR xs.length hi with
     | none,some h=>if e.de=e' then some { ob:=some (0<=h/\h<=(xs.length:Int)),res:=.c (.pre m h.toNat) } else none
     | some l,some h =>
       match kR 0 (some l) with
       | some l=>if e.de=e' then some { ob:=some (0<=l/\l<=h/\h<=(xs.length:Int)),res:=.c (.eK m e ((xs.take h.toNat).drop l.toNat)) } else none
       | none=>none
     | _,_=>none
   | _=>none
 | some e',.pre m k =>
   match lk m with
   | .row _ e xs =>
     match lo,kR k hi with
     | none,some h=>if e.de=e' then some { ob:=some (0<=h/\h<=(k:Int)),res:=.c (.pre m h.toNat) } else none
     | _,_=>none
   | _=>none
 | _,_=>none
def sC(fs:List (Nat×Nat×Bool))(cs:List C):List (Nat×S)->Option (List C)
 | []=>some cs
 | (i,s)::r =>
   match iD fs i,s.cells with
   | some (o,n,_),some xs=>if bf xs=n/\o+n<=bf cs then sC fs (dg (p9 o cs) (dg xs (og (o+n) cs))) r else none
   | _,_=>none
def hJ(lk:Nat->az)(e:Ty):Nat->List (Nat×S)->Option (List e.den)
 | _,[]=>some []
 | k,p::r =>
   if p.1=k then
    match qg lk e p.2,hJ lk e (k+1) r with
    | some x,some xs=>some (x::xs)
    | _,_=>none
   else none
def C.fQ:C->Bool
 | .own _=>false
 | .pre _ _=>false
 | .eK _ _ _=>false
 | .box _ _=>false
 | .jI _ _=>false
 | .dR _ _ _=>false
 | .fn _ ns=>(match ns with|[]=>true|_=>false)
 | _=>true
def S.fQ:S->Bool
 | .c x=>x.fQ
 | .agg cs=>dN C.fQ cs
 | _=>true
def C.ed:C->Bool
 | .rd fr _ _=>fr
 | .eK _ _ _=>false
 | .at_ fr _ _ _=>fr
 | .bS fr _ _ _=>fr
 | .rg fr _ _ _ _=>fr
 | _=>true
def S.ed:S->Bool
 | .c x=>x.ed
 | .agg cs=>dN C.ed cs
 | _=>true
def Af(len es n:Nat)(cF:Ty)(parts:List (Nat×S)):Option QR :=
 match parts with
 | []=>some { res:=.arr cF (List.replicate n cF.en) }
 | parts=>if dN (fun p=>p.2.fQ) parts&&decide (bf parts=len)&&decide (es=cF.size) then omap (fun xs=>{ res:=.arr cF xs }) (hJ (fun _=>.dead) cF 0 parts) else none
def ET(T:bT)(t:TypeId)(parts:List (Nat×S)):Option QR :=
 match T t with
 | some { k:=.st fs,zero:=z,.. }=>omap (fun cs=>{ res:=.agg cs }) (sC fs (lmap cell z) parts)
 | some { k:=.arr len te es n cF,.. }=>Af len es n cF parts
 | _=>none
def LI(T:bT)(nx:Nat)(t:TypeId):Option QR :=
 match T t with
 | some ti =>
   match ti.k with
   | .arr len te es n cF=>some { res:=.c (.dR nx 0 0),new:=[.row true cF (List.replicate n cF.en)] }
   | _=>some { res:=.c (.box nx 0),new:=[.bx (lmap cell ti.zero)] }
 | none=>none
def Ty.vG:Ty->Ty
 | .sl e=>if e.flat then .gs true e else .sl e
 | .st t=>.st t.vG
 | .pr a b=>.pr a.vG b.vG
 | t=>t
def C.Ob:C->Bool
 | .rg _ wh _ _ _=>wh
 | _=>false
def S.Ob:S->Bool
 | .c x=>x.Ob
 | .agg cs=>iC C.Ob cs
 | _=>false
def yQ(e:Ty)(parts:List (Nat×S)):Ty:=if nR e&&iC (fun p=>p.2.Ob) parts&&decide (e.vG.de=e) then e.vG else e
def nT(lk:Nat->az)(nx:Nat)(e:Ty)(n:Nat)(parts:List (Nat×S)):Option QR :=
 if dN (fun p=>p.2.fQ) parts&&decide (bf parts=n)&&decide (n*e.size<=1000)&&(!e.bW||dN (fun p=>p.2.ed) parts) then
  omap (fun xs=>{ res:=.c (.own nx),new:=[.row (e.flat||dN (fun p=>p.2.ed) parts) e xs] }) (hJ lk e 0 parts)
 else none
def vM(T:bT)(nx:Nat)(t:TypeId)(n:Nat)(parts:List (Nat×S)):Option QR :=
 match T t,parts with
 | some { k:=.Eo _,.. },[(0,.c (.box a o)),(1,.c (.box b p))]=>if n=2 then some { res:=.c (.jI nx 2),new:=[.bx [.box a o,.box b p]] } else none
 | _,_=>none
def ix(T:bT)(lk:Nat->az)(nx:Nat)(t:TypeId)(n:Nat)(parts:List (Nat×S)):Option QR :=
 match ia T t with
 | some e=>nT lk nx (yQ e parts) n parts
 | none=>vM T nx t n parts
def ou(T:bT)(nx:Nat)(t:TypeId)(l c:C):Option QR :=
 match T t,l,c with
 | some { k:=.sl _ _ b e,.. },.val (.int .i64 n),.val (.int .i64 m) =>
   if 1<=b&&e.plain then some { ob:=some (0<=n/\n<=m/\m*(b:Int)<=140737488355328),res:=.c (.own nx),new:=[.row true e (List.replicate n.toNat e.en)] } else none
 | _,_,_=>none
def EU(T:bT)(lk:Nat->az)(b:Builtin)(Nz:List TypeId)(args:List S):Option QR :=
 match b,Nz,args with
 | .len,[t],[.c x]=>omap (fun n=>{ res:=.c (.val (.int .i64 n)) }) (IU T lk t x)
 | .min,_,[.c (.val (.int k x)),.c (.val (.int k' y))]=>if k'=k then some { res:=.c (.val (.int k (ly x y))) } else none
 | .max,_,[.c (.val (.int k x)),.c (.val (.int k' y))]=>if k'=k then some { res:=.c (.val (.int k (imax x y))) } else none
 | _,_,_=>none
def oT:List S->Option (List Nat)
 | []=>some []
 | .c (.box n 0)::r=>omap (n::·) (oT r)
 | _=>none
def S.RE:S->Bool
 | .c (.box _ _) | .c (.at_ _ _ _ _) | .c (.dR _ _ _) | .c (.fn _ _)=>true
 | _=>false
def fw(T:bT)(Γ:FuncId->Option PC)(lk:Nat->az)(nx:Nat)(ev:Operand->S)(o:Op):Option QR :=
 match o with
 | .move x | .assign x=>some { res:=ev x }
 | .pick c a b=>omap (fun s=>{ res:=s }) (CF (ev c) (ev a) (ev b))
 | .alloc t=>LI T nx t
 | .box _ x=>match (ev x).cells with|some cs=>some { res:=.c (.box nx 0),new:=[.bx cs] }|none=>none
 | .build t parts=>ET T t (lmap (fun p=>(p.1,ev p.2)) parts.toList)
 | .buildSlice t n parts=>ix T lk nx t n (lmap (fun p=>(p.1,ev p.2)) parts.toList)
 | .load t a=>match ev a with | .c p=>zj T lk t p|_=>none
 | .nilCheck x=>if (ev x).RE then some { res:=ev x } else none
 | .binOp op t x y _=>match ev x,ev y with | .c a,.c b=>Jp T t op a b | .agg a,.agg b=>Jo T t op a b|_,_=>none
 | .unOp op _ x=>match ev x with | .c a=>Q7 op a|_=>none
 | .convert s t x =>
   match T s,T t,ev x with
   | some _,some { k:=.int k,.. },.c (.val (.int _ n))=>some { res:=.c (.val (.int k (k.wrap n))) }
   | some { k:=.sl e _ _ _,.. },some { k:=.str,.. },.c x =>
     match T e with
     | some { k:=.int .u8,.. }=>omap (fun xs=>{ res:=.c (.val (.string (strOfNums xs))) }) (my lk (.int .u8) x)
     | _=>none
   | _,_,_=>none
 | .makeSlice t l c=>match ev l,ev c with | .c l,.c c=>ou T nx t l c|_,_=>none
 | .slice t x lo hi none=>match ev x with | .c x=>EV T lk t x (omap ev lo) (omap ev hi)|_=>none
 | .fieldAddr t x f=>match ev x with | .c p=>lH T t p f|_=>none
 | .field t x f =>
   match oJ T t f,ev x with
   | some (off,n,ag),.agg cs=>omap (fun r=>{ res:=nU (ag,r) }) (partOf cs off n)
   | _,_=>none
 | .indexAddr t x i=>match ev x,ev i with | .c x,.c i=>sY T lk t x i|_,_=>none
 | .extract x i=>match ev x with | .vl vs=>omap (fun v=>{ res:=nU v }) (iD vs i)|_=>none
 | .makeFunc (.func f) first captured=>match first.toList with|[]=>omap (fun ns=>{ res:=.c (.fn f ns) }) (oT (lmap ev captured.toList))|_=>none
 | .call c =>
   match c.callee with
   | .builtin b=>EU T lk b c.argTypes.toList (lmap ev c.args.toList)
   | .value f =>
     match ev f with
     | .c (.fn g [])=>CE Γ lk nx g (lmap ev c.args.toList)
     | .c (.bS fr g t d)=>CE Γ lk nx g (dg (lmap ev c.args.toList) (lmap S.c (expand fr t d)))
     | _=>none
   | _=>none
 | _=>none
def S.map(f:C->C):S->S
 | .c x=>.c (f x)
 | .agg cs=>.agg (lmap f cs)
 | .vl vs=>.vl (lmap (fun v=>(v.1,lmap f v.2)) vs)
 | .eP=>.eP
 | .any=>.any
 | .arr e xs=>.arr e xs
def az.map(f:C->C):az->az
 | .bx cs=>.bx (lmap f cs)
 | .row fr e xs=>.row fr e xs
 | .dead=>.dead
def St.map(st:St)(f:C->C):St :=
 { ts:=lmap (S.map f) st.ts,hp:=lmap (az.map f) st.hp }
def bQ(m:Nat):C->C
 | .own n=>if n=m then .any else .own n
 | .pre n h=>if n=m then .any else .pre n h
 | .eK n e xs=>if n=m then .any else .eK n e xs
 | .dR n i o=>if n=m then .any else .dR n i o
 | c=>c
def cJ(m:Nat):C->C
 | .eK n e xs=>if n=m then .any else .eK n e xs
 | c=>c
def db(m:Nat)(fr:Bool)(e:Ty)(xs:List e.den):C->C
 | .own n=>if n=m then .rd fr e xs else .own n
 | .pre n h=>if n=m then .rd fr e (xs.take h) else .pre n h
 | .eK n e' ys=>if n=m then .rd false e' ys else .eK n e' ys
 | .dR n i o=>if n=m then .at_ fr e (xs.getD i e.en) o else .dR n i o
 | c=>c
def St.freeze(st:St)(m:Nat):St :=
 match st.aB m with
 | .row fr e xs=>{ (st.map (db m fr e xs)) with hp:=b9 ((st.map (db m fr e xs)).hp) m .dead }
 | _=>st
def j0:List C->List Nat
 | []=>[]
 | .own n::r=>n::j0 r
 | .pre n _::r=>n::j0 r
 | .eK n _ _::r=>n::j0 r
 | _::r=>j0 r
def St.gF(st:St):List Nat->St
 | []=>st
 | n::r=>(st.freeze n).gF r
def St.put(st:St)(dst:Option Nat)(s:S):St :=
 match dst with
 | some d=>{ st with ts:=b9 st.ts d s }
 | none=>st
def St.alloc(st:St)(es:List az):St:={ st with hp:=dg st.hp es }
structure ER where
 ob:Option Prop:=none
 st:St
 res:S
def nq(cs:List C)(off:Nat)(xs:List C):List C:=dg (p9 off cs) (dg xs (og (off+bf xs) cs))
def C.yV:C->Bool
 | .rg _ _ _ _ _=>false
 | .rd _ e _=>!e.bW
 | .own _=>false
 | .pre _ _=>false
 | .eK _ _ _=>false
 | _=>true
def Ri(m:Nat)(fr:Bool)(e:Ty)(xs:List C):Bool:=!e.bW||(if fr then dN C.ed xs else (!(Nat.beq m 0)||dN C.yV xs))
def yw(T:bT)(st:St)(t:TypeId)(p x:Operand):Option ER :=
 match ta T t,st.eval p,(st.eval x).cells with
 | some n,.c (.box m off),some xs =>
   match st.aB m with
   | .bx cs=>if bf xs=n/\off+n<=bf cs then some { st:={ st with hp:=b9 st.hp m (.bx (nq cs off xs)) },res:=.eP } else none
   | _=>none
 | some n,.c (.dR _ _ _),some xs =>
   let dv:=st.gF (j0 xs)
   match dv.eval p,(dv.eval x).cells with
   | .c (.dR m i off),some xs =>
     match dv.aB m with
     | .row fr e ys =>
       if bf xs=n/\off+n<=e.size/\dN C.fQ xs=true/\Ri m fr e xs=true then
        match readAll dv.aB e (nq (expand fr e (ys.getD i e.en)) off xs) with
        | some y=>some { st:={ (dv.map (cJ m)) with hp:=b9 (dv.map (cJ m)).hp m (.row (fr&&(e.flat||dN C.ed xs)) e (ys.set i y)) },res:=.eP }
        | none=>none
       else none
     | _=>none
   | _,_=>none
 | _,_,_=>none
def lI(lk:Nat->az)(e:Ty):C->Option Bool
 | .rd fr _ _=>some (e.flat||fr)
 | .own n=>match lk n with | .row fr _ _=>some (e.flat||fr)|_=>none
 | .pre n _=>match lk n with | .row fr _ _=>some (e.flat||fr)|_=>none
 | .eK _ _ _=>if e.flat then some true else none
 | .rg fr _ _ _ _=>some (e.flat||fr)
 | .val (.slice none 0 0)=>some true
 | _=>none
def CI(lk:Nat->az)(e:Ty):C->Ty
 | .own n=>match lk n with | .row _ e' _=>if e'.de=e then e' else e|_=>e
 | .pre n _=>match lk n with | .row _ e' _=>if e'.de=e then e' else e|_=>e
 | .rd _ e' _=>if e'.de=e then e' else e
 | _=>e
def Cr(lk:Nat->az)(e:Ty)(s x:C):Ty :=
 match s with
 | .val _=>CI lk e x
 | s=>CI lk e s
def A3(st:St)(b:Nat)(e:Ty)(s x:C):Option ER :=
 if b=0 then none else
 match my st.aB e x,lI st.aB e x with
 | some ys,some f =>
   match s with
   | .own m =>
     match st.aB m with
     | .row fr e' xs =>
       if h:e'=e then
        if (e.flat&&!fr)||(e.bW&&!(fr&&f)) then none else
        if iC (fun k=>k == m) (j0 [x]) then none else
        some { ob:=some ((xs.length+ys.length)*b<=140737488355328),
               st:={ (st.map (bQ m)) with hp:=b9 (st.map (bQ m)).hp m (.row (fr&&f) e (fI h xs++ys)) },res:=.c (.own m) }
       else none
     | _=>none
   | .pre m n =>
     match st.aB m with
     | .row fr e' xs =>
       if h:e'=e then
        if (e.flat&&!fr)||(e.bW&&!(fr&&f)) then none else
        if iC (fun k=>k == m) (j0 [x]) then none else
        some { ob:=some ((n+ys.length)*b<=140737488355328),
               st:={ (st.map (bQ m)) with hp:=b9 (st.map (bQ m)).hp m (.row (fr&&f) e ((fI h xs).take n++ys)) },res:=.c (.own m) }
       else none
     | _=>none
   | .val (.slice none 0 0) =>
     if e.bW&&!f then none else
     some { ob:=some (ys.length*b<=140737488355328),st:=st.alloc [.row f e ys],res:=.c (.own (bf st.hp)) }
   | _=>none
 | _,_=>none
def Hq(T:bT)(st:St)(t:TypeId)(s x:Operand):Option ER :=
 match T t,st.eval s,st.eval x with
 | some { k:=.sl _ _ b e0,.. },.c s,.c x=>A3 st b (Cr st.aB e0 s x) s x
 | _,_,_=>none
def uQ(st:St):List (Nat×Operand)->List Nat
 | []=>[]
 | p::r=>dg (match (st.eval p.2).cells with|some cs=>j0 cs|none=>[]) (uQ st r)
def wy(T:bT)(st:St)(t:TypeId)(n:Nat)(parts:List (Nat×Operand)):Option ER :=
 let ns:=uQ st parts
 let dv:=st.gF ns
 match ix T dv.aB (bf dv.hp) t n (lmap (fun p=>(p.1,dv.eval p.2)) parts) with
 | some r=>some { ob:=r.ob,st:=dv.alloc r.new,res:=r.res }
 | none=>none
def Dg(T:bT)(st:St)(args:List Operand)(Nz:List TypeId):Option ER :=
 match args,Nz with
 | [s,x],[t,t']=>if t=t' then Hq T st t s x else none
 | _,_=>none
def DR:Callee->Bool
 | .builtin .append=>true
 | _=>false
def zU(T:bT)(st:St)(t:TypeId)(p x:Operand):Option ER :=
 match T t,st.eval p,st.eval x with
 | some { k:=.arr _ _ _ _ _,size:=sz,.. },.c (.dR m 0 0),.arr e xs =>
   match st.aB m with
   | .row fr e' ys =>
     if e'=e then some { ob:=some (xs.length=ys.length/\xs.length*e.size=sz),st:={ (st.map (cJ m)) with hp:=b9 (st.map (cJ m)).hp m (.row fr e xs) },res:=.eP } else none
   | _=>none
 | _,_,_=>none
def NK(T:bT)(st:St)(o:Op):Option ER :=
 match o with
 | .store t a x=>match yw T st t a x with|some r=>some r|none=>zU T st t a x
 | .buildSlice t n parts=>wy T st t n parts.toList
 | .call c=>if DR c.callee then Dg T st c.args.toList c.argTypes.toList else none
 | _=>none
def jN(p q:Option Prop):Option Prop :=
 match p,q with
 | none,q=>q
 | p,none=>p
 | some p,some q=>some (p/\q)
def gP:Option Prop->Prop
 | none=>True
 | some p=>p
def C.D7(b:Nat):C->Option Prop
 | .rg _ wh e b' xs=>some (b ∉ ids (.gs wh e) (b',xs))
 | .rd _ e xs=>if e.bW then some (b ∉ eT e xs) else none
 | .at_ _ t d _=>if t.bW then some (b ∉ ids t d) else none
 | _=>none
def Is(b:Nat):List C->Option Prop
 | []=>none
 | c::r=>jN (c.D7 b) (Is b r)
def az.D7(b:Nat):az->Option Prop
 | .row _ e xs=>if e.bW then some (b ∉ eT e xs) else none
 | .bx cs=>Is b cs
 | .dead=>none
def Cw(b:Nat):List az->Option Prop
 | []=>none
 | e::r=>jN (e.D7 b) (Cw b r)
def CA(b:Nat):List Nat->Option Prop
 | []=>none
 | a::r=>jN (some (b≠a)) (CA b r)
def lK(m b:Nat)(fr:Bool)(e:Ty)(xs:List e.den):C->C
 | .own n=>if n=m then .rg fr true e b xs else .own n
 | .pre n h=>if n=m then .rd fr e (xs.take h) else .pre n h
 | .eK n e' ys=>if n=m then .rd false e' ys else .eK n e' ys
 | .dR n i o=>if n=m then .at_ fr e (xs.getD i e.en) o else .dR n i o
 | c=>c
def St.sealB(st:St)(m b:Nat):St :=
 match st.aB m with
 | .row fr e xs=>{ (st.map (lK m b fr e xs)) with hp:=b9 ((st.map (lK m b fr e xs)).hp) m .dead }
 | _=>st
def Ao(acc:List Nat):List Nat->St->(St->Prop)->Prop
 | [],st,K=>K st
 | m::ms,st,K=>∀ b:Nat,gP (jN (Cw b st.hp) (CA b acc))->Ao (b::acc) ms (st.sealB m b) K
def oL(st:St):List C->List Nat
 | []=>[]
 | .own n::r=>match st.aB n with | .row true e _=>if e.flat then n::oL st r else oL st r|_=>oL st r
 | _::r=>oL st r
def Ec(st:St):List (Nat×Operand)->List Nat
 | []=>[]
 | p::r=>dg (match (st.eval p.2).cells with|some cs=>oL st cs|none=>[]) (Ec st r)
def Rd(T:bT)(tl:Bool)(st:St):Op->List Nat
 | .store _ p x =>
   match st.eval p,(st.eval x).cells with
   | .c (.dR m _ _),some cs=>(match st.aB m with | .row _ e _=>if e.bW then oL st cs else []|_=>[])
   | _,_=>[]
 | .buildSlice t _ parts =>
   match ia T t with
   | some e=>if tl&&nR e then Ec st parts.toList else []
   | none=>[]
 | _=>[]
abbrev dk:=List S->St->(S->St->Prop)->Prop
def vi:Nat:=1000000
def RQ(R:FuncId->Option dk):Bool:=(R vi).isSome
def q9(st:St):Op->Option (FuncId×List S)
 | .call c =>
   match c.callee with
   | .value f=>match st.eval f with | .c (.fn g [])=>some (g,lmap st.eval c.args.toList)|_=>none
   | _=>none
 | _=>none
def zM(p:Option Prop)(q:Prop):Prop:=match p with|none=>q|some p=>p/\q
def IQ(p:Option Prop)(q:Prop):Prop:=match p with|none=>q|some p=>p->q
def IP:Nat->Nat->Int->(Nat->Prop)->Prop
 | 0,_,_,_=>True
 | 1,k,n,f=>n=(k:Int)->f k
 | l+2,k,n,f=>(n=(k:Int)->f k)/\IP (l+1) (k+1) n f
def J3(T:bT)(st:St)(op:Op)(dst:Option Nat)(K:St->Prop):Prop :=
 match op with
 | .indexAddr t x i =>
   match T t,st.eval x,st.eval i with
   | some { k:=.Eo _,.. },.c (.jI m l),.c (.val (.int _ n))=>(0<=n/\n<(l:Int))/\IP l 0 n (fun j=>K (st.put dst (.c (.box m j))))
   | _,_,_=>False
 | _=>False
def tk(T:bT)(Γ:FuncId->Option PC)(R:FuncId->Option dk)(ev:Operand->S)(lk:Nat->az)(o:Oper)(st:St)(K:St->Prop):Prop :=
 match fw T Γ lk (bf st.hp) ev o.op with
 | some r=>zM r.ob (IQ r.hy (K ((st.alloc r.new).put o.dst r.res)))
 | none =>
   match Rd T (RQ R) st o.op with
   | n::ns=>Ao [] (n::ns) st fun aP=>match NK T aP o.op with|some r=>zM r.ob (K (r.st.put o.dst r.res))|none=>False
   | [] =>
   match NK T st o.op with
   | some r=>zM r.ob (K (r.st.put o.dst r.res))
   | none =>
     match q9 st o.op with
     | some (f,args) =>
       match R f with
       | some r=>if Nat.beq f vi then False else r args st fun s aP=>K (aP.put o.dst s)
       | none=>False
     | none=>J3 T st o.op o.dst K
def PX(Γ:FuncId->Option PC)(R:FuncId->Option dk)(st:St)(o:Op):Bool :=
 match q9 st o with
 | some (f,_)=>(Γ f).isSome&&(R f).isSome
 | none=>false
def vR(T:bT)(Γ:FuncId->Option PC)(R:FuncId->Option dk)(ev:Operand->S)(lk:Nat->az)(o:Oper)(st:St)(K:St->Prop):Prop :=
 if PX Γ R st o.op then
  match q9 st o.op with
  | some (f,args) =>
    match R f with
    | some r=>if Nat.beq f vi then False else r args st fun s aP=>K (aP.put o.dst s)
    | none=>False
  | none=>False
 else tk T Γ R ev lk o st K
inductive Th where
 | go
 | skip
 | ask (d:Nat) (b:Bool) (want:Bool)
 | bad
def im(all:Array Oper)(o:Oper)(st:St):Th :=
 match o.guard with
 | none=>.go
 | some (j,want) =>
   match yY (iD all.toList j) (·.dst) with
   | some d =>
     match nth .any st.ts d with
     | .c .fm=>if want then .go else .skip
     | .c .fe=>if want then .skip else .go
     | .c (.val (.bool b))=>.ask d b want
     | .eP=>.skip
     | _=>.bad
   | none=>.bad
def kd(T:bT)(Γ:FuncId->Option PC)(R:FuncId->Option dk)(all:Array Oper):List Oper->St->(St->Prop)->Prop
 | [],st,K=>K st
 | o::rest,st,K =>
   match im all o st with
   | .go=>vR T Γ R st.eval st.aB o st (fun aP=>kd T Γ R all rest aP K)
   | .skip=>kd T Γ R all rest (st.put o.dst .eP) K
   | .ask d b want =>
     (b=true->if want then vR T Γ R (st.put (some d) (.c .fm)).eval st.aB o (st.put (some d) (.c .fm)) (fun aP=>kd T Γ R all rest aP K)
       else kd T Γ R all rest ((st.put (some d) (.c .fm)).put o.dst .eP) K) ∧
     (b=false->if want then kd T Γ R all rest ((st.put (some d) (.c .fe)).put o.dst .eP) K
       else vR T Γ R (st.put (some d) (.c .fe)).eval st.aB o (st.put (some d) (.c .fe)) (fun aP=>kd T Γ R all rest aP K))
   | .bad=>False
def Q6(Γ:FuncId->Option PC)(o:Oper):Bool :=
 match o.op with
 | .assign _ | .store ..=>false
 | .call { callee:=.builtin b,.. }=>(match b with | .len | .min | .max=>true|_=>false)
 | .call { callee:=.value (.func f),.. }=>(Γ f).isSome
 | .call _=>false
 | _=>true
def Ou(Γ:FuncId->Option PC)(ws:List Nat)(o:Oper):List Nat :=
 match o.dst with
 | some d =>
   (match o.op with
    | .call { callee:=.value (.func f),.. }=>(match Γ f with|some c=>if c.fz then ws else d::ws|none=>d::ws)
    | .call { callee:=.value _,.. }=>d::ws
    | .build _ parts=>if iC (fun p=>match p.2 with | .tmp x=>iC (fun y=>y == x) ws|_=>false) parts.toList then d::ws else ws
    | .extract (.tmp x) _=>if iC (fun y=>y == x) ws then d::ws else ws
    | .move (.tmp x)=>if iC (fun y=>y == x) ws then d::ws else ws
    | _=>ws)
 | none=>ws
def PE(T:bT)(ws:List Nat)(o:Oper):Bool :=
 match o.op with
 | .buildSlice t _ parts =>
   (match ia T t with
    | some e=>!e.flat&&iC (fun p=>match p.2 with | .tmp x=>iC (fun y=>y == x) ws|_=>false) parts.toList
    | none=>false)
 | _=>false
def kC(T:bT)(Γ:FuncId->Option PC)(ws:List Nat):List Oper->Nat
 | []=>0
 | o::r=>if Q6 Γ o&&!(PE T ws o) then kC T Γ (Ou Γ ws o) r+1 else 0
def du(all:Array Oper)(i:Nat):Nat:=(Region.before all).getD i 0
def ku(all:Array Oper)(t:Nat):Nat->Option Nat
 | 0=>none
 | k+1 =>
   match all[k]? with
   | some o=>if o.dst=some t then some k else ku all t k
   | none=>ku all t k
def Di(all:Array Oper)(k i:Nat)(st:St)(x:Operand):S :=
 match x with
 | .tmp t =>
   match ku all t k with
   | some j=>if (du all i).testBit j then st.eval (.tmp t) else .any
   | none=>st.eval (.tmp t)
 | x=>st.eval x
def Bj(all:Array Oper)(i kF:Nat)(b8:List Nat)(st:St)(n:Nat):az :=
 if n<kF then st.aB n else
 match iD b8 (n-kF) with
 | some j=>if (du all i).testBit j then st.aB n else .dead
 | none=>.dead
def fD(all:Array Oper)(k:Nat):Bool :=
 (List.range k).all fun i =>
   match all[i]? with
   | some o =>
     (match o.guard with|some (j,_)=>decide (j<i)&&(du all i).testBit j|none=>true) &&
     (match o.dst with
      | some d=>(List.range k).all fun j=>j == i||(match all[j]? with|some o'=>o'.dst != some d|none=>true)
      | none=>false)
   | none=>false
def oE(all:Array Oper)(k:Nat):Bool :=
 (List.range all.size).all fun i=>(decide (i<k)||(List.range i).all fun j=>(du all i).testBit j) &&
   (match all[i]? with|some o=>o.after.toList.all fun e=>!Region.binds .any e||decide (e.on<i)|none=>true)
def nt(T:bT)(Γ:FuncId->Option PC)(all:Array Oper)(k kF:Nat):Nat->List Oper->List Nat->St->(St->Prop)->Prop
 | _,[],_,st,K=>K st
 | i,o::rest,b8,st,K =>
   let go (st:St):Prop :=
    match fw T Γ (Bj all i kF b8 st) (bf st.hp) (Di all k i st) o.op with
    | some r=>zM r.ob (nt T Γ all k kF (i+1) rest (dg b8 (lmap (fun _=>i) r.new)) ((st.alloc r.new).put o.dst r.res) fun aP=>IQ r.hy (K aP))
    | none=>False
   let skip (st:St):Prop:=nt T Γ all k kF (i+1) rest b8 (st.put o.dst .eP) K
   match im all o st with
   | .go=>go st
   | .skip=>skip st
   | .ask d b want =>
     (b=true->if want then go (st.put (some d) (.c .fm)) else skip (st.put (some d) (.c .fm))) ∧
     (b=false->if want then skip (st.put (some d) (.c .fe)) else go (st.put (some d) (.c .fe)))
   | .bad=>False
def Nh(all:List Oper)(aq:List Bool)(i:Nat):Bool :=
 !(nth true aq i)&&(match iD all i with|some o=>dN (fun e=>!(Region.binds .any e)||nth false aq e.on) o.after.toList|none=>false)
def ow(all:List Oper)(aq:List Bool):Nat->Nat->List Nat
 | _,0=>[]
 | i,n+1=>if Nh all aq i then i::ow all aq (i+1) n else ow all aq (i+1) n
def jG(o:Oper):Bool :=
 match o.guard,o.op with
 | none,.fieldAddr _ _ _=>true
 | none,.move _=>true
 | none,.assign _=>true
 | none,.extract _ _=>true
 | _,_=>false
def yz(all:Array Oper)(oi:Oper)(i:Nat)(aq:List Bool):Nat->List Oper->Bool
 | _,[]=>true
 | j,oj::r=>(j == i||nth true aq j||iC (fun e=>Region.binds .any e&&e.on == i) oj.after.toList||oi.apart all oj)&&yz all oi i aq (j+1) r
def yU(all:List Oper):Bool:=dN (fun o=>match o.op with | .select ..=>false|_=>true) all
def JA(all:Array Oper)(aq:List Bool)(i:Nat):Bool :=
 match iD all.toList i with
 | some oi=>jG oi&&yU all.toList&&yz all oi i aq 0 all.toList
 | none=>false
def pU(all:Array Oper)(aq:List Bool):List Nat->Option Nat
 | []=>none
 | i::r=>if JA all aq i then some i else pU all aq r
def Iq:List Nat->(Nat->Prop)->Prop
 | [],_=>True
 | [i],f=>f i
 | i::r,f=>f i/\Iq r f
def vo(T:bT)(Γ:FuncId->Option PC)(R:FuncId->Option dk)(all:Array Oper)(i:Nat)(st:St)(K:St->Prop):Prop :=
 match iD all.toList i with
 | some o =>
   match im all o st with
   | .go=>tk T Γ R st.eval st.aB o st K
   | .skip=>K (st.put o.dst .eP)
   | .ask d b want =>
     (b=true->if want then tk T Γ R (st.put (some d) (.c .fm)).eval st.aB o (st.put (some d) (.c .fm)) K
       else K ((st.put (some d) (.c .fm)).put o.dst .eP)) ∧
     (b=false->if want then K ((st.put (some d) (.c .fe)).put o.dst .eP)
       else tk T Γ R (st.put (some d) (.c .fe)).eval st.aB o (st.put (some d) (.c .fe)) K)
   | .bad=>False
 | none=>False
def qk(T:bT)(Γ:FuncId->Option PC)(R:FuncId->Option dk)(all:Array Oper):Nat->List Bool->St->(St->Prop)->Prop
 | 0,aq,st,K =>
   match ow all.toList aq 0 (bf all.toList) with
   | []=>K st
   | _=>False
 | n+1,aq,st,K =>
   match ow all.toList aq 0 (bf all.toList) with
   | []=>K st
   | j::r =>
     match pU all aq (j::r) with
     | some i=>vo T Γ R all i st fun aP=>qk T Γ R all n (b9 aq i true) aP K
     | none=>Iq (j::r) fun i=>vo T Γ R all i st fun aP=>qk T Γ R all n (b9 aq i true) aP K
def sD(all:Array Oper)(oi:Oper)(i:Nat):Nat->List Oper->Bool
 | _,[]=>true
 | j,oj::r=>(j == i||(du all i).testBit j||iC (fun e=>Region.binds .any e&&e.on == i) oj.after.toList||oi.apart all oj)&&sD all oi i (j+1) r
def Cz(all:Array Oper)(i:Nat):Bool :=
 match iD all.toList i with
 | some oi=>jG oi&&yU all.toList&&sD all oi i 0 all.toList
 | none=>false
def l_(all:Array Oper)(k:Nat):Bool :=
 (List.range all.size).all fun i=>(decide (i<k)||(List.range k).all fun j=>(du all i).testBit j||Cz all j) &&
   (match all[i]? with|some o=>o.after.toList.all fun e=>!Region.binds .any e||decide (e.on<i)|none=>true)
def tm(T:bT)(Γ:FuncId->Option PC)(R:FuncId->Option dk)(ops:Array Oper)(draw:Bool)(st:St)(K:St->Prop):Prop :=
 if draw then
  let k:=kC T Γ [] ops.toList
  if fD ops k&&oE ops k then
   nt T Γ ops k (bf st.hp) 0 (p9 k ops.toList) [] st fun aP=>kd T Γ R ops (og k ops.toList) aP K
  else if fD ops k&&l_ ops k then
   nt T Γ ops k (bf st.hp) 0 (p9 k ops.toList) [] st fun aP=>qk T Γ R ops (bf (og k ops.toList)) (dg (pB true k) (pB false (bf (og k ops.toList)))) aP K
  else qk T Γ R ops (bf ops.toList) (pB false (bf ops.toList)) st K
 else kd T Γ R ops ops.toList st K
inductive Src where
 | nm (n:Nat)
 | nil
 | no
def wM(b:Bool):Option Prop:=if b then none else some False
def mC(aX:List Src):C->C->Option Prop
 | _,.any=>none
 | .val (.int k n),.val (.int k' m)=>if k=k' then some (n=m) else some False
 | .val (.bool a),.val (.bool b)=>some (a=b)
 | .fm,.val (.bool b)=>some (b=true)
 | .fe,.val (.bool b)=>some (b=false)
 | .fm,.fm=>none
 | .fe,.fe=>none
 | .val v,.val u=>some (v=u)
 | .rd fr e xs,.rd aW e' ys=>if h:e=e' then (if aW&&!fr then some False else some (fI h xs=ys)) else some False
 | .val (.slice none 0 0),.rd _ _ ys=>some (ys=[])
 | .own n,.own m =>
   match iD aX m with
   | some (.nm n')=>wM (n' == n)
   | _=>some False
 | .val (.slice none 0 0),.own m =>
   match iD aX m with
   | some .nil=>none
   | _=>some False
 | .pre n k,.pre m k' =>
   match iD aX m with
   | some (.nm n')=>jN (wM (n' == n)) (some (k=k'))
   | _=>some False
 | .box n o,.box m o' =>
   match iD aX m with
   | some (.nm n')=>wM (n' == n&&o == o')
   | _=>some False
 | .jI n o,.jI m o' =>
   match iD aX m with
   | some (.nm n')=>wM (n' == n&&o == o')
   | _=>some False
 | .rg fr wh e b xs,.rg aW ql e' b' ys=>if h:e=e' then (if (aW&&!fr)||(ql&&!wh) then some False else some (b=b'/\fI h xs=ys)) else some False
 | .val (.slice none 0 0),.rg _ _ _ _ ys=>some (ys=[])
 | .rg fr _ e _ xs,.rd aW e' ys=>if h:e=e' then (if aW&&!fr then some False else some (fI h xs=ys)) else some False
 | .at_ fr t d o,.at_ aW t' d' o'=>if h:t=t' then (if aW&&!fr then some False else jN (wM (o == o')) (some ((h▸d)=d'))) else some False
 | .bS fr f t d,.bS aW f' t' d'=>if h:t=t' then (if aW&&!fr then some False else jN (wM (Nat.beq f f')) (some ((h▸d)=d'))) else some False
 | .dR n i o,.dR m i' o' =>
   match iD aX m with
   | some (.nm n')=>jN (wM (n' == n&&o == o')) (some (i=i'))
   | _=>some False
 | _,_=>some False
def Ln(aX:List Src):List C->List C->Option Prop
 | [],[]=>none
 | x::xs,y::ys=>jN (mC aX x y) (Ln aX xs ys)
 | _,_=>some False
def mS(aX:List Src):S->S->Option Prop
 | _,.any=>none
 | .c x,.c y=>mC aX x y
 | .agg xs,.agg ys=>Ln aX xs ys
 | .eP,.eP=>none
 | _,_=>some False
def QY(aX:List Src):List S->List S->Option Prop
 | [],[]=>none
 | x::xs,y::ys=>jN (mS aX x y) (QY aX xs ys)
 | _,_=>some False
def mE(aX:List Src)(es:Nat->az)(r:Src)(t:az):Option Prop :=
 match t with
 | .dead=>match r with | .no=>none|_=>some False
 | .bx cs=>match r with | .nm n=>(match es n with | .bx cr=>Ln aX cr cs|_=>some False)|_=>some False
 | .row fr e xs =>
   match r with
   | .nm n =>
     match es n with
     | .row aW e' ys =>
       if h:e'=e then (if (fr&&!aW)||(e.bW&&aW&&!fr) then some False else some (fI h ys=xs))
       else if h:e'=e.de then (if fr&&aW then some ((∀ y∈fI h ys,xB e y)/\xs=(fI h ys).map (fq e)) else some False)
       else some False
     | _=>some False
   | .nil=>some (xs=[])
   | .no=>some False
def QX(aX:List Src)(es:Nat->az):List Src->List az->Option Prop
 | [],[]=>none
 | r::rs,t::ts=>jN (mE aX es r t) (QX aX es rs ts)
 | _,_=>some False
def kq:List Src->Bool
 | []=>true
 | .nm n::r=>!(iC (fun | .nm m=>m == n|_=>false) r)&&kq r
 | _::r=>kq r
def yP(es:Nat->az):Nat->List Src->List az->Bool
 | k,r::rs,t::ts =>
   (match t with
    | .row false e _=>!(e.flat||e.bW)||(match r with | .nm n=>n == k&&(match es n with | .row fr _ _=>!fr|_=>false) | .nil=>true | .no=>false)
    | _=>true)&&yP es (k+1) rs ts
 | _,_,_=>true
def IS:az->List Src->List az->Bool
 | .bx _,.nm 0::_,.bx _::_=>true
 | .bx _,_,_=>false
 | _,_,_=>true
def Match(aX:List Src)(s t:St):Prop :=
 gP (jN (wM (kq aX&&yP s.aB 0 aX t.hp&&IS (s.aB 0) aX t.hp)) (jN (QY aX s.ts t.ts) (QX aX s.aB aX t.hp)))
def K6(n:Nat):C->C->Option Src
 | x,.own m=>if m=n then (match x with | .own k=>some (.nm k) | .val (.slice none 0 0)=>some .nil|_=>none) else none
 | x,.box m _=>if m=n then (match x with | .box k _=>some (.nm k)|_=>none) else none
 | x,.pre m _=>if m=n then (match x with | .pre k _=>some (.nm k)|_=>none) else none
 | x,.jI m _=>if m=n then (match x with | .jI k _=>some (.nm k)|_=>none) else none
 | _,_=>none
def z4(n:Nat):List C->List C->Option Src
 | x::xs,y::ys=>yZ (K6 n x y) (z4 n xs ys)
 | _,_=>none
def QS(n:Nat):S->S->Option Src
 | .c x,.c y=>K6 n x y
 | .agg xs,.agg ys=>z4 n xs ys
 | _,_=>none
def HJ(n:Nat):List S->List S->Option Src
 | x::xs,y::ys=>yZ (QS n x y) (HJ n xs ys)
 | _,_=>none
def DO(n:Nat)(s:St):Nat->List az->Option Src
 | k,.bx ys::r=>yZ (match s.aB k with | .bx xs=>z4 n xs ys|_=>none) (DO n s (k+1) r)
 | k,_::r=>DO n s (k+1) r
 | _,[]=>none
def QQ(s t:St)(n:Nat):Src:=(match yZ (HJ n s.ts t.ts) (DO n s 0 t.hp) with|some r=>r|none=>.nm n)
def py(s t:St):Nat->List az->List Src
 | _,[]=>[]
 | n,.dead::r=>.no::py s t (n+1) r
 | n,_::r=>QQ s t n::py s t (n+1) r
inductive Ex where
 | normal
 | exit (id:Nat)
 | ret
inductive bk:Type 1 where
 | mk (X:Type) (J:X->Prop) (I:St->X->St) (m:X->Nat) (x0:X) (inner:X->Nat->Option bk)
def keyOf:Code->Option Nat
 | .region id _ _=>some id
 | .seq a b=>yZ (keyOf a) (keyOf b)
 | .block _ a=>keyOf a
 | .loop a=>keyOf a
 | _=>none
def dstsOf:List Oper->List Nat
 | []=>[]
 | o::r=>match o.dst with|some d=>d::dstsOf r|none=>dstsOf r
def writes:Code->List Nat
 | .region _ ops _=>dstsOf ops.toList
 | .seq a b=>dg (writes a) (writes b)
 | .cond _ a b=>dg (writes a) (writes b)
 | .block _ a=>writes a
 | .loop a=>writes a
 | _=>[]
def forget(ts:List S):List Nat->List S
 | []=>ts
 | d::r=>forget (b9 ts d .any) r
def Oi(ts:List S):List (Nat×S)->List S
 | []=>ts
 | p::r=>Oi (b9 ts p.1 p.2) r
def St.aU(st:St)(l:List (Nat×S)):St:={ st with ts:=Oi st.ts l }
def Tc(hp:List az)(p:Nat×az):List az:=if p.1<bf hp then b9 hp p.1 p.2 else dg hp [p.2]
def Oh(hp:List az):List (Nat×az)->List az
 | []=>hp
 | p::r=>Oh (Tc hp p) r
def St.bE(st:St)(l:List (Nat×az)):St:={ st with hp:=Oh st.hp l }
def K9(n:Nat)(l:List Nat):Nat->List S->List S
 | _,[]=>[]
 | i,s::r=>(if Nat.ble n i&&!(iC (fun m=>Nat.beq m i) l) then .any else s)::K9 n l (i+1) r
def St.keep(st:St)(n:Nat)(l:List Nat):St:={ st with ts:=K9 n l 0 st.ts }
def St.head(st:St)(body:Code):St:={ st with ts:=forget st.ts (writes body) }
def vc(T:bT)(Γ:FuncId->Option PC)(R:FuncId->Option dk):Code->(Nat->Option bk)->St->(Ex->(Nat->Option bk)->St->Prop)->Prop
 | .skip,A,st,Q=>Q .normal A st
 | .region id ops draw,A,st,Q =>
   match A (id+200000) with
   | some (.mk X J I m x0 inner)=>tm T Γ R ops draw (st.freeze (m x0)) (Q .normal A)
   | none=>tm T Γ R ops draw st (Q .normal A)
 | .seq a b,A,st,Q =>
   match yY (keyOf b) (fun k=>A (k+100000)) with
   | some (.mk X J I m x0 inner) =>
     vc T Γ R a A st (fun e A' aP =>
      match e with
      | .normal=>∃ x':X,J x'/\Match (py aP (I (st.head a) x') 0 (I (st.head a) x').hp) aP (I (st.head a) x')
      | e=>Q e A' aP) ∧
     ∀ x:X,J x->vc T Γ R b (inner x) (I (st.head a) x) Q
   | none=>vc T Γ R a A st fun e A' aP=>match e with | .normal=>vc T Γ R b A' aP Q|e=>Q e A' aP
 | .cond c a b,A,st,Q =>
   match st.eval c with
   | .c .fm=>vc T Γ R a A st Q
   | .c .fe=>vc T Γ R b A st Q
   | .c (.val (.bool p))=>(p=true->vc T Γ R a A st Q)/\(p=false->vc T Γ R b A st Q)
   | _=>False
 | .block id a,A,st,Q=>vc T Γ R a A st fun e A' aP=>match e with | .exit i=>if i=id then Q .normal A' aP else Q (.exit i) A' aP|e=>Q e A' aP
 | .loop a,A,st,Q =>
   match yY (keyOf a) A with
   | some (.mk X J I m x0 inner) =>
     J x0/\Match (py st (I (st.head a) x0) 0 (I (st.head a) x0).hp) st (I (st.head a) x0) ∧
     ∀ x:X,J x->vc T Γ R a (inner x) (I (st.head a) x) fun e A' aP =>
      match e with
      | .normal=>∃ x':X,J x'/\m x'<m x/\Match (py aP (I (st.head a) x') 0 (I (st.head a) x').hp) aP (I (st.head a) x')
      | e=>Q e A' aP
   | none=>False
 | .exit id,A,st,Q=>Q (.exit id) A st
 | .ret,A,st,Q=>Q .ret A st
 | _,_,_,_=>False
def I2(lk:Nat->az)(e:Ty):C->Option (List e.den×List Nat)
 | .own n =>
   match lk n with
   | .row true e' xs=>omap (fun ys=>(ys,[n])) (jP e' e xs)
   | _=>none
 | .pre n m =>
   match lk n with
   | .row true e' xs=>omap (fun ys=>(ys,[n])) (jP e' e (xs.take m))
   | _=>none
 | .val (.slice none 0 0)=>some ([],[])
 | _=>none
def pE(lk:Nat->az):(t:Ty)->List C->Option (t.den×List Nat×List C)
 | .int k,cs=>match jy (CG k) cs with|some (x,r)=>some (x,[],r)|none=>none
 | .bool,cs=>match jy rdBool cs with|some (x,r)=>some (x,[],r)|none=>none
 | .str,cs=>match jy rdStr cs with|some (x,r)=>some (x,[],r)|none=>none
 | .sl e,cs=>match jy (I2 lk e) cs with|some ((x,ns),r)=>some (x,ns,r)|none=>none
 | .st t,cs=>pE lk t cs
 | .pr a b,cs =>
   match pE lk a cs with
   | some (x,ns,r) =>
     match pE lk b r with
     | some (y,ms,r')=>some ((x,y),dg ns ms,r')
     | none=>none
   | none=>none
 | .ptr _,_=>none
 | .bS _ _,_=>none
 | .gs _ _,_=>none
def I1(lk:Nat->az)(t:Ty)(s:S):Option (t.den×List Nat) :=
 match s with
 | .c x=>if nR t then none else match pE lk t [x] with|some (d,ns,[])=>some (d,ns)|_=>none
 | .agg cs=>if nR t then match pE lk t cs with|some (d,ns,[])=>some (d,ns)|_=>none else none
 | _=>none
def y4(lk:Nat->az):(ts:List Ty)->List S->Option (bU ts×List Nat)
 | [],[]=>some ((),[])
 | [t],[s]=>I1 lk t s
 | t::u::r,s::ss =>
   match I1 lk t s with
   | some (x,ns) =>
     match y4 lk (u::r) ss with
     | some (y,ms)=>some ((x,y),dg ns ms)
     | none=>none
   | none=>none
 | _,_=>none
def Q_(T:bT)(st:St):ResultVar->Option S
 | .tmp t=>some (st.eval (.tmp t))
 | .cell a t =>
   match st.eval (.tmp a) with
   | .c (.box m o)=>omap (fun r=>r.res) (zj T st.aB t (.box m o))
   | _=>none
def u5(T:bT)(st:St):List ResultVar->Option (List S)
 | []=>some []
 | r::rs =>
   match Q_ T st r,u5 T st rs with
   | some s,some ss=>some (s::ss)
   | _,_=>none
def yW:List Nat->Bool
 | []=>true
 | n::r=>!(iC (fun m=>m == n) r)&&yW r
def Io(t:Ty)(d:t.den):S:=nU (nR t,expand false t d)
def mI:(ts:List Ty)->bU ts->List S
 | [],_=>[]
 | [t],d=>[Io t d]
 | t::u::r,d=>Io t d.1::mI (u::r) d.2
def St.start(ts:List Ty)(d:bU ts)(ntmps:Nat):St:={ ts:=dg (mI ts d) (pB .eP (ntmps-bf ts)),hp:=[] }
def FL(T:bT)(fn:Func)(rs:List Ty)(out:bU rs)(e:Ex)(st:St):Prop :=
 match e with
 | .exit _=>False
 | _ =>
   match u5 T st fn.results.toList with
   | some ss =>
     match y4 st.aB rs ss with
     | some (r,ns)=>if yW ns then r=out else False
     | none=>False
   | none=>False
def ar(T:bT)(Γ:FuncId->Option PC)(R:FuncId->Option dk)(fn:Func)(c:PC)(A:bU c.ts->Nat->Option bk):Prop :=
 match fn.body with
 | some code=>∀ d,zt c.ts d->c.pre d->vc T Γ R code (A d) (St.start c.ts d fn.ntmps) fun e _ st=>FL T fn c.rs (c.F d) e st
 | none=>False
end Go.SX
/- What keeps a symbolic value true: new names, new blocks, more memory that is not written any more. No condition. -/
namespace Go.SX
open Go.RowKit
set_option linter.unusedVariables false
theorem Ty.size_pos:∀ t:Ty,0<t.size
 | .int _=>Nat.one_pos
 | .bool=>Nat.one_pos
 | .str=>Nat.one_pos
 | .sl _=>Nat.one_pos
 | .st t=>t.size_pos
 | .pr a _=>Nat.add_pos_left a.size_pos _
 | .ptr _=>Nat.one_pos
 | .bS _ _=>Nat.one_pos
 | .gs _ _=>Nat.one_pos
structure VX (V:Vl) (hp:Nat->az) (w:World) (V':Vl) (aJ:Nat->az) (w':World):Prop where
 nm:∀ n,(hp n).live=true->V'.aI n=V.aI n/\(V'.has n↔V.has n)/\aJ n=hp n
 z0:∀ b,V.Z0 b->V'.Z0 b
 z1:∀ b,V.Z1 b->V'.Z1 b
 J8:∀ b,V.Z false b->w'.heap[b]? = w.heap[b]?
 J7:∀ n,(hp n).live=true->V.has n->w'.heap[V.aI n]? = w.heap[V.aI n]?
section
variable {V V' : Vl} {hp aJ : Nat → az} {w w' : World}
theorem VX.tu(x:VX V hp w V' aJ w'){fr:Bool}{b:Nat}(h:V.Z fr b):V'.Z fr b:=by
 rcases h with h|⟨h,k⟩
 ·exact .inl (x.z1 b h)
 ·exact .inr ⟨h,x.z0 b k⟩
theorem VX.agree(x:VX V hp w V' aJ w')(fr:Bool):kL (V.Z fr) w w':=fun b hb=>x.J8 b (Vl.eD hb)
theorem VX.rd(x:VX V hp w V' aJ w'){fr:Bool}{t:Ty}{cs:List Value}{d:t.den}(h:aH (V.Z fr) w t cs d):aH (V'.Z fr) w' t cs d :=
 h.mono (fun _ hb=>x.tu hb) (x.agree fr)
theorem VX.dT(x:VX V hp w V' aJ w'){n h:Nat}{e:Ty}{v:Value}(hl:(hp n).live=true)(k:dT V w n e h v):SX.dT V' w' n e h v:=by
 obtain⟨hb,hh,_⟩:=x.nm n hl
 rcases k with ⟨h1,h2,h3⟩|⟨h1,cap,ay,el,h2,h3,h4,h5⟩
 ·exact .inl ⟨fun h=>h1 (hh.1 h),h2,h3⟩
 ·exact .inr ⟨hh.2 h1,cap,ay,el,by rw[hb];exact h2,by rw[hb,x.J7 n hl h1];exact h3,h4,h5⟩
theorem C.ja(x:VX V hp w V' aJ w'):∀ {c:C} {v:Value},C.ok V hp w c v->C.ok V' aJ w' c v:=by
 intro c v h
 cases c with
 | val u=>exact h
 | fm=>exact h
 | fe=>exact h
 | rd fr e xs=>exact x.rd h
 | own n =>
   obtain⟨fr,e,xs,h1,h2⟩:=h
   have hl:(hp n).live=true:=by rw[h1];rfl
   exact⟨fr,e,xs,(x.nm n hl).2.2.trans h1,x.dT hl h2⟩
 | pre n k =>
   obtain⟨fr,e,xs,h1,h3,h2⟩:=h
   have hl:(hp n).live=true:=by rw[h1];rfl
   exact⟨fr,e,xs,(x.nm n hl).2.2.trans h1,h3,x.dT hl h2⟩
 | eK n e xs =>
   obtain⟨⟨fr,e',ys,h1⟩,h2⟩:=h
   have hl:(hp n).live=true:=by rw[h1];rfl
   obtain⟨hb,hh,he⟩:=x.nm n hl
   refine⟨⟨fr,e',ys,he.trans h1⟩,h2.mono (fun b fu=>?_) (fun b fu=>?_)⟩
   ·rcases fu with hz|⟨h3,h4⟩
    ·exact .inl (x.tu hz)
    ·exact .inr ⟨hh.2 h3,by rw[hb];exact h4⟩
   ·rcases fu with hz|⟨h3,h4⟩
    ·exact x.J8 b hz
    ·rw[h4];exact x.J7 n hl h3
 | box n off =>
   obtain⟨h1,h2,cs,h3⟩:=h
   have hl:(hp n).live=true:=by rw[h3];rfl
   obtain⟨hb,hh,he⟩:=x.nm n hl
   exact⟨by rw[hb];exact h1,hh.2 h2,cs,he.trans h3⟩
 | jI n len =>
   obtain⟨cap,h1,h2,cs,h3⟩:=h
   have hl:(hp n).live=true:=by rw[h3];rfl
   obtain⟨hb,hh,he⟩:=x.nm n hl
   exact⟨cap,by rw[hb];exact h1,hh.2 h2,cs,he.trans h3⟩
 | at_ fr t d off =>
   obtain⟨b,o,h1,h2,es,h3,h4,h5⟩:=h
   exact⟨b,o,h1,x.tu h2,es,h3,h_ (x.J8 b (Vl.eD h2)) h4,x.rd h5⟩
 | dR n i off =>
   obtain⟨h0,fr,e,xs,h1,h2,h3⟩:=h
   have hl:(hp n).live=true:=by rw[h1];rfl
   obtain⟨hb,hh,he⟩:=x.nm n hl
   exact⟨hh.2 h0,fr,e,xs,he.trans h1,h2,by rw[hb];exact h3⟩
 | fn f da =>
   obtain⟨h1,h2⟩:=h
   have SV:da.map (fun n=>Value.pointer (some ⟨V'.aI n,0,none⟩))=da.map (fun n=>Value.pointer (some ⟨V.aI n,0,none⟩)):=by
    refine List.map_congr_left fun n hn=>?_
    obtain⟨_,cs,h3⟩:=h2 n hn
    rw[(x.nm n (by rw[h3];rfl)).1]
   refine⟨by rw[SV];exact h1,fun n hn=>?_⟩
   obtain⟨h4,cs,h3⟩:=h2 n hn
   obtain⟨hb,hh,he⟩:=x.nm n (by rw[h3];rfl)
   exact⟨hh.2 h4,cs,he.trans h3⟩
 | bS fr f t d=>exact x.rd h
 | rg fr wh e b xs=>exact x.rd (t:=.gs wh e) h
 | any=>exact h
theorem kG(x:VX V hp w V' aJ w'){cs:List C}{vs:List Value}(h:br V hp w cs vs):br V' aJ w' cs vs :=
 ⟨h.1,fun j c v hc hv=>C.ja x (h.2 j c v hc hv)⟩
theorem Lx(x:VX V hp w V' aJ w'){y:Bool×List C}{v:Value}(h:kb V hp w y v):kb V' aJ w' y v:=by
 unfold kb at *
 split
 ·rename_i hy
  rw[if_pos hy] at h
  obtain⟨vs,h1,h2⟩:=h
  exact⟨vs,h1,kG x h2⟩
 ·rename_i hy
  rw[if_neg hy] at h
  exact kG x h
theorem S.ja(x:VX V hp w V' aJ w'){s:S}{v:Value}(h:S.ok V hp w s v):S.ok V' aJ w' s v:=by
 cases s with
 | c y=>exact C.ja x h
 | agg cs=>obtain⟨vs,h1,h2⟩:=h;exact⟨vs,h1,kG x h2⟩
 | vl xs=>obtain⟨vs,h1,h2,h3⟩:=h;exact⟨vs,h1,h2,fun j y v hy hv=>Lx x (h3 j y v hy hv)⟩
 | eP=>exact h
 | any=>exact h
 | arr e xs=>obtain⟨hf,vs,h1,h2,h3⟩:=h;exact⟨hf,vs,h1,h2,fun i hi=>by obtain⟨es,k1,k2,k3⟩:=h3 i hi;exact⟨es,k1,k2,k3.flat hf⟩⟩
theorem S.zN{V V':Vl}{hp aJ:Nat->az}{w w':World}{e:Ty}{xs:List e.den}{v:Value}(h:S.ok V hp w (.arr e xs) v):S.ok V' aJ w' (.arr e xs) v:=by
 obtain⟨hf,vs,h1,h2,h3⟩:=h
 exact⟨hf,vs,h1,h2,fun i hi=>by obtain⟨es,k1,k2,k3⟩:=h3 i hi;exact⟨es,k1,k2,k3.flat hf⟩⟩
theorem az.ja(x:VX V hp w V' aJ w'){n:Nat}(h:(hp n).ok V hp w n)(hb:∀ cs,hp n = .bx cs->V.has n)(hl:(hp n).live=true):(aJ n).ok V' aJ w' n:=by
 obtain⟨e1,e2,e3⟩:=x.nm n hl
 rw[e3]
 cases he:hp n with
 | dead=>trivial
 | bx cs =>
   rw[he] at h
   obtain⟨ay,el,h1,h2⟩:=h
   exact⟨ay,el,by rw[e1,x.J7 n hl (hb cs he)];exact h1,kG x h2⟩
 | row fr e xs =>
   rw[he] at h
   rcases h with ⟨h1,h2⟩|⟨h1,ay,el,h2,h3,h4⟩
   ·exact .inl ⟨fun h=>h1 (e2.1 h),h2⟩
   ·refine .inr ⟨e2.2 h1,ay,el,by rw[e1,x.J7 n hl h1];exact h2,h3,fun i hi=>?_⟩
    obtain⟨es,h5,h6,h7⟩:=h4 i hi
    exact⟨es,h5,h6,x.rd h7⟩
end
theorem C.ec{V:Vl}{hp:Nat->az}{w:World}:∀ {c:C} {v:Value},C.ok V hp w c v->v.oneCell'=true:=by
 intro c v h
 cases c with
 | val u=>obtain⟨rfl,h⟩:=h;cases v<;>first|rfl|exact h.elim
 | fm=>rw[show v=_ from h];rfl
 | fe=>rw[show v=_ from h];rfl
 | rd fr e xs=>exact aH.ec (t:=.sl e) h v (by simp)
 | own n =>
   obtain⟨fr,e,xs,h1,h2|h2⟩:=h
   ·rw[h2.2.1];rfl
   ·obtain⟨_,cap,ay,el,h3,_⟩:=h2;rw[h3];rfl
 | pre n k =>
   obtain⟨fr,e,xs,h1,_,h2|h2⟩:=h
   ·rw[h2.2.1];rfl
   ·obtain⟨_,cap,ay,el,h3,_⟩:=h2;rw[h3];rfl
 | eK n e xs=>exact aH.ec (t:=.sl e) h.2 v (by simp)
 | box n off=>rw[h.1];rfl
 | jI n len=>obtain⟨cap,h1,_⟩:=h;rw[h1.1];rfl
 | at_ fr t d off=>obtain⟨b,o,h1,_⟩:=h;rw[h1];rfl
 | dR n i off=>obtain⟨_,fr,e,xs,_,_,h1⟩:=h;rw[h1];rfl
 | fn f da=>rw[h.1];rfl
 | bS fr f t d=>exact aH.ec (t:=.bS f t) h v (by simp)
 | rg fr wh e b xs=>exact aH.ec (t:=.gs wh e) h v (by simp)
 | any=>exact h
section
variable {V : Vl} {hp : Nat → az} {w : World}
theorem cj{c:C}{cs:List C}{vs:List Value}(h:br V hp w (c::cs) vs):∃ v cg,vs=v::cg/\C.ok V hp w c v/\br V hp w cs cg:=by
 obtain⟨h1,h2⟩:=h
 cases vs with
 | nil=>simp at h1
 | cons v cg=>exact⟨v,cg,rfl,h2 0 c v rfl rfl,by simpa using h1,fun j c' v' hc hv=>h2 (j+1) c' v' (by simpa using hc) (by simpa using hv)⟩
theorem bX:br V hp w [] []:=⟨rfl,fun j c v h=>by simp at h⟩
theorem bc{c:C}{cs:List C}{v:Value}{vs:List Value}(h:C.ok V hp w c v)(k:br V hp w cs vs):br V hp w (c::cs) (v::vs):=by
 refine⟨by simp[k.1],fun j c' v' hc hv=>?_⟩
 cases j with
 | zero=>simp at hc hv;subst hc;subst hv;exact h
 | succ j=>exact k.2 j c' v' (by simpa using hc) (by simpa using hv)
theorem fi{cs ds:List C}{vs us:List Value}(h:br V hp w cs vs)(k:br V hp w ds us):br V hp w (cs++ds) (vs++us):=by
 induction cs generalizing vs with
 | nil=>obtain⟨h1,_⟩:=h;cases vs with|nil=>exact k|cons v vs=>simp at h1
 | cons c cs ih=>obtain⟨v,cg,rfl,h1,h2⟩:=cj h;exact bc h1 (ih h2)
theorem jB{cs:List C}{vs:List Value}(h:br V hp w cs vs)(n:Nat):br V hp w (cs.take n) (vs.take n) :=
 ⟨by simp[h.1],fun j c v hc hv=>by
   rw[List.getElem?_take] at hc hv
   split at hc
   ·rename_i hj;rw[if_pos hj] at hv;exact h.2 j c v hc hv
   ·cases hc⟩
theorem jA{cs:List C}{vs:List Value}(h:br V hp w cs vs)(n:Nat):br V hp w (cs.drop n) (vs.drop n) :=
 ⟨by simp[h.1],fun j c v hc hv=>by
   rw[List.getElem?_drop] at hc hv
   exact h.2 _ c v hc hv⟩
theorem ni(fr:Bool):∀(t:Ty) {d:t.den} {vs:List Value},aH (V.Z fr) w t vs d->br V hp w (expand fr t d) vs:=by
 intro t
 induction t with
 | int k=>intro d vs h;rw[h.1];exact bc ⟨rfl,h.2⟩ bX
 | bool=>intro d vs h;rw[show vs=_ from h];exact bc ⟨rfl,trivial⟩ bX
 | str=>intro d vs h;rw[h.1];exact bc ⟨rfl,h.2⟩ bX
 | sl e ih =>
   intro d vs h
   have h':=h
   obtain⟨a,cap,h1,_⟩:=h
   subst h1
   exact bc h' bX
 | st t ih=>exact fun h=>ih h
 | pr a b eM eN =>
   intro d vs h
   obtain⟨c1,c2,rfl,h2,h3⟩:=h
   show br V hp w (dg _ _) _
   rw[bN]
   exact fi (eM h2) (eN h3)
 | ptr t ih =>
   intro d vs h
   obtain⟨b,o,h1,h2,es,h3,h4,h5⟩:=h
   subst h1
   exact bc ⟨b,o,rfl,h2,es,h3,h4,h5⟩ bX
 | bS f t ih =>
   intro d vs h
   have h':=h
   obtain⟨da,h1,_⟩:=h
   subst h1
   exact bc h' bX
 | gs wh e ih =>
   intro d vs h
   have h':=h
   obtain⟨⟨a,cap,h1,_⟩,_⟩:=h
   subst h1
   exact bc (c:=.rg fr wh e d.1 d.2) h' bX
theorem H8(e:Ty)(xs:List e.den):(zu e xs).length=xs.length:=by simp[zu]
theorem vF{Z:Nat->Prop}{wh:Bool}{e:Ty}{cs:List Value}{b:Nat}{xs:List e.den}(h:aH Z w (.gs wh e) cs (b,xs)):aH Z w (.sl e) cs xs:=h.1
theorem NM{Z:Nat->Prop}{wh ql:Bool}{e:Ty}{cs:List Value}{d:Nat×List e.den}(hw:wh=true->ql=true)(h:aH Z w (.gs ql e) cs d):aH Z w (.gs wh e) cs d:=⟨h.1,h.2.1,fun k=>h.2.2 (hw k)⟩
theorem aH.Tg{Z:Nat->Prop}{e:Ty}{cs:List Value}{xs:List e.den}(h:aH Z w (.sl e) cs xs):aH Z w (.sl e.de) cs (zu e xs):=aH.un (.sl e) h
theorem m4{Z:Nat->Prop}{e' e:Ty}{cs:List Value}{xs:List e'.den}{ys:List e.den}(h:aH Z w (.sl e') cs xs)(k:jP e' e xs=some ys):aH Z w (.sl e) cs ys:=by
 unfold jP at k
 split at k
 ·rename_i hk;subst hk;injection k with k;subst k;exact h
 ·split at k
  ·rename_i hk;subst hk;injection k with k;subst k;exact h.Tg
  ·cases k
theorem l8{e' e:Ty}{xs:List e'.den}{ys:List e.den}(k:jP e' e xs=some ys):ys.length=xs.length:=by
 unfold jP at k
 split at k
 ·rename_i hk;subst hk;injection k with k;subst k;rfl
 ·split at k
  ·rename_i hk;subst hk;injection k with k;subst k;exact H8 e' xs
  ·cases k
theorem rY{e' e:Ty}{xs:List e'.den}{ys:List e.den}(k:jP e' e xs=some ys):e'.size=e.size/\e'.flat=e.flat:=by
 unfold jP at k
 split at k
 ·rename_i hk;rw[hk];exact⟨rfl,rfl⟩
 ·split at k
  ·rename_i hk;rw[<-hk];exact⟨(cK e').symm,(tj e').symm⟩
  ·cases k
theorem Ka{Z:Nat->Prop}{e' e:Ty}{xs:List e'.den}{ys:List e.den}(k:jP e' e xs=some ys){i:Nat}(hi:i<ys.length){es:List Value}(h:aH Z w e' es (xs[i]'(by rw[<-l8 k];exact hi))):aH Z w e es ys[i]:=by
 unfold jP at k
 split at k
 ·rename_i hk;subst hk;injection k with k;subst k;exact h
 ·split at k
  ·rename_i hk;subst hk;injection k with k;subst k
   have:(zu e' xs)[i]'hi=iN e' (xs[i]'(by rw[<-H8 e' xs];exact hi)):=by simp[zu]
   show aH Z w e'.de es ((zu e' xs)[i]'hi)
   rw[this]
   exact aH.un e' h
  ·cases k
def gX(_:Nat):Prop:=True
theorem aH.any{Z:Nat->Prop}{t:Ty}{cs:List Value}{d:t.den}(h:aH Z w t cs d):aH gX w t cs d:=h.mono (fun _ _=>trivial) (fun _ _=>rfl)
end
structure UC (P:Program) (t:TypeId) (ti:TI):Prop where
 size:(sizeOf t).run P=fun w=>.ok ti.size w
 len:ti.zero.length=ti.size
end Go.SX
/- Contracts: what a function that writes to memory of its own alone takes and hands back. No condition. -/
namespace Go.SX
open Go.RowKit
set_option linter.unusedVariables false
def qS(t:Ty)(cs:List Value)(v:Value):Prop:=if nR t then v = .agg cs.toArray else cs=[v]
def xT(Z:Nat->Prop)(w:World)(t:Ty)(v:Value)(d:t.den):Prop:=∃ cs,qS t cs v/\aH Z w t cs d
def oR(Z:Nat->Prop)(w:World):(ts:List Ty)->List Value->bU ts->Prop
 | [],vs,_=>vs=[]
 | [t],vs,d=>∃ v,vs=[v]/\xT Z w t v d
 | t::u::r,vs,d=>∃ v cg,vs=v::cg/\xT Z w t v d.1/\oR Z w (u::r) cg d.2
def vt(Z:Nat->Prop)(w:World)(e:Ty)(ay:Array Value)(xs:List e.den):Prop :=
 ∀ i (h:i<xs.length),∃ es,es.length=e.size/\(∀ j u,es[j]? = some u->ay[i*e.size+j]? = some u)/\aH Z w e es xs[i]
def l7(Z:Nat->Prop)(w:World):(t:Ty)->List Value->t.den->List (Option Nat)->Prop
 | .sl e,cs,xs,bs=>(cs=[.slice none 0 0]/\xs=[]/\bs=[none]) ∨
    ∃ b cap ay el,cs=[.slice (some ⟨b,0,none⟩) xs.length cap]/\bs=[some b]/\w.heap[b]? = some (.cells ay el (0,0))/\ay.size=cap*e.size/\xs.length<=cap ∧
     xs.length<=cQ/\vt Z w e ay xs
 | .st t,cs,d,bs=>l7 Z w t cs d bs
 | .pr a b,cs,d,bs=>∃ c1 c2 b1 b2,cs=c1++c2/\bs=b1++b2/\l7 Z w a c1 d.1 b1/\l7 Z w b c2 d.2 b2
 | .int k,cs,d,bs=>aH Z w (.int k) cs d/\bs=[]
 | .bool,cs,d,bs=>aH Z w .bool cs d/\bs=[]
 | .ptr _,_,_,_=>False
 | .bS _ _,_,_,_=>False
 | .gs _ _,_,_,_=>False
 | .str,cs,d,bs=>aH Z w .str cs d/\bs=[]
def xS(Z:Nat->Prop)(w:World)(t:Ty)(v:Value)(d:t.den)(bs:List (Option Nat)):Prop:=∃ cs,qS t cs v/\l7 Z w t cs d bs
def gu(Z:Nat->Prop)(w:World):(ts:List Ty)->List Value->bU ts->List (Option Nat)->Prop
 | [],vs,_,bs=>vs=[]/\bs=[]
 | [t],vs,d,bs=>∃ v,vs=[v]/\xS Z w t v d bs
 | t::u::r,vs,d,bs=>∃ v cg b1 b2,vs=v::cg/\bs=b1++b2/\xS Z w t v d.1 b1/\gu Z w (u::r) cg d.2 b2
def mV(vs:List Value):Value:=match vs with|[v]=>v|vs=>.tuple vs.toArray
def tP:LM:=⟨fun _=>False,fun _ _=>False,fun _=>True,fun _ h=>h.elim,fun _=>False⟩
structure vr (w w':World) (ts:List Ty) (v:Value) (d:bU ts):Prop where
 ex:∃(Z1:Nat->Prop) (bs:List (Option Nat)) (vs:List Value),v=mV vs/\gu Z1 w' ts vs d bs/\(bs.filterMap id).Nodup ∧
  (∀ b,some b∈bs->w.heap.size<=b/\b<w'.heap.size/\¬Z1 b)/\(∀ b,Z1 b->w.heap.size<=b/\b<w'.heap.size)
 kept:Kept w.heap.size tP w w'
def vq(P:Program)(f:FuncId)(c:PC):Prop :=
 ∀(w:World) (args:List Value) (d:bU c.ts),oR gX w c.ts args d->c.pre d →
  Calls P f args.toArray w fun e w'=>∃ v,e = .returned v/\vr w w' c.rs v (c.F d)
section
variable {V : Vl} {hp : Nat → az} {w : World}
theorem vd{n h:Nat}{fr:Bool}{e:Ty}{xs:List e.den}{v:Value}(he:(az.row fr e xs).ok V hp w n)(hr:dT V w n e h v)(hh:h<=xs.length) :
 aH (fun b=>V.Z fr b\/(V.has n/\b=V.aI n)) w (.sl e) [v] (xs.take h):=by
 have hlen:(xs.take h).length=h:=by rw[List.length_take];omega
 rcases hr with ⟨h1,rfl,rfl⟩|⟨h1,cap,ay,el,rfl,h3,h4,h5⟩
 ·exact⟨none,0,by simp,by simp,by simp,fun i hi=>by simp at hi⟩
 ·rcases he with ⟨k1,_⟩|⟨_,cS,kW,k2,k3,k4⟩
  ·exact absurd h1 k1
  ·rw[k2] at h3
   injection h3 with h3
   injection h3 with e1 e2 e3
   subst e1
   refine⟨_,cap,by rw[hlen],by rw[hlen];exact h5,by rw[hlen];omega,fun i hi=>?_⟩
   rw[hlen] at hi
   obtain⟨es,k5,k6,k7⟩:=k4 i (by omega)
   refine⟨_,rfl,rfl,.inr ⟨h1,rfl⟩,es,k5,fun j hj=>?_,?_⟩
   ·simp only[World.cell?,k2,Nat.zero_add]
    exact k6 j _ (List.getElem?_eq_getElem hj)
   ·rw[List.getElem_take]
    exact k7.mono (fun b hb=>.inl hb) (fun _ _=>rfl)
def iz(V:Vl)(hp lk:Nat->az)(w:World):Prop:=∀ n,(lk n).live=true->lk n=hp n/\(lk n).ok V hp w n
theorem bC{α:Type}{f:C->Option α}{cs r:List C}{x:α}(h:jy f cs=some (x,r)):∃ c,cs=c::r/\f c=some x:=by
 cases cs with
 | nil=>cases h
 | cons c cs =>
   unfold jy at h
   cases hf:f c with
   | none=>simp[hf] at h
   | some y=>simp[hf] at h;exact⟨c,by rw[h.2],by rw[<-h.1];exact hf⟩
theorem sZ{k:IntKind}{c:C}{n:Int}{v:Value}(h:CG k c=some n)(ho:C.ok V hp w c v):v = .int k n/\k.min<=n/\n<=k.max:=by
 unfold CG at h
 split at h
 ·split at h
  ·rename_i hk;injection h with h;subst h;subst hk;exact⟨ho.1,ho.2⟩
  ·cases h
 ·cases h
theorem u3{c:C}{b:Bool}{v:Value}(h:rdBool c=some b)(ho:C.ok V hp w c v):v = .bool b:=by
 unfold rdBool at h
 split at h<;>first|(injection h with h;subst h;first|exact ho.1|exact ho)|cases h
theorem je{c:C}{s:ByteArray}{v:Value}(h:rdStr c=some s)(ho:C.ok V hp w c v):v = .string s/\s.size<=maxLen:=by
 unfold rdStr at h
 split at h
 ·injection h with h;subst h;exact⟨ho.1,ho.2⟩
 ·cases h
theorem HU{lk:Nat->az}(hl:iz V hp lk w){e:Ty}{c:C}{xs:List e.den}{v:Value}(h:my lk e c=some xs)(ho:C.ok V hp w c v):aH gX w (.sl e) [v] xs:=by
 unfold my at h
 split at h
 ·exact (m4 ho h).any
 ·split at h
  ·rename_i hk;subst hk;injection h with h;subst h;exact ho.2.any
  ·cases h
 ·rename_i n
  split at h
  ·rename_i e' bI hn
   obtain⟨h1,h2⟩:=hl n (by rw[hn];rfl)
   obtain⟨fr,e2,lO,h3,h4⟩:=ho
   rw[<-h1,hn] at h3
   injection h3 with e1 e2 e3
   subst e1;subst e2;cases e3
   rw[hn] at h2
   have:=vd h2 h4 (Nat.le_refl _)
   rw[List.take_length] at this
   exact (m4 this h).any
  ·cases h
 ·rename_i n m
  split at h
  ·rename_i e' bI hn
   obtain⟨h1,h2⟩:=hl n (by rw[hn];rfl)
   obtain⟨fr,e2,lO,h3,h5,h4⟩:=ho
   rw[<-h1,hn] at h3
   injection h3 with e1 e2 e3
   subst e1;subst e2;cases e3
   rw[hn] at h2
   exact (m4 (vd h2 h4 h5) h).any
  ·cases h
 ·exact (m4 (vF ho) h).any
 ·injection h with h;subst h
  rw[ho.1]
  exact aH.zero (.sl e) rfl
 ·cases h
theorem EY{fr wh:Bool}{e:Ty}{c:C}{d:Nat×List e.den}{v:Value}(h:LQ wh e c=some d)(ho:C.ok V hp w c v)(hf:fr=true->c.ed=true):aH (V.Z fr) w (.gs wh e) [v] d:=by
 unfold LQ at h
 split at h
 ·rename_i aW ql e' b xs
  split at h
  ·rename_i hk;subst hk
   split at h
   ·cases h
   ·rename_i U2
    injection h with h;subst h
    have bF:aH (V.Z aW) w (.gs ql e') [v] (b,xs):=ho
    refine (NM (fun hw=>by cases ql<;>simp_all) bF).mono (fun b' hb=>?_) (fun _ _=>rfl)
    cases fr with
    | false=>exact Vl.eD hb
    | true=>rw[show aW=true from hf rfl] at hb;exact hb
  ·cases h
 ·injection h with h;subst h
  rw[ho.1]
  exact aH.zero (.gs wh e) rfl
 ·cases h
theorem Q8{wh:Bool}{e:Ty}{c:C}{d:Nat×List e.den}{v:Value}(h:LQ wh e c=some d)(ho:C.ok V hp w c v):aH gX w (.gs wh e) [v] d:=(EY (fr:=false) h ho (fun h=>by cases h)).any
theorem tr{α:Type}{o:Option (α×List C)}{d:α}(h:whole o=some d):o=some (d,[]):=by
 unfold whole at h
 split at h
 ·injection h with h;subst h;rfl
 ·cases h
theorem Ni{lk:Nat->az}(hl:iz V hp lk w):∀(t:Ty) {cs:List C} {d:t.den} {rest:List C} {vs:List Value},fp lk t cs=some (d,rest)->br V hp w cs vs →
 ∃ us ws,vs=us++ws/\aH gX w t us d/\br V hp w rest ws:=by
 intro t
 induction t with
 | int k =>
   intro cs d rest vs h ho
   obtain⟨c,rfl,hc⟩:=bC h
   obtain⟨v,cg,rfl,h1,h2⟩:=cj ho
   obtain⟨h3,h4⟩:=sZ hc h1
   exact⟨[v],cg,rfl,⟨by rw[h3],h4⟩,h2⟩
 | bool =>
   intro cs d rest vs h ho
   obtain⟨c,rfl,hc⟩:=bC h
   obtain⟨v,cg,rfl,h1,h2⟩:=cj ho
   exact⟨[v],cg,rfl,by rw[u3 hc h1];exact rfl,h2⟩
 | str =>
   intro cs d rest vs h ho
   obtain⟨c,rfl,hc⟩:=bC h
   obtain⟨v,cg,rfl,h1,h2⟩:=cj ho
   obtain⟨h3,h4⟩:=je hc h1
   exact⟨[v],cg,rfl,⟨by rw[h3],h4⟩,h2⟩
 | sl e ih =>
   intro cs d rest vs h ho
   obtain⟨c,rfl,hc⟩:=bC h
   obtain⟨v,cg,rfl,h1,h2⟩:=cj ho
   exact⟨[v],cg,rfl,HU hl hc h1,h2⟩
 | st t ih=>exact fun h ho=>ih h ho
 | pr a b eM eN =>
   intro cs d rest vs h ho
   unfold fp at h
   cases ha:fp lk a cs with
   | none=>simp[ha] at h
   | some x =>
     obtain⟨x,r⟩:=x
     simp only[ha] at h
     cases hb:fp lk b r with
     | none=>simp[hb] at h
     | some y =>
       obtain⟨y,r'⟩:=y
       simp only[hb,Option.some.injEq,Prod.mk.injEq] at h
       obtain⟨rfl,rfl⟩:=h
       obtain⟨us,ws,rfl,h1,h2⟩:=eM ha ho
       obtain⟨Mc,Rn,rfl,h3,h4⟩:=eN hb h2
       exact⟨us++Mc,Rn,by rw[List.append_assoc],⟨us,Mc,rfl,h1,h3⟩,h4⟩
 | ptr t ih =>
   intro cs d rest vs h ho
   obtain⟨c,rfl,hc⟩:=bC h
   obtain⟨v,cg,rfl,h1,h2⟩:=cj ho
   refine⟨[v],cg,rfl,?_,h2⟩
   unfold Jt at hc
   split at hc
   ·split at hc
    ·rename_i hk;subst hk;injection hc with hc;subst hc
     obtain⟨b,o,e1,e2,es,e3,e4,e5⟩:=h1
     exact⟨b,o,by rw[e1,Nat.add_zero],trivial,es,e3,e4,e5.any⟩
    ·cases hc
   ·rename_i n
    split at hc
    ·rename_i cr hn
     obtain⟨e1,e2⟩:=hl n (by rw[hn];rfl)
     rw[hn] at e2
     obtain⟨ay,el,e3,e4⟩:=e2
     obtain⟨us,ws,e5,e6,e7⟩:=ih (tr hc) e4
     have:ws=[]:=by
      have:=e7.1
      cases ws with
      | nil=>rfl
      | cons _ _=>cases this
     subst this
     rw[List.append_nil] at e5
     refine⟨V.aI n,0,by rw[h1.1],trivial,us,e6.length,fun j hj=>?_,e6⟩
     simp only[World.cell?,e3,Nat.zero_add]
     have nX:j<ay.size:=by rw[<-e5] at hj;simpa using hj
     have hu:us[j]=ay[j]:=by simp[<-e5]
     rw[hu]
     exact Array.getElem?_eq_getElem nX
    ·cases hc
   ·cases hc
 | bS f t ih =>
   intro cs d rest vs h ho
   obtain⟨c,rfl,hc⟩:=bC h
   obtain⟨v,cg,rfl,h1,h2⟩:=cj ho
   refine⟨[v],cg,rfl,?_,h2⟩
   unfold Js at hc
   split at hc
   ·split at hc
    ·rename_i hf
     split at hc
     ·rename_i hk;subst hk;subst hf;injection hc with hc;subst hc
      exact aH.any (t:=.bS _ _) h1
     ·cases hc
    ·cases hc
   ·rename_i f' ns
    split at hc
    ·rename_i hf
     subst hf
     obtain⟨k1,k2⟩:=h1
     have fv:br V hp w (lmap (fun n=>C.box n 0) ns) (ns.map fun n=>Value.pointer (some ⟨V.aI n,0,none⟩)):=by
      rw[bP]
      refine⟨by simp,fun j c u hc hu=>?_⟩
      rw[List.getElem?_map] at hc hu
      cases hn:ns[j]? with
      | none=>rw[hn] at hc;cases hc
      | some n =>
        rw[hn] at hc hu
        simp only[Option.map_some,Option.some.injEq] at hc hu
        subst hc;subst hu
        obtain⟨k3,k4⟩:=k2 n (List.mem_of_getElem? hn)
        exact⟨rfl,k3,k4⟩
     obtain⟨us,ws,e5,e6,e7⟩:=ih (tr hc) fv
     have:ws=[]:=by
      have:=e7.1
      cases ws with
      | nil=>rfl
      | cons _ _=>cases this
     subst this
     rw[List.append_nil] at e5
     exact⟨_,by rw[k1],by rw[e5];exact e6⟩
    ·cases hc
   ·cases hc
 | gs wh e ih =>
   intro cs d rest vs h ho
   obtain⟨c,rfl,hc⟩:=bC h
   obtain⟨v,cg,rfl,h1,h2⟩:=cj ho
   exact⟨[v],cg,rfl,Q8 hc h1,h2⟩
theorem zk{lk:Nat->az}(hl:iz V hp lk w){t:Ty}{cs:List C}{d:t.den}{vs:List Value}(h:readAll lk t cs=some d)(ho:br V hp w cs vs):aH gX w t vs d:=by
 unfold readAll at h
 split at h
 ·rename_i d' hr
  injection h with h;subst h
  obtain⟨us,ws,rfl,h1,h2⟩:=Ni hl t hr ho
  have:ws=[]:=by have:=h2.1;simp at this;exact List.length_eq_zero_iff.1 this.symm
  rw[this,List.append_nil]
  exact h1
 ·cases h
theorem E0{lk:Nat->az}(hl:iz V hp lk w){t:Ty}{s:S}{d:t.den}{v:Value}(h:qg lk t s=some d)(ho:S.ok V hp w s v):xT gX w t v d:=by
 unfold qg at h
 split at h
 ·rename_i x
  split at h
  ·cases h
  ·rename_i ht
   exact⟨[v],by simp[qS,ht],zk hl h (bc ho bX)⟩
 ·rename_i cs
  split at h
  ·rename_i ht
   obtain⟨vs,rfl,h1⟩:=ho
   exact⟨vs.toList,by simp[qS,ht],zk hl h h1⟩
  ·cases h
 ·cases h
theorem wU{lk:Nat->az}(hl:iz V hp lk w):∀(ts:List Ty) {ss:List S} {d:bU ts} {vs:List Value},kt lk ts ss=some d->ss.length=vs.length →
 (∀(i:Nat) s v,ss[i]? = some s->vs[i]? = some v->S.ok V hp w s v)->oR gX w ts vs d:=by
 intro ts
 induction ts with
 | nil =>
   intro ss d vs h hlen ho
   cases ss with
   | nil=>cases vs with|nil=>exact rfl|cons v vs=>simp at hlen
   | cons s ss=>cases h
 | cons t r ih =>
   intro ss d vs h hlen ho
   cases ss with
   | nil=>cases r<;>cases h
   | cons s ss =>
     cases vs with
     | nil=>simp at hlen
     | cons v vs =>
       have hs:=ho 0 s v rfl rfl
       cases r with
       | nil =>
         cases ss with
         | nil =>
           cases vs with
           | nil=>exact⟨v,rfl,E0 hl h hs⟩
           | cons v' vs=>simp at hlen
         | cons s' ss=>cases h
       | cons u r =>
         unfold kt at h
         cases h1:qg lk t s with
         | none=>simp[h1] at h
         | some x =>
           simp only[h1] at h
           cases h2:kt lk (u::r) ss with
           | none=>simp[h2] at h
           | some y =>
             simp only[h2,Option.some.injEq] at h
             subst h
             exact⟨v,vs,rfl,E0 hl h1 hs,ih h2 (by simpa using hlen) (fun i s' v' hi hv=>ho (i+1) s' v' (by simpa using hi) (by simpa using hv))⟩
end
end Go.SX
/- What the executor is told of the program's types, held against the program; how the operations on memory run. No condition. -/
namespace Go.SX
open Go.RowKit
set_option linter.unusedVariables false
def jm:TypeDesc->Bool
 | .struct _ | .array _ _=>true
 | _=>false
def zb:Value->Value->Bool
 | .int k n,.int k' m=>k == k'&&n == 0&&m == 0
 | .bool a,.bool b=>a == false&&b == false
 | .string s,.string r=>s.size == 0&&r.size == 0
 | .slice none 0 0,.slice none 0 0=>true
 | .pointer none,.pointer none=>true
 | _,_=>false
theorem tH{s:ByteArray}(h:s.size=0):s=ByteArray.empty:=by
 cases s with
 | mk d =>
   have h':d.size=0:=h
   have:d = #[]:=Array.eq_empty_of_size_eq_zero h'
   subst this
   rfl
theorem RT{u v:Value}(h:zb u v=true):u=v:=by
 unfold zb at h
 split at h
 ·simp only[Bool.and_eq_true,beq_iff_eq] at h;rw[h.1.1,h.1.2,h.2]
 ·simp only[Bool.and_eq_true,beq_iff_eq] at h;rw[h.1,h.2]
 ·rename_i s r
  simp only[Bool.and_eq_true,beq_iff_eq] at h
  rw[tH h.1,tH h.2]
 ·rfl
 ·rfl
 ·cases h
theorem oQ(k:IntKind):k.min<=0/\0<=k.max:=by cases k<;>decide
theorem Px{u v:Value}(h:zb u v=true)(V:Vl)(hp:Nat->az)(w:World):C.ok V hp w (cell v) v:=by
 unfold zb at h
 split at h
 ·simp only[Bool.and_eq_true,beq_iff_eq] at h
  rw[h.2]
  unfold cell
  simp only
  rw[if_pos (oQ _)]
  exact⟨rfl,oQ _⟩
 ·simp only[Bool.and_eq_true,beq_iff_eq] at h
  rw[h.2]
  exact rfl
 ·rename_i s r
  simp only[Bool.and_eq_true,beq_iff_eq] at h
  have hs:r.size<=maxLen:=by rw[h.2];exact Nat.zero_le _
  unfold cell
  simp only
  rw[if_pos hs]
  exact⟨rfl,hs⟩
 ·exact⟨rfl,rfl,rfl,rfl⟩
 ·exact⟨rfl,trivial⟩
 ·cases h
def FP:List Value->List Value->Bool
 | [],[]=>true
 | u::us,v::vs=>zb u v&&FP us vs
 | _,_=>false
theorem FQ:∀ {us vs:List Value},FP us vs=true->us=vs
 | [],[],_=>rfl
 | u::us,v::vs,h=>by
   have h':(zb u v&&FP us vs)=true:=h
   simp only[Bool.and_eq_true] at h'
   rw[RT h'.1,FQ h'.2]
 | [],_::_,h=>by cases h
 | _::_,[],h=>by cases h
theorem BI(V:Vl)(hp:Nat->az)(w:World):∀ {us vs:List Value},FP us vs=true->br V hp w (lmap cell vs) vs
 | [],[],_=>bX
 | u::us,v::vs,h=>by
   have h':(zb u v&&FP us vs)=true:=h
   simp only[Bool.and_eq_true] at h'
   exact bc (Px h'.1 V hp w) (BI V hp w h'.2)
 | [],_::_,h=>by cases h
 | _::_,[],h=>by cases h
def yO(P:Program)(t:TypeId)(size bytes:Nat)(zero:List Value):Bool :=
 match P.info? t with
 | some i=>i.size == size&&i.bytes == bytes&&(match i.zero with|some z=>FP z.cells.toList zero|none=>false)
 | none=>false
def mn(P:Program):List Field->List (Nat×Nat×Bool)->Bool
 | [],[]=>true
 | f::fs,x::xs =>
   f.offset == x.1&&x.2.1 != 0&&(match P.info? f.type with|some i=>i.size == x.2.1|none=>false) &&
    (match P.underlying f.type with|some d=>jm d == x.2.2|none=>false)&&mn P fs xs
 | _,_=>false
def gn(P:Program)(t:TypeId):TK->Bool
 | .int k=>match P.underlying t with|some (.int k')=>k' == k|_=>false
 | .bool=>match P.underlying t with|some .bool=>true|_=>false
 | .str=>match P.underlying t with|some .string=>true|_=>false
 | .sl e es eb cF=>(match P.underlying t with|some (.slice e')=>e' == e|_=>false)&&es == cF.size&&yO P e es eb cF.hY
 | .st fs=>match P.underlying t with|some (.struct fields)=>mn P fields.toList fs|_=>false
 | .arr len te es n cF=>(match P.underlying t with|some (.array S8 Uu)=>S8 == len&&Uu == te|_=>false)&&(match P.info? te with|some i=>i.size == es|none=>false) &&
    cF.flat&&cF.plain&&n*cF.size == len*es&&es%cF.size == 0&&(n != 0&&Nat.ble n 16777216)
 | .sc=>match P.underlying t with|some d=>!jm d|_=>false
 | .Eo e=>(match P.underlying t with|some (.slice e')=>e' == e|_=>false)&&yO P e 1 8 [.pointer none]
def yu (P : Program) : Nat → List Field → List Bool → Bool
  | _, [], [] => true
  | o, f :: fs, b :: bs =>
    f.name != "_" && f.offset == o && (match P.underlying f.type with | some (.int _) => !b | some .bool => b | _ => false) && yu P (o + 1) fs bs
  | _, _, _ => false
def PT(P:Program)(t:TypeId)(ks:List Bool):Bool :=
 match P.underlying t with
 | some (.struct fs)=>!P.stoodInHeld t&&!P.eqGuardType P.depth t&&yu P 0 fs.toList ks
 | _=>false
def fW:Nat->Ty->List Value
 | 0,_=>[]
 | n+1,e=>e.hY++fW n e
def tS(P:Program)(t:TypeId)(ti:TI):Bool:=(match ti.k with | .arr _ _ _ n cF=>FP ti.zero (fW n cF)|_=>true)&&(yO P t ti.size ti.bytes ti.zero&&ti.zero.length == ti.size&&gn P t ti.k&&(match ti.eq with|some ks=>PT P t ks|none=>true))
def CK:List (Nat×TI)->bT
 | [],_=>none
 | (k,v)::r,t=>if k=t then some v else CK r t
def Nm(P:Program):List (Nat×TI)->Bool
 | []=>true
 | p::r=>tS P p.1 p.2&&Nm P r
def bJ(P:Program)(T:bT):Prop:=∀ t ti,T t=some ti->tS P t ti=true
theorem E_{P:Program}:∀ {l:List (Nat×TI)},Nm P l=true->bJ P (CK l)
 | [],_=>fun _ _ h=>by cases h
 | (k,v)::r,h=>by
   have h':(tS P k v&&Nm P r)=true:=h
   simp only[Bool.and_eq_true] at h'
   intro t ti ht
   unfold CK at ht
   split at ht
   ·rename_i hk;injection ht with ht;subst hk;subst ht;exact h'.1
   ·exact E_ h'.2 t ti ht
section
variable {P : Program}
theorem xw{t:TypeId}{size bytes:Nat}{zero:List Value}(h:yO P t size bytes zero=true) :
 ∃ i z,P.info? t=some i/\i.size=size/\i.bytes=bytes/\i.zero=some z/\z.cells=zero.toArray/\∀ V hp w,br V hp w (lmap cell zero) zero:=by
 unfold yO at h
 split at h
 ·rename_i i hi
  simp only[Bool.and_eq_true,beq_iff_eq] at h
  obtain⟨⟨h1,h2⟩,h3⟩:=h
  split at h3
  ·rename_i z hz
   exact⟨i,z,hi,h1,h2,hz,by rw[<-FQ h3],fun V hp w=>BI V hp w h3⟩
  ·cases h3
 ·cases h
theorem run_sizeOf{t:TypeId}{i:TypeInfo}(h:P.info? t=some i)(w:World):(sizeOf t).run P w = .ok i.size w:=by
 simp[sizeOf,typeInfo,h]
theorem ik{t:TypeId}{i:TypeInfo}{z:Value}(h:P.info? t=some i)(hz:i.zero=some z)(w:World):(zeroValue t).run P w = .ok z w:=by
 simp[zeroValue,typeInfo,h,hz]
theorem np{t:TypeId}{d:TypeDesc}(h:P.underlying t=some d)(w:World):(isAgg t).run P w = .ok (jm d) w:=by
 cases d<;>simp[isAgg,run_underlying h,jm]
def TI.agg(ti:TI):Bool:=match ti.k with | .st _=>true | .arr ..=>true|_=>false
theorem d_{t:TypeId}{ti:TI}(h:tS P t ti=true) :
 (∃ i z,P.info? t=some i/\i.size=ti.size/\i.bytes=ti.bytes/\i.zero=some z/\z.cells=ti.zero.toArray/\∀ V hp w,br V hp w (lmap cell ti.zero) ti.zero)/\ti.zero.length=ti.size/\gn P t ti.k=true:=by
 unfold tS at h
 simp only[Bool.and_eq_true,beq_iff_eq] at h
 exact⟨xw h.2.1.1.1,h.2.1.1.2,h.2.1.2⟩
theorem Fa{t:TypeId}{ti:TI}(h:tS P t ti=true){len te es n:Nat}{cF:Ty}(hk:ti.k = .arr len te es n cF) :
 ti.zero=fW n cF/\P.underlying t=some (.array len te)/\(∃ i,P.info? te=some i/\i.size=es)/\cF.flat=true/\cF.plain=true/\n*cF.size=len*es/\es%cF.size=0/\n≠0/\n<=16777216:=by
 have DA:=(d_ h).2.2
 unfold tS at h
 simp only[Bool.and_eq_true,hk] at h
 rw[hk] at DA
 unfold gn at DA
 simp only[Bool.and_eq_true,beq_iff_eq,bne_iff_ne,ne_eq,Nat.ble_eq] at DA
 obtain⟨⟨⟨⟨⟨⟨a1,a2⟩,a3⟩,a4⟩,a5⟩,a6⟩,a7⟩:=DA
 refine⟨FQ h.1,?_,?_,a3,a4,a5,a6,a7⟩
 ·split at a1
  ·rename_i l t' he
   simp only[Bool.and_eq_true,beq_iff_eq] at a1
   rw[he,a1.1,a1.2]
  ·cases a1
 ·split at a2
  ·rename_i i he;exact⟨i,he,by simpa using a2⟩
  ·cases a2
theorem RR{t:TypeId}{ti:TI}(h:tS P t ti=true){ks:List Bool}(hk:ti.eq=some ks):PT P t ks=true:=by
 unfold tS at h
 simp only[Bool.and_eq_true,hk] at h
 exact h.2.2
theorem L5{t:TypeId}{ti:TI}(h:tS P t ti=true):∃ d,P.underlying t=some d/\jm d=ti.agg:=by
 have hk:=(d_ h).2.2
 unfold gn at hk
 unfold TI.agg
 cases wG:ti.k with
 | int k=>rw[wG] at hk;simp only at hk;split at hk<;>first|(rename_i d _;exact⟨_,‹_›,rfl⟩)|cases hk
 | bool=>rw[wG] at hk;simp only at hk;split at hk<;>first|exact⟨_,‹_›,rfl⟩|cases hk
 | str=>rw[wG] at hk;simp only at hk;split at hk<;>first|exact⟨_,‹_›,rfl⟩|cases hk
 | sl e es eb cF =>
   rw[wG] at hk;simp only[Bool.and_eq_true] at hk
   obtain⟨⟨h1,_⟩,_⟩:=hk
   split at h1<;>first|exact⟨_,‹_›,rfl⟩|cases h1
 | st fs=>rw[wG] at hk;simp only at hk;split at hk<;>first|exact⟨_,‹_›,rfl⟩|cases hk
 | arr len te es n cF =>
   rw[wG] at hk;simp only[Bool.and_eq_true] at hk
   obtain⟨⟨⟨⟨⟨⟨h1,_⟩,_⟩,_⟩,_⟩,_⟩,_⟩:=hk
   split at h1<;>first|exact⟨_,‹_›,rfl⟩|cases h1
 | sc =>
   rw[wG] at hk;simp only at hk
   split at hk
   ·rename_i d hd;exact⟨d,hd,by simpa using hk⟩
   ·cases hk
 | Eo e =>
   rw[wG] at hk;simp only[Bool.and_eq_true] at hk
   obtain⟨h1,_⟩:=hk
   split at h1<;>first|exact⟨_,‹_›,rfl⟩|cases h1
theorem sB{fs:List Field}{xs:List (Nat×Nat×Bool)}(h:mn P fs xs=true):∀ {i:Nat} {x:Nat×Nat×Bool},xs[i]? = some x →
 ∃ f j d,fs[i]? = some f/\f.offset=x.1/\x.2.1≠0/\P.info? f.type=some j/\j.size=x.2.1/\P.underlying f.type=some d/\jm d=x.2.2:=by
 induction fs generalizing xs with
 | nil=>intro i x hx;cases xs with|nil=>simp at hx|cons _ _=>cases h
 | cons f fs ih =>
   intro i x hx
   cases xs with
   | nil=>cases h
   | cons y ys =>
     unfold mn at h
     simp only[Bool.and_eq_true,beq_iff_eq,bne_iff_ne,ne_eq] at h
     obtain⟨⟨⟨⟨h1,h2⟩,h3⟩,h4⟩,h5⟩:=h
     cases i with
     | zero =>
       simp only[List.getElem?_cons_zero,Option.some.injEq] at hx
       subst hx
       split at h3
       ·rename_i j hj
        split at h4
        ·rename_i d hd
         exact⟨f,j,d,rfl,h1,h2,hj,by simpa using h3,hd,by simpa using h4⟩
        ·cases h4
       ·cases h3
     | succ i=>exact ih h5 (by simpa using hx)
theorem mA{t e:TypeId}{es eb:Nat}{cF:Ty}(h:gn P t (.sl e es eb cF)=true) :
 P.underlying t=some (.slice e)/\es=cF.size/\∃ i z,P.info? e=some i/\i.size=cF.size/\i.bytes=eb/\i.zero=some z/\z.cells=cF.hY.toArray:=by
 unfold gn at h
 simp only[Bool.and_eq_true,beq_iff_eq] at h
 obtain⟨⟨h1,h2⟩,h3⟩:=h
 split at h1
 ·rename_i e' he
  simp only[beq_iff_eq] at h1
  subst h1
  obtain⟨i,z,k1,k2,k3,k4,k5,_⟩:=xw h3
  exact⟨he,h2,i,z,k1,k2.trans h2,k3,k4,k5⟩
 ·cases h1
theorem uT{t e:TypeId}(h:gn P t (.Eo e)=true) :
 P.underlying t=some (.slice e)/\∃ i z,P.info? e=some i/\i.size=1/\i.bytes=8/\i.zero=some z/\z.cells = #[.pointer none]:=by
 unfold gn at h
 simp only[Bool.and_eq_true,beq_iff_eq] at h
 obtain⟨h1,h3⟩:=h
 split at h1
 ·rename_i e' he
  simp only[beq_iff_eq] at h1
  subst h1
  obtain⟨i,z,k1,k2,k3,k4,k5,_⟩:=xw h3
  exact⟨he,i,z,k1,k2,k3,k4,k5⟩
 ·cases h1
theorem BB{t:TypeId}{fs:List (Nat×Nat×Bool)}(h:gn P t (.st fs)=true):∃ fields,P.underlying t=some (.struct fields)/\mn P fields.toList fs=true:=by
 unfold gn at h
 simp only at h
 split at h
 ·exact⟨_,‹_›,h⟩
 ·cases h
theorem K7{t:TypeId}{k:IntKind}(h:gn P t (.int k)=true):P.underlying t=some (.int k):=by
 unfold gn at h
 simp only at h
 split at h
 ·rename_i k' hk;simp only[beq_iff_eq] at h;subst h;exact hk
 ·cases h
theorem iQ(b o j:Nat):(⟨b,o,none⟩:Addr).add j=⟨b,o+j,none⟩:=by
 unfold Addr.add;split
 ·rename_i h;subst h;rfl
 ·rfl
theorem Jy{t:TypeId}{ti:TI}(h:tS P t ti=true)(w:World)(b o:Nat)(vs:List Value)(hl:vs.length=ti.size)(hc:∀(j:Nat) v,vs[j]? = some v->w.cell? ⟨b,o+j,none⟩=some v) :
 (ti.agg=true->(Instr.loadAt t (.pointer (some ⟨b,o,none⟩))).run P w = .ok (.agg vs.toArray) w) ∧
 (ti.agg=false->∀ v,vs=[v]->(Instr.loadAt t (.pointer (some ⟨b,o,none⟩))).run P w = .ok v w):=by
 obtain⟨⟨i,z,h1,h2,_⟩,_,_⟩:=d_ h
 obtain⟨d,hd,ha⟩:=L5 h
 have hs:=run_sizeOf h1
 have hg:=np hd
 constructor
 ·intro MH
  rw[MH] at ha
  have Sf:=run_loadCells_list (P:=P) w ⟨b,o,none⟩ vs (fun j v hv=>by rw[iQ];exact hc j v hv)
  rw[hl,<-h2] at Sf
  simp[Instr.loadAt,Instr.sureAddr,loadVar,hg,ha,hs,Sf]
 ·intro MH v hv
  rw[MH] at ha
  have h0:=hc 0 v (by rw[hv];rfl)
  simp only[Nat.add_zero] at h0
  simp[Instr.loadAt,Instr.sureAddr,loadVar,hg,ha,h0]
theorem qR{t:TypeId}{ti:TI}(h:tS P t ti=true)(w:World)(b o:Nat)(cur:Array Value)(el:TypeId)(x:Value)(hx:x.cells.size=ti.size)(hg:w.heap[b]? = some (.cells cur el (0,0)))
 (ML:o+x.cells.size<=cur.size) (h1:∀ v∈x.cells.toList,v.oneCell'=true) :
 (Instr.storeAt t (.pointer (some ⟨b,o,none⟩)) x).run P w = .ok () (w.setRow b (cur.toList.take o++x.cells.toList++cur.toList.drop (o+x.cells.toList.length)).toArray):=by
 obtain⟨⟨i,z,h2,h3,_⟩,_,_⟩:=d_ h
 have fN:=run_storeCells_at P b o el x.cells.toList 0 cur w hg (by simpa using ML) h1
 simp only[Nat.add_zero] at fN
 have bo:¬(x.cells.size≠i.size):=by rw[hx,h3];simp
 have SZ:x.cells.size=i.size:=by rw[hx,h3]
 simp only[Instr.storeAt,Instr.sureAddr,storeVar,Sem.run_bind,Sem.run_pure,Result.andThen_ok,run_sizeOf h2,SZ,ne_eq,not_true_eq_false,if_false]
 first
  | exact fN
  | (simp only[Sem.run_bind,Sem.run_pure,Result.andThen_ok];exact fN)
  | (simp[fN])
end
end Go.SX
/- New names, new blocks: what an operation that writes nothing leaves. No condition. -/
namespace Go.SX
open Go.RowKit
set_option linter.unusedVariables false
def cZ(hp:Nat->az)(nx:Nat)(es:List az)(n:Nat):az:=if n<nx then hp n else match es[n-nx]? with|some e=>e|none=>hp n
theorem uH(hp:Nat->az)(nx:Nat):cZ hp nx []=hp:=by
 funext n;unfold cZ;split<;>rfl
theorem KR{hp:Nat->az}{nx:Nat}{es:List az}(hd:∀ j,j<es.length->hp (nx+j) = .dead){n:Nat}(hl:(hp n).live=true):cZ hp nx es n=hp n:=by
 unfold cZ
 split
 ·rfl
 ·rename_i h
  split
  ·rename_i e he
   have aK:=(List.getElem?_eq_some_iff.1 he).1
   have:=hd (n-nx) aK
   rw[show nx+(n-nx)=n by omega] at this
   rw[this] at hl;cases hl
  ·rfl
theorem p7{hp:Nat->az}{nx:Nat}{es:List az}{j:Nat}{e:az}(h:es[j]? = some e):cZ hp nx es (nx+j)=e:=by
 unfold cZ
 rw[if_neg (by omega),show nx+j-nx=j by omega,h]
theorem eY(hp:Nat->az)(nx:Nat)(es:List az)(n:Nat):(∃ j e,n=nx+j/\es[j]? = some e/\cZ hp nx es n=e)\/((n<nx\/nx+es.length<=n)/\cZ hp nx es n=hp n):=by
 by_cases h:n<nx
 ·exact .inr ⟨.inl h,by unfold cZ;rw[if_pos h]⟩
 ·cases he:es[n-nx]? with
  | some e=>exact .inl ⟨n-nx,e,by omega,he,by unfold cZ;rw[if_neg h,he]⟩
  | none =>
    have:=List.getElem?_eq_none_iff.1 he
    exact .inr ⟨.inr (by omega),by unfold cZ;rw[if_neg h,he]⟩
def Vl.ext(V:Vl)(nx:Nat)(bs:List (Option Nat))(Z:Nat->Prop):Vl where
 aI n:=if nx<=n/\n<nx+bs.length then ((bs[n-nx]?).getD none).getD 0 else V.aI n
 has n:=if nx<=n/\n<nx+bs.length then ((bs[n-nx]?).getD none).isSome=true else V.has n
 Z0:=V.Z0
 Z1 b:=V.Z1 b\/Z b
section
variable {V : Vl} {nx : Nat} {bs : List (Option Nat)} {Z : Nat → Prop}
theorem Vl.mM{n:Nat}(h:n<nx\/nx+bs.length<=n):(V.ext nx bs Z).aI n=V.aI n:=by
 show (if _ then _ else _)=_;rw[if_neg (by omega)]
theorem Vl.jR{n:Nat}(h:n<nx\/nx+bs.length<=n):(V.ext nx bs Z).has n↔V.has n:=by
 show (if _ then _ else _)↔_;rw[if_neg (by omega)]
theorem Vl.mL{j b:Nat}(h:bs[j]? = some (some b)):(V.ext nx bs Z).aI (nx+j)=b:=by
 have hj:=(List.getElem?_eq_some_iff.1 h).1
 show (if _ then _ else _)=_;rw[if_pos (by omega),show nx+j-nx=j by omega,h];rfl
theorem Vl.jQ{j:Nat}{b:Option Nat}(h:bs[j]? = some b):(V.ext nx bs Z).has (nx+j)↔b.isSome=true:=by
 have hj:=(List.getElem?_eq_some_iff.1 h).1
 show (if _ then _ else _)↔_;rw[if_pos (by omega),show nx+j-nx=j by omega,h];rfl
theorem Vl.NL{fr:Bool}{b:Nat}:(V.ext nx bs Z).Z fr b↔V.Z fr b\/Z b:=by
 unfold Vl.Z Vl.ext
 constructor
 ·rintro ((h|h)|h)
  ·exact .inl (.inl h)
  ·exact .inr h
  ·exact .inl (.inr h)
 ·rintro ((h|h)|h)
  ·exact .inl (.inl h)
  ·exact .inr h
  ·exact .inl (.inr h)
end
section
variable {base : Nat} {M : LM} {w0 : World} {V : Vl} {hp : Nat → az} {w w' : World}
theorem Mem.AI(m:Mem base M w0 V hp w){fr:Bool}{b:Nat}(h:V.Z fr b):b<w.heap.size:=by
 rcases h with h|⟨_,h⟩
 ·exact (m.z1 b h).2
 ·exact Nat.lt_of_lt_of_le (m.z0 b h).1 m.kept.size
theorem Kept.trans(h:Kept base M w0 w)(k:Kept w.heap.size tP w w'):Kept base M w0 w' where
 os:=k.os.trans h.os
 tape:=k.tape.trans h.tape
 output:=k.output.trans h.output
 size:=Nat.le_trans h.size k.size
 block b hb hm:=(k.block b (Nat.lt_of_lt_of_le hb h.size) (fun x=>x)).trans (h.block b hb hm)
 shape b ay el hb hm hv:=by
  obtain⟨cS,kW,h1,h2⟩:=h.shape b ay el hb hm hv
  exact⟨cS,kW,(k.block b (Nat.lt_of_lt_of_le hb h.size) (fun x=>x)).trans h1,h2⟩
theorem VX.rG(m:Mem base M w0 V hp w)(k:Kept w.heap.size tP w w'){nx:Nat}{es:List az}{bs:List (Option Nat)}{Z:Nat->Prop}(hlen:bs.length=es.length)
 (hd:∀ j,j<es.length->hp (nx+j) = .dead):VX V hp w (V.ext nx bs Z) (cZ hp nx es) w' where
 nm n hl:=by
  have ho:n<nx\/nx+bs.length<=n:=by
   rcases Nat.lt_or_ge n nx with h|h
   ·exact .inl h
   ·rcases Nat.lt_or_ge n (nx+bs.length) with h'|h'
    ·have:=hd (n-nx) (by omega)
     rw[show nx+(n-nx)=n by omega] at this
     rw[this] at hl;cases hl
    ·exact .inr h'
  exact⟨Vl.mM ho,Vl.jR ho,KR hd hl⟩
 z0 b h:=h
 z1 b h:=.inl h
 J8 b h:=k.block b (m.AI h) (fun x=>x)
 J7 n hl hh:=k.block _ (m.own n hl hh).2.1 (fun x=>x)
theorem DV{e:az}(h:¬e.eH):e.gJ=[]:=by
 cases e with
 | dead=>rfl
 | bx cs=>rfl
 | row fr e xs =>
   cases fr with
   | true=>rfl
   | false =>
     have h':¬(e.flat||e.bW)=true:=h
     show (if e.bW then eT e xs else [])=[]
     rw[if_neg (fun hg=>h' (by rw[hg,Bool.or_true]))]
theorem Mem.grow(m:Mem base M w0 V hp w)(k:Kept w.heap.size tP w w'){nx:Nat}{es:List az}{bs:List (Option Nat)}{Z:Nat->Prop}(hlen:bs.length=es.length)
 (hd:∀ j,j<es.length->hp (nx+j) = .dead) (lR:(bs.filterMap id).Nodup) (hb:∀ b,some b∈bs->w.heap.size<=b/\b<w'.heap.size/\¬Z b) (hZ:∀ b,Z b->w.heap.size<=b/\b<w'.heap.size)
 (jT:∀(j:Nat) cs,es[j]? = some (.bx cs)->∃ b,bs[j]? = some (some b))
 (NS:∀(j:Nat) e,es[j]? = some e->e.ok (V.ext nx bs Z) (cZ hp nx es) w' (nx+j)) (yK:∀ e∈es,¬e.eH) :
 Mem base M w0 (V.ext nx bs Z) (cZ hp nx es) w':=by
 have x:=VX.rG m k (Z:=Z) hlen hd
 have ck:w.heap.size<=w'.heap.size:=k.size
 have km:∀(n:Nat),(cZ hp nx es n).live=true->(V.ext nx bs Z).has n->(∃ j b,n=nx+j/\bs[j]? = some (some b)/\(V.ext nx bs Z).aI n=b/\w.heap.size<=b/\b<w'.heap.size/\¬Z b) ∨
  ((n<nx\/nx+es.length<=n)/\(hp n).live=true/\V.has n/\(V.ext nx bs Z).aI n=V.aI n):=by
  intro n hl hh
  rcases eY hp nx es n with ⟨j,e,rfl,he,h3⟩|⟨h1,h2⟩
  ·have hj:=(List.getElem?_eq_some_iff.1 he).1
   have KC:bs[j]? = some bs[j]:=List.getElem?_eq_getElem (by omega)
   rw[Vl.jQ KC] at hh
   cases fu:bs[j] with
   | none=>rw[fu] at hh;cases hh
   | some b =>
     rw[fu] at KC
     exact .inl ⟨j,b,rfl,KC,Vl.mL KC,hb b (List.mem_of_getElem? KC)⟩
  ·rw[h2] at hl
   rw[Vl.jR (by omega)] at hh
   exact .inr ⟨h1,hl,hh,Vl.mM (by omega)⟩
 refine⟨fun n=>?_,fun n cs h=>?_,fun n hl hh=>?_,fun n e xs h hh=>?_,fun n n' hl df hh nW he=>?_,fun b h=>m.z0 b h,fun b h=>?_,m.kept.trans k,fun n hl hh=>?_,fun b hb=>?_,fun n hh i hi=>?_⟩
 ·rcases eY hp nx es n with ⟨j,e,rfl,he,h3⟩|⟨h1,h2⟩
  ·rw[h3];exact NS j e he
  ·cases hl:(hp n).live with
   | true=>exact az.ja x (m.dx n) (fun cs h=>m.box n cs h) hl
   | false =>
     rw[h2]
     cases hn:hp n with
     | dead=>trivial
     | bx cs=>rw[hn] at hl;cases hl
     | row fr e xs=>rw[hn] at hl;cases hl
 ·rcases eY hp nx es n with ⟨j,e,rfl,he,h3⟩|⟨h1,h2⟩
  ·rw[h3] at h;subst h
   obtain⟨b,fu⟩:=jT j cs he
   rw[Vl.jQ fu];rfl
  ·rw[h2] at h
   rw[Vl.jR (by omega)]
   exact m.box n cs h
 ·rcases km n hl hh with ⟨j,b,rfl,h1,h2,h3,h4,h5⟩|⟨h0,h1,h2,h3⟩
  ·rw[h2]
   refine⟨.inl (Nat.le_trans m.kept.size h3),h4,fun h=>?_⟩
   rcases Vl.NL.1 h with h|h
   ·have:=m.AI h;omega
   ·exact h5 h
  ·rw[h3]
   obtain⟨k1,k2,k3⟩:=m.own n h1 h2
   refine⟨k1,by omega,fun h=>?_⟩
   rcases Vl.NL.1 h with h|h
   ·exact k3 h
   ·have:=(hZ _ h).1;omega
 ·rcases km n (by rw[h];rfl) hh with ⟨j,b,rfl,h1,h2,h3,h4,h5⟩|⟨h0,h1,h2,h3⟩
  ·rw[h2];exact Nat.le_trans m.kept.size h3
  ·rw[h3]
   rcases eY hp nx es n with ⟨j,e',rfl,eF,_⟩|⟨_,h4⟩
   ·have:=(List.getElem?_eq_some_iff.1 eF).1;omega
   ·exact m.iZ n e xs (by rw[<-h4];exact h) h2
 ·rcases km n hl hh with ⟨j,b,rfl,h1,h2,h3,h4,h5⟩|⟨h0,h1,h2,h3⟩
  ·rcases km n' df nW with ⟨j',b',rfl,g1,g2,g3,g4,g5⟩|⟨g0,g1,g2,g3⟩
   ·rw[h2,g2] at he
    subst he
    by_cases Sc:j=j'
    ·rw[Sc]
    ·exfalso
     have ie:bs.Pairwise (fun x y=>∀ b,x=some b->y=some b->False):=by
      have h:=lR
      rw[List.Nodup,List.pairwise_filterMap] at h
      refine h.imp fun {x y} Ua b hx hy=>?_
      exact Ua b hx b hy rfl
     have KL:=(List.getElem?_eq_some_iff.1 h1).1
     have A9:=(List.getElem?_eq_some_iff.1 g1).1
     rw[List.pairwise_iff_getElem] at ie
     rw[List.getElem?_eq_getElem KL] at h1
     rw[List.getElem?_eq_getElem A9] at g1
     simp only[Option.some.injEq] at h1 g1
     rcases Nat.lt_or_gt_of_ne Sc with aK|aK
     ·exact ie j j' KL A9 aK b h1 g1
     ·exact ie j' j A9 KL aK b g1 h1
   ·rw[h2,g3] at he
    have:=(m.own n' g1 g2).2.1
    omega
  ·rcases km n' df nW with ⟨j',b',rfl,g1,g2,g3,g4,g5⟩|⟨g0,g1,g2,g3⟩
   ·rw[h3,g2] at he
    have:=(m.own n h1 h2).2.1
    omega
   ·rw[h3,g3] at he
    exact m.fZ n n' h1 g1 h2 g2 he
 ·rcases h with h|h
  ·exact⟨(m.z1 b h).1,by have:=(m.z1 b h).2;omega⟩
  ·exact⟨Nat.le_trans m.kept.size (hZ b h).1,(hZ b h).2⟩
 ·rcases eY hp nx es n with ⟨j,e,rfl,he,h3⟩|⟨h1,h2⟩
  ·rw[h3] at hl
   exact absurd hl (yK e (List.mem_of_getElem? he))
  ·rw[h2] at hl
   rw[Vl.jR (by omega)] at hh
   rw[Vl.mM (by omega)]
   exact m.pz n hl hh
 ·obtain⟨q1,q2⟩:=m.oh b hb
  rcases eY hp nx es 0 with ⟨j,e,h0,he,h3⟩|⟨h1,h2⟩
  ·have hj:=(List.getElem?_eq_some_iff.1 he).1
   have:=hd j hj
   rw[<-h0] at this
   rw[this] at q1
   cases q1
  ·rw[h2]
   exact⟨q1,by rw[Vl.mM (by omega)];exact q2⟩
 ·rcases eY hp nx es n with ⟨j,e,rfl,he,h3⟩|⟨h1,h2⟩
  ·rw[h3,DV (yK e (List.mem_of_getElem? he))] at hi
   cases hi
  ·rw[h2] at hi
   rw[Vl.jR (by omega)] at hh
   exact m.gJ n hh i hi
structure Good (base:Nat) (M:LM) (w0:World) (V:Vl) (hp:Nat->az) (w:World) (nx:Nat) (res:S) (es:List az) (hy:Option Prop) (v:Value) (w':World) (V':Vl):Prop where
 mem:Mem base M w0 V' (cZ hp nx es) w'
 vx:VX V hp w V' (cZ hp nx es) w'
 res:S.ok V' (cZ hp nx es) w' res v
 hy:∀ p,hy=some p->p
theorem VX.refl(V:Vl)(hp:Nat->az)(w:World):VX V hp w V hp w:=⟨fun _ _=>⟨rfl,Iff.rfl,rfl⟩,fun _ h=>h,fun _ h=>h,fun _ _=>rfl,fun _ _ _=>rfl⟩
theorem dz(m:Mem base M w0 V hp w){nx:Nat}{s:S}{v:Value}(h:S.ok V hp w s v):Good base M w0 V hp w nx s [] none v w V:=by
 refine⟨?_,?_,?_,fun p h=>by cases h⟩
 ·rw[uH];exact m
 ·rw[uH];exact VX.refl _ _ _
 ·rw[uH];exact h
theorem heap_drew(w:World):w.drew.heap=w.heap:=rfl
theorem IT(w:World)(o:Obj):Kept w.heap.size tP w (w.alloc o) where
 os:=rfl
 tape:=rfl
 output:=rfl
 size:=by simp
 block b hb _:=by show (w.heap.push o)[b]? = _;rw[Array.getElem?_push,if_neg (by omega)]
 shape _ _ _ _ h _:=h.elim
theorem xp(w:World)(o:Obj):(w.alloc o).heap[w.heap.size]? = some o:=by
 show (w.heap.push o)[w.heap.size]? = _
 rw[Array.getElem?_push,if_pos rfl]
theorem jw(m:Mem base M w0 V hp w){nx:Nat}(hd:hp nx = .dead)(ay:Array Value)(el:TypeId)(e:az)(res:S)(v:Value)(yK:¬e.eH)
 (he:∀ V' aJ w',VX V hp w V' aJ w'->V'.has nx->V'.aI nx=w.heap.size->aJ nx=e->w'.heap[w.heap.size]? = some (.cells ay el (0,0))->e.ok V' aJ w' nx/\S.ok V' aJ w' res v) :
 ∃ V',Good base M w0 V hp w nx res [e] none v (w.alloc (.cells ay el)) V':=by
 have k:=IT w (.cells ay el)
 have cG:∀ j,j<[e].length->hp (nx+j) = .dead:=fun j hj=>by
  have:j=0:=by simp at hj;omega
  subst this;exact hd
 have x:=VX.rG m k (nx:=nx) (es:=[e]) (bs:=[some w.heap.size]) (Z:=fun _=>False) rfl cG
 have h1:(V.ext nx [some w.heap.size] (fun _=>False)).has nx:=by
  have:=Vl.jQ (V:=V) (nx:=nx) (bs:=[some w.heap.size]) (Z:=fun _=>False) (j:=0) (b:=some w.heap.size) rfl
  exact this.2 rfl
 have h2:(V.ext nx [some w.heap.size] (fun _=>False)).aI nx=w.heap.size:=Vl.mL (nx:=nx) (j:=0) rfl
 have h3:cZ hp nx [e] nx=e:=p7 (nx:=nx) (j:=0) rfl
 obtain⟨g1,g2⟩:=he _ _ _ x h1 h2 h3 (xp w _)
 refine⟨_,⟨m.grow k rfl cG (by simp) (fun b hb=>?_) (fun b hb=>hb.elim) (fun j cs hj=>?_) (fun j e' hj=>?_) (fun e' eF=>by rw[List.mem_singleton.1 eF];exact yK),x,g2,fun p h=>by cases h⟩⟩
 ·simp at hb;subst hb;exact⟨Nat.le_refl _,by simp,fun h=>h⟩
 ·have:j=0:=by have:=(List.getElem?_eq_some_iff.1 hj).1;simp at this;omega
  subst this;exact⟨_,rfl⟩
 ·have:j=0:=by have:=(List.getElem?_eq_some_iff.1 hj).1;simp at this;omega
  subst this
  simp at hj;subst hj
  exact g1
end
end Go.SX
/- Arithmetic and choices: the symbolic value is the run's. No condition. -/
namespace Go.SX
open Go.RowKit
set_option linter.unusedVariables false
theorem ey(k:IntKind)(n:Int):k.min<=k.wrap n/\k.wrap n<=k.max:=by
 cases k<;>simp only[IntKind.wrap,IntKind.min,IntKind.max,IntKind.signed,IntKind.bits]<;>simp<;>(try split)<;>omega
section
variable {P : Program} {V : Vl} {hp : Nat → az} {w : World}
theorem ok_int{k:IntKind}{n:Int}{v:Value}(h:C.ok V hp w (.val (.int k n)) v):v = .int k n/\k.min<=n/\n<=k.max:=h
theorem z7{b:Bool}{v:Value}(h:C.ok V hp w (.val (.bool b)) v):v = .bool b:=h.1
theorem gU{k:IntKind}{n:Int}(h:k.min<=n/\n<=k.max):C.ok V hp w (.val (.int k n)) (.int k n):=⟨rfl,h⟩
theorem jC(b:Bool):C.ok V hp w (.val (.bool b)) (.bool b):=⟨rfl,trivial⟩
theorem JB{k:IntKind}{a b:Int}(ha:k.min<=a/\a<=k.max):k.min<=a.tmod b/\a.tmod b<=k.max:=by
 have SY:k.min<=0:=(oQ k).1
 have SW:0<=k.max:=(oQ k).2
 rcases Int.le_total 0 a with h|h
 ·have h1:=Int.tmod_nonneg b h
  have h2:a.tmod b<=a:=by
   have:=Int.natAbs_tmod a b
   have h3:(a.tmod b).natAbs<=a.natAbs:=by rw[this];exact Nat.mod_le _ _
   omega
  omega
 ·have h2:(a.tmod b).natAbs<=a.natAbs:=by rw[Int.natAbs_tmod];exact Nat.mod_le _ _
  have h1:a.tmod b<=0:=by
   have:=Int.tmod_nonneg b (show 0 ≤ -a by omega)
   rw[Int.neg_tmod] at this
   omega
  omega
theorem lJ(op:BinOp)(t:TypeId)(x y:Operand)(k k':IntKind)(a b:Int):(eqGuard op t x y (.int k a) (.int k' b)).run P w = .ok () w:=by
 unfold eqGuard
 simp only[Sem.run_ite]
 split<;>rfl
theorem Hc(a b:Int):(a == b)=decide (a=b):=by rw[Bool.eq_iff_iff];simp
theorem MV{op:BinOp}{k:IntKind}{a b:Int}{p:Option Prop}{c:C}(h:MU op k a b=some (p,c))(aJ:∀ q,p=some q->q)(ha:k.min<=a/\a<=k.max)(t:TypeId) :
 ∃ v,(binOp op t (.int k a) (.int k b)).run P w = .ok v w/\C.ok V hp w c v:=by
 cases op<;>simp only[MU,Option.some.injEq,Prod.mk.injEq,reduceCtorEq] at h<;>obtain⟨rfl,rfl⟩:=h
 case add=>exact⟨_,by simp[binOp,Op.intArith],gU (ey _ _)⟩
 case sub=>exact⟨_,by simp[binOp,Op.intArith],gU (ey _ _)⟩
 case mul=>exact⟨_,by simp[binOp,Op.intArith],gU (ey _ _)⟩
 case quo=>exact⟨_,by simp[binOp,Op.intDiv,aJ _ rfl],gU (ey _ _)⟩
 case rem=>exact⟨_,by simp[binOp,Op.intDiv,aJ _ rfl],gU (JB ha)⟩
 case and=>exact⟨_,by simp[binOp,Op.intBits,sM],gU (ey _ _)⟩
 case or=>exact⟨_,by simp[binOp,Op.intBits,gj],gU (ey _ _)⟩
 case xor=>exact⟨_,by simp[binOp,Op.intBits,QT],gU (ey _ _)⟩
 case eql=>exact⟨.bool (decide (a=b)),by simp[binOp,Op.intCmp,Hc],jC _⟩
 case neq=>exact⟨.bool (!decide (a=b)),by simp[binOp,Op.intCmp,bne,Hc],jC _⟩
 case lss=>exact⟨_,by simp[binOp,Op.intCmp],jC _⟩
 case leq=>exact⟨_,by simp[binOp,Op.intCmp],jC _⟩
 case gtr=>exact⟨_,by simp[binOp,Op.intCmp],jC _⟩
 case geq=>exact⟨_,by simp[binOp,Op.intCmp],jC _⟩
def eC(P:Program)(V:Vl)(hp:Nat->az)(w:World)(r:QR)(e:Sem Value):Prop:=r.new=[]/\r.hy=none/\∃ v,e.run P w = .ok v w/\S.ok V hp w r.res v
theorem Nd{op:BinOp}{x y:C}{r:QR}{u v:Value}(h:Nc op x y=some r)(cP:∀ p,r.ob=some p->p)(hx:C.ok V hp w x u)(hy:C.ok V hp w y v)(t:TypeId)(ox oy:Operand) :
 eC P V hp w r (do eqGuard op t ox oy u v;binOp op t u v):=by
 unfold Nc at h
 split at h
 ·injection h with h;subst h
  obtain⟨rfl,ha⟩:=ok_int hx
  obtain⟨rfl,hb⟩:=ok_int hy
  have h0:=cP _ rfl
  rename_i k a k' n
  refine⟨rfl,rfl,.int k (bb k a n),?_,⟨rfl,ey _ _⟩⟩
  simp[lJ,binOp,Op.shift,bb,show ¬(n<(0:Int)) from by omega]
 ·injection h with h;subst h
  obtain⟨rfl,ha⟩:=ok_int hx
  obtain⟨rfl,hb⟩:=ok_int hy
  have h0:=cP _ rfl
  rename_i k a k' n
  refine⟨rfl,rfl,.int k (iB k a n),?_,⟨rfl,?_⟩⟩
  ·simp[lJ,binOp,Op.shift,iB,show ¬(n<(0:Int)) from by omega]
  ·have SY:=(oQ k).1
   have SW:=(oQ k).2
   unfold iB
   have lu:(0:Int)<2^min n.toNat k.bits:=Int.pow_pos (by decide)
   generalize (2:Int)^min n.toNat k.bits=d at lu
   rw[Int.fdiv_eq_ediv_of_nonneg _ (by omega)]
   constructor
   ·have h1:k.min<=a:=ha.1
    rcases Int.le_total 0 a with h|h
    ·have:=Int.ediv_nonneg h (show (0:Int)<=d by omega);omega
    ·have h2:a<=a/d:=by
      have h3:=Int.le_ediv_of_mul_le (a:=a) (b:=a) (c:=d) lu (by
       have:a*d<=a*1:=Int.mul_le_mul_of_nonpos_left h (show (1:Int)<=d by omega)
       omega)
      exact h3
     omega
   ·rcases Int.le_total 0 a with h|h
    ·have:=Int.ediv_le_self d h;omega
    ·have:a/d<=0:=Int.ediv_le_of_le_mul lu (by omega)
     omega
 ·split at h
  ·rename_i U_ k a k' b hk
   subst hk
   split at h
   ·rename_i p c hi
    injection h with h;subst h
    obtain⟨rfl,ha⟩:=ok_int hx
    obtain⟨rfl,hb⟩:=ok_int hy
    obtain⟨v,h1,h2⟩:=MV (P:=P) (V:=V) (hp:=hp) (w:=w) hi cP ha t
    exact⟨rfl,rfl,v,by simp only[Sem.run_bind,lJ,Result.andThen_ok];exact h1,h2⟩
   ·cases h
  ·cases h
 ·cases h
theorem O9{op:UnOp}{x:C}{r:QR}{u:Value}(h:Q7 op x=some r)(hx:C.ok V hp w x u):eC P V hp w r (Op.unary op u):=by
 unfold Q7 at h
 split at h<;>first|(cases h;done)|(injection h with h;subst h)
 ·rw[z7 hx];exact⟨rfl,rfl,_,by unfold Op.unary;rfl,⟨rfl,trivial⟩⟩
 ·rw[show u=_ from hx];exact⟨rfl,rfl,.bool false,by simp[Op.unary],rfl⟩
 ·rw[show u=_ from hx];exact⟨rfl,rfl,.bool true,by simp[Op.unary],rfl⟩
 ·obtain⟨rfl,ha⟩:=ok_int hx
  exact⟨rfl,rfl,_,by unfold Op.unary Op.intArith;rfl,⟨rfl,ey _ _⟩⟩
theorem gQ{c:C}{b:Bool}{v:Value}(h:m5 c=some b)(hc:C.ok V hp w c v):v = .bool b:=by
 unfold m5 at h
 split at h<;>first|(injection h with h;subst h;first|exact hc.1|exact hc)|cases h
theorem LN{c a b s:S}{vc va vb:Value}(h:CF c a b=some s)(hc:S.ok V hp w c vc)(ha:S.ok V hp w a va)(hb:S.ok V hp w b vb) :
 ∃ p,asBool vc=pure p/\S.ok V hp w s (if p then va else vb):=by
 unfold CF at h
 split at h
 ·injection h with h;subst h
  exact⟨true,by rw[show vc=_ from hc];rfl,by simpa using ha⟩
 ·injection h with h;subst h
  exact⟨false,by rw[show vc=_ from hc];rfl,by simpa using hb⟩
 ·split at h
  ·rename_i p k x k' y hk
   subst hk
   injection h with h;subst h
   obtain⟨e1,h1⟩:=ok_int (V:=V) (hp:=hp) (w:=w) ha
   obtain⟨e2,h2⟩:=ok_int (V:=V) (hp:=hp) (w:=w) hb
   refine⟨p,by rw[z7 (V:=V) (hp:=hp) (w:=w) hc];rfl,?_⟩
   subst e1;subst e2
   cases p
   ·exact⟨rfl,h2⟩
   ·exact⟨rfl,h1⟩
  ·cases h
 ·rename_i p x y _
  split at h
  ·rename_i a' b' h1 h2
   injection h with h;subst h
   refine⟨p,by rw[z7 (V:=V) (hp:=hp) (w:=w) hc];rfl,?_⟩
   have e1:=gQ (V:=V) (hp:=hp) (w:=w) h1 ha
   have e2:=gQ (V:=V) (hp:=hp) (w:=w) h2 hb
   subst e1;subst e2
   cases p
   ·exact⟨rfl,trivial⟩
   ·exact⟨rfl,trivial⟩
  ·cases h
 ·cases h
end
end Go.SX
/- Loads, addresses, slices, composites. No condition. -/
namespace Go.SX
open Go.RowKit
set_option linter.unusedVariables false
section
variable {P : Program} {T : bT} {V : Vl} {hp lk : Nat → az} {w : World}
theorem rl{α:Type}{xs:List α}{i:Nat}(d:α)(h:i<xs.length):xs.getD i d=xs[i]:=by simp[List.getD,h]
theorem sQ(hT:bJ P T){t:TypeId}{n:Nat}{cs:List C}{s:S}(hn:ta T t=some n)(aJ:CB T t cs=some s)(hlen:cs.length=n){b o:Nat}{vs:List Value}(ho:br V hp w cs vs)
 (hc:∀(j:Nat) v,vs[j]? = some v->w.cell? ⟨b,o+j,none⟩=some v) :
 ∃ v,(Instr.loadAt t (.pointer (some ⟨b,o,none⟩))).run P w = .ok v w/\S.ok V hp w s v:=by
 unfold ta at hn
 unfold CB at aJ
 cases ht:T t with
 | none=>rw[ht] at hn;cases hn
 | some ti =>
   rw[ht] at hn aJ
   have hb:=hT t ti ht
   simp only[omap,Option.some.injEq] at hn
   obtain⟨h1,h2⟩:=Jy hb w b o vs (by rw[<-ho.1,hlen,hn]) hc
   split at aJ
   ·rename_i fs n' heq
    simp only[Option.some.injEq] at heq
    split at aJ
    ·injection aJ with aJ;subst aJ
     exact⟨_,h1 (by subst heq;rfl),vs.toArray,rfl,by simpa using ho⟩
    ·cases aJ
   ·cases aJ
   ·rename_i Vd iV TR heq
    simp only[Option.some.injEq] at heq
    subst heq
    have NP:ti.agg=false:=by
     unfold TI.agg
     split
     ·rename_i fs hk
      exact (iV fs ti.size ti.bytes ti.zero ti.ty ti.eq (by cases ti;simp only at hk;subst hk;rfl)).elim
     ·rename_i q1 q2 q3 q4 q5 hk
      exact (TR q1 q2 q3 q4 q5 ti.size ti.bytes ti.zero ti.ty ti.eq (by cases ti;simp only at hk;subst hk;rfl)).elim
     ·rfl
    split at aJ
    ·injection aJ with aJ;subst aJ
     obtain⟨v,cg,rfl,h3,h4⟩:=cj ho
     have:cg=[]:=by have:=h4.1;simp at this;exact List.length_eq_zero_iff.1 this.symm
     subst this
     exact⟨v,h2 NP v rfl,h3⟩
    ·cases aJ
   ·rename_i heq;cases heq
theorem mW{cs r:List C}{off n:Nat}(h:partOf cs off n=some r):r=(cs.drop off).take n/\r.length=n:=by
 unfold partOf at h
 simp only[iY,iX,cx] at h
 split at h
 ·injection h with h;subst h;exact⟨rfl,by assumption⟩
 ·cases h
theorem E4{n i:Nat}{fr:Bool}{e:Ty}{xs:List e.den}(he:(az.row fr e xs).ok V hp w n)(hh:V.has n)(hi:i<xs.length) :
 ∃ es,es.length=e.size/\(∀(j:Nat) v,es[j]? = some v->w.cell? ⟨V.aI n,i*e.size+j,none⟩=some v)/\aH (V.Z fr) w e es (xs.getD i e.en):=by
 rcases he with ⟨h1,_⟩|⟨_,ay,el,h2,h3,h4⟩
 ·exact absurd hh h1
 ·obtain⟨es,h5,h6,h7⟩:=h4 i hi
  refine⟨es,h5,fun j v hv=>?_,by rw[rl _ hi];exact h7⟩
  simp only[World.cell?,h2]
  exact h6 j v hv
theorem By(hT:bJ P T)(hl:iz V hp lk w){t:TypeId}{p:C}{r:QR}{v:Value}(h:zj T lk t p=some r)(hv:C.ok V hp w p v):eC P V hp w r (Instr.loadAt t v):=by
 unfold zj at h
 cases hn:ta T t with
 | none=>rw[hn] at h;cases h
 | some n =>
   rw[hn] at h
   simp only at h
   generalize iG:rZ lk n p=cs at h
   cases cs with
   | none=>cases h
   | some cs =>
     simp only[dB] at h
     cases hs:CB T t cs with
     | none=>rw[hs] at h;cases h
     | some s =>
       rw[hs] at h
       simp only[Option.map_some,Option.some.injEq] at h
       subst h
       unfold rZ at iG
       refine⟨rfl,rfl,?_⟩
       cases p with
       | at_ fr ty d off =>
         obtain⟨h1,h2⟩:=mW iG
         obtain⟨b,o,rfl,hz,es,h3,h4,h5⟩:=hv
         have ho:=jB (jA (ni (V:=V) (hp:=hp) fr ty h5) off) n
         rw[<-h1] at ho
         exact sQ hT hn hs h2 ho (fun j v hj=>by
          rw[List.getElem?_take] at hj
          split at hj
          ·rw[List.getElem?_drop] at hj
           have:=h4 (off+j) (List.getElem?_eq_some_iff.1 hj).1
           rw[show o+off+j=o+(off+j) by omega,this]
           exact (List.getElem?_eq_getElem _).symm.trans hj
          ·cases hj)
       | box m off =>
         simp only at iG
         split at iG
         ·rename_i cr hm
          obtain⟨h1,h2⟩:=mW iG
          obtain⟨rfl,hh,_⟩:=hv
          obtain⟨e1,e2⟩:=hl m (by rw[hm];rfl)
          rw[hm] at e2
          obtain⟨ay,el,h3,h4⟩:=e2
          have ho:=jB (jA h4 off) n
          rw[<-h1] at ho
          exact sQ hT hn hs h2 ho (fun j v hj=>by
           rw[List.getElem?_take] at hj
           split at hj
           ·rw[List.getElem?_drop] at hj
            simp only[World.cell?,h3]
            simpa using hj
           ·cases hj)
         ·cases iG
       | dR m i off =>
         simp only at iG
         split at iG
         ·rename_i fr e xs hm
          obtain⟨h1,h2⟩:=mW iG
          obtain⟨hh,aW,e',bI,h6,hi,rfl⟩:=hv
          obtain⟨e1,e2⟩:=hl m (by rw[hm];rfl)
          rw[hm] at e2
          rw[<-e1,hm] at h6
          injection h6 with e3 e4 e5
          subst e3;subst e4;cases e5
          obtain⟨es,h7,h8,h9⟩:=E4 e2 hh hi
          have ho:=jB (jA (ni (V:=V) (hp:=hp) fr e h9) off) n
          rw[<-h1] at ho
          exact sQ hT hn hs h2 ho (fun j v hj=>by
           rw[List.getElem?_take] at hj
           split at hj
           ·rw[List.getElem?_drop] at hj
            rw[show i*e.size+off+j=i*e.size+(off+j) by omega]
            exact h8 _ v hj
           ·cases hj)
         ·cases iG
       | _=>cases iG
theorem et(hT:bJ P T){t:TypeId}{f:Nat}{x:Nat×Nat×Bool}(h:oJ T t f=some x) :
 ∃ fields fd j d,P.underlying t=some (.struct fields)/\fields[f]? = some fd/\fd.offset=x.1/\x.2.1≠0/\P.info? fd.type=some j/\j.size=x.2.1/\P.underlying fd.type=some d/\jm d=x.2.2:=by
 unfold oJ at h
 split at h
 ·rename_i fs sz jJ z ty lL heq
  have hb:=(d_ (hT t _ heq)).2.2
  obtain⟨fields,h1,h2⟩:=BB hb
  rw[dc] at h
  obtain⟨fd,j,d,h3,h4⟩:=sB h2 h
  exact⟨fields,fd,j,d,h1,by simpa using h3,h4⟩
 ·cases h
theorem Ah(hT:bJ P T){t:TypeId}{p:C}{f:Nat}{r:QR}{v:Value}(h:lH T t p f=some r)(hv:C.ok V hp w p v):eC P V hp w r (Instr.fieldAt t v f):=by
 unfold lH at h
 cases hf:oJ T t f with
 | none=>rw[hf] at h;cases h
 | some x =>
   obtain⟨o,n,ag⟩:=x
   rw[hf] at h
   obtain⟨fields,fd,j,d,h1,h2,h3,h4,h5,h6,_⟩:=et hT hf
   have run:∀ b off,(Instr.fieldAt t (.pointer (some ⟨b,off,none⟩)) f).run P w = .ok (.pointer (some ⟨b,off+o,none⟩)) w:=by
    intro b off
    have bo:¬(j.size=0):=by rw[h6];exact h4
    have Kx:fd.offset=o:=h3
    simp[Instr.fieldAt,run_underlying h1,h2,Instr.sureAddr,fieldPlace,run_sizeOf h5,bo,Kx,iQ]
   simp only at h
   split at h
   ·rename_i fr ty dd off
    injection h with h;subst h
    obtain⟨b,o',rfl,hz,es,k1,k2,k3⟩:=hv
    exact⟨rfl,rfl,_,run _ _,b,o',by rw[Nat.add_assoc],hz,es,k1,k2,k3⟩
   ·injection h with h;subst h
    obtain⟨rfl,k1,k2⟩:=hv
    exact⟨rfl,rfl,_,run _ _,rfl,k1,k2⟩
   ·injection h with h;subst h
    obtain⟨k1,fr,e,xs,k2,k3,rfl⟩:=hv
    exact⟨rfl,rfl,_,run _ _,k1,fr,e,xs,k2,k3,by rw[Nat.add_assoc]⟩
   ·cases h
theorem Ag(hT:bJ P T){t:TypeId}{p:C}{f:Nat}{r:QR}{v:Value}(h:lH T t p f=some r)(hv:C.ok V hp w p v) :
 r.ob=none/\r.hy=none/\r.new=[]/\∃ u,(∀ w',(Instr.fieldAt t v f).run P w' = .ok u w')/\S.ok V hp w r.res u:=by
 unfold lH at h
 cases hf:oJ T t f with
 | none=>rw[hf] at h;cases h
 | some x =>
   obtain⟨o,n,ag⟩:=x
   rw[hf] at h
   obtain⟨fields,fd,j,d,h1,h2,h3,h4,h5,h6,_⟩:=et hT hf
   have run:∀ b off w',(Instr.fieldAt t (.pointer (some ⟨b,off,none⟩)) f).run P w' = .ok (.pointer (some ⟨b,off+o,none⟩)) w':=by
    intro b off w'
    have bo:¬(j.size=0):=by rw[h6];exact h4
    have Kx:fd.offset=o:=h3
    simp[Instr.fieldAt,run_underlying h1,h2,Instr.sureAddr,fieldPlace,run_sizeOf h5,bo,Kx,iQ]
   simp only at h
   split at h
   ·rename_i fr ty dd off
    injection h with h;subst h
    obtain⟨b,o',rfl,hz,es,k1,k2,k3⟩:=hv
    exact⟨rfl,rfl,rfl,_,run _ _,b,o',by rw[Nat.add_assoc],hz,es,k1,k2,k3⟩
   ·injection h with h;subst h
    obtain⟨rfl,k1,k2⟩:=hv
    exact⟨rfl,rfl,rfl,_,run _ _,rfl,k1,k2⟩
   ·injection h with h;subst h
    obtain⟨k1,fr,e,xs,k2,k3,rfl⟩:=hv
    exact⟨rfl,rfl,rfl,_,run _ _,k1,fr,e,xs,k2,k3,by rw[Nat.add_assoc]⟩
   ·cases h
theorem uk(hT:bJ P T){t:TypeId}{e:Ty}(h:ia T t=some e) :
 ∃ te i z,P.underlying t=some (.slice te)/\P.info? te=some i/\i.size=e.size/\i.zero=some z/\z.cells=e.hY.toArray:=by
 unfold ia at h
 split at h
 ·rename_i te es eb e' sz jJ z ty lL heq
  injection h with h;subst h
  obtain⟨h1,h2,i,z,h3,h4,h5,h6,h7⟩:=mA (d_ (hT t _ heq)).2.2
  exact⟨te,i,z,h1,h3,h4,h6,h7⟩
 ·cases h
theorem qQ(hT:bJ P T){t:TypeId}{e:Ty}(h:ia T t=some e)(ad:Addr)(len cap:Nat)(k:IntKind)(n:Int)(h0:0<=n)(h1:n<(len:Int)) :
 (Instr.indexAt t (.slice (some ad) len cap) (.int k n)).run P w = .ok (.pointer (some (ad.add (n.toNat*e.size)))) w:=by
 obtain⟨te,i,z,h2,h3,h4,_⟩:=uk hT h
 simp[Instr.indexAt,run_underlying h2,asIntOf,h0,h1,run_sizeOf h3,h4]
theorem uz(hT:bJ P T){t:TypeId}{e:Ty}(he:ia T t=some e.de){m h:Nat}{v:Value}{k:IntKind}{n:Int}(hr:dT V w m e h v)(h0:0<=n)(h1:n<(h:Int)) :
 V.has m/\(Instr.indexAt t v (.int k n)).run P w = .ok (.pointer (some ⟨V.aI m,n.toNat*e.size+0,none⟩)) w:=by
 rcases hr with ⟨_,_,rfl⟩|⟨hh,cap,ay,el,rfl,_⟩
 ·omega
 ·refine⟨hh,?_⟩
  rw[qQ hT he _ _ _ _ _ h0 h1,iQ,cK]
  simp
theorem Gp(hT:bJ P T)(hl:iz V hp lk w){t:TypeId}{x i:C}{r:QR}{v u:Value}(h:Ak T lk t x i=some r)(cP:∀ p,r.ob=some p->p)(hx:C.ok V hp w x v)(hi:C.ok V hp w i u) :
 eC P V hp w r (Instr.indexAt t v u):=by
 unfold Ak at h
 split at h
 ·rename_i e' fr e xs k n he
  split at h
  ·rename_i jV
   subst jV
   injection h with h;subst h
   obtain⟨h0,h1⟩:=cP _ rfl
   obtain⟨rfl,_⟩:=ok_int hi
   obtain⟨a,cap,hv,h2,h3,h4⟩:=hx
   simp only[List.cons.injEq,and_true] at hv
   subst hv
   have aK:n.toNat<xs.length:=by omega
   obtain⟨ad,rfl,h5,h6,es,h7,h8,h9⟩:=h4 n.toNat aK
   obtain⟨b,o,sp⟩:=ad
   simp only at h5
   subst h5
   refine⟨rfl,rfl,_,qQ hT he _ _ _ _ _ h0 h1,b,o+n.toNat*e.size,by rw[iQ,cK];rfl,h6,es,h7,h8,?_⟩
   rw[rl _ aK]
   exact h9
  ·cases h
 ·rename_i e' fr wh e b0 xs k n he
  split at h
  ·rename_i jV
   subst jV
   injection h with h;subst h
   obtain⟨h0,h1⟩:=cP _ rfl
   obtain⟨rfl,_⟩:=ok_int hi
   obtain⟨a,cap,hv,h2,h3,h4⟩:=vF hx
   simp only[List.cons.injEq,and_true] at hv
   subst hv
   have aK:n.toNat<xs.length:=by omega
   obtain⟨ad,rfl,h5,h6,es,h7,h8,h9⟩:=h4 n.toNat aK
   obtain⟨b,o,sp⟩:=ad
   simp only at h5
   subst h5
   refine⟨rfl,rfl,_,qQ hT he _ _ _ _ _ h0 h1,b,o+n.toNat*e.size,by rw[iQ,cK];rfl,h6,es,h7,h8,?_⟩
   rw[rl _ aK]
   exact h9
  ·cases h
 ·rename_i e' m k n he
  split at h
  ·rename_i fr e xs hm
   split at h
   ·rename_i jV
    subst jV
    injection h with h;subst h
    obtain⟨h0,h1⟩:=cP _ rfl
    obtain⟨rfl,_⟩:=ok_int hi
    obtain⟨aW,e2,bI,h2,h3⟩:=hx
    obtain⟨e1,_⟩:=hl m (by rw[hm];rfl)
    rw[<-e1,hm] at h2
    injection h2 with e3 e4 e5
    subst e3;subst e4;cases e5
    obtain⟨h4,h5⟩:=uz (k:=k) hT he h3 h0 h1
    exact⟨rfl,rfl,_,h5,h4,fr,e,xs,by rw[<-e1];exact hm,by omega,rfl⟩
   ·cases h
  ·cases h
 ·rename_i e' m hh k n he
  split at h
  ·rename_i fr e xs hm
   split at h
   ·rename_i jV
    subst jV
    injection h with h;subst h
    obtain⟨h0,h1⟩:=cP _ rfl
    obtain⟨rfl,_⟩:=ok_int hi
    obtain⟨aW,e2,bI,h2,h6,h3⟩:=hx
    obtain⟨e1,_⟩:=hl m (by rw[hm];rfl)
    rw[<-e1,hm] at h2
    injection h2 with e3 e4 e5
    subst e3;subst e4;cases e5
    obtain⟨h4,h5⟩:=uz (k:=k) hT he h3 h0 h1
    exact⟨rfl,rfl,_,h5,h4,fr,e,xs,by rw[<-e1];exact hm,by omega,rfl⟩
   ·cases h
  ·cases h
 ·cases h
theorem Gn(hT:bJ P T)(hl:iz V hp lk w){t:TypeId}{m i0:Nat}{kk:IntKind}{k:Int}{r:QR}{v:Value}(h:Ai T lk t m i0 k=some r)(cP:∀ p,r.ob=some p->p)(hx:C.ok V hp w (.dR m i0 0) v) :
 eC P V hp w r (Instr.indexAt t v (.int kk k)):=by
 unfold Ai at h
 split at h
 ·rename_i len te es n cF sz jJ z ty lL ht
  split at h
  ·rename_i fr e xs hm
   split at h
   ·rename_i jV
    subst jV
    injection h with h;subst h
    obtain⟨h0,h1,h2⟩:=cP _ rfl
    obtain⟨_,a1,⟨i,a2,a3⟩,a4,a5,a6,a7,a8⟩:=Fa (hT t _ ht) rfl
    obtain⟨hh,aW,e2,bI,g1,g2,rfl⟩:=hx
    obtain⟨e1,_⟩:=hl m (by rw[hm];rfl)
    have HC:hp m = .row fr e xs:=by rw[<-e1];exact hm
    rw[HC] at g1
    injection g1 with g3 g4 g5
    subst g3;subst g4;cases g5
    have Cy:es/e.size*e.size=es:=by
     have:=Nat.div_add_mod es e.size
     rw[a7,Nat.add_zero,Nat.mul_comm] at this
     exact this
    have lu:0<es:=by
     rcases Nat.eq_zero_or_pos es with h3|h3
     ·exfalso
      rw[h3,Nat.mul_zero] at a6
      have:=e.size_pos
      rcases Nat.mul_eq_zero.1 a6 with h4|h4<;>omega
     ·exact h3
    have hd:1<=es/e.size:=by
     rcases Nat.eq_zero_or_pos (es/e.size) with h3|h3
     ·rw[h3,Nat.zero_mul] at Cy;omega
     ·exact h3
    refine⟨rfl,rfl,.pointer (some ⟨V.aI m,(i0+k.toNat*(es/e.size))*e.size+0,none⟩),?_,hh,fr,e,xs,HC,?_,rfl⟩
    ·simp only[Instr.indexAt,asIntOf,Sem.run_bind,Sem.run_pure,Result.andThen_ok,run_underlying a1,Instr.sureAddr]
     rw[if_pos ⟨h0,h1⟩]
     simp only[Sem.run_bind,run_sizeOf a2,a3,Result.andThen_ok,Sem.run_pure,iQ]
     have Qq:i0*e.size+0+k.toNat*es=(i0+k.toNat*(es/e.size))*e.size+0:=by rw[Nat.add_mul,Nat.mul_assoc,Cy];omega
     rw[Qq]
    ·rw[Nat.add_mul,Nat.one_mul] at h2
     omega
   ·cases h
  ·cases h
 ·cases h
theorem Aj(hT:bJ P T)(hl:iz V hp lk w){t:TypeId}{x i:C}{r:QR}{v u:Value}(h:sY T lk t x i=some r)(cP:∀ p,r.ob=some p->p)(hx:C.ok V hp w x v)(hi:C.ok V hp w i u) :
 eC P V hp w r (Instr.indexAt t v u):=by
 unfold sY at h
 split at h
 ·obtain⟨rfl,_⟩:=ok_int hi
  exact Gn hT hl h cP hx
 ·exact Gp hT hl h cP hx hi
end
end Go.SX
/- Cuts, composites, lengths. No condition. -/
namespace Go.SX
open Go.RowKit
set_option linter.unusedVariables false
set_option linter.unusedSimpArgs false
section
variable {P : Program} {T : bT} {V : Vl} {hp lk : Nat → az} {w : World}
theorem C5{Z:Nat->Prop}{e:Ty}{v:Value}{xs:List e.den}(h:aH Z w (.sl e) [v] xs){l h':Nat}(h0:l<=h')(h1:h'<=xs.length) :
 ∃ a cap,v = .slice a xs.length cap/\xs.length<=cap/\aH Z w (.sl e) [.slice (if cap=l then a else a.map (·.add (l*e.size))) (h'-l) (cap-l)] ((xs.take h').drop l):=by
 obtain⟨a,cap,hv,h2,h3,h4⟩:=h
 simp only[List.cons.injEq,and_true] at hv
 have hlen:((xs.take h').drop l).length=h'-l:=by rw[List.length_drop,List.length_take];omega
 refine⟨a,cap,hv,h2,_,cap-l,by rw[hlen],by rw[hlen];omega,by rw[hlen];omega,fun i hi=>?_⟩
 rw[hlen] at hi
 obtain⟨ad,rfl,h5,h6,es,h7,h8,h9⟩:=h4 (l+i) (by omega)
 obtain⟨b,o,sp⟩:=ad
 simp only at h5
 subst h5
 rw[if_neg (by omega)]
 refine⟨⟨b,o+l*e.size,none⟩,by rw[Option.map_some,iQ],rfl,h6,es,h7,?_,?_⟩
 ·rw[Nat.add_mul] at h8
  rw[Nat.add_assoc];exact h8
 ·simp only[List.getElem_drop,List.getElem_take]
  exact h9
theorem rR(hT:bJ P T){t:TypeId}{e:Ty}(he:ia T t=some e)(a:Option Addr)(len cap:Nat)(lo hi:Option Value){l h':Nat}
 (hl:lo=none/\l=0\/∃ k,lo=some (.int k (l:Int))) (hh:hi=none/\h'=len\/∃ k,hi=some (.int k (h':Int))) (h0:l<=h') (h1:h'<=cap) :
 (Instr.sliceAt t (.slice a len cap) lo hi none).run P w = .ok (.slice (if cap=l then a else a.map (·.add (l*e.size))) (h'-l) (cap-l)) w:=by
 obtain⟨te,i,z,h2,h3,h4,_⟩:=uk hT he
 have c1:(h':Int)<=(cap:Int):=by omega
 have c2:(l:Int)<=(h':Int):=by omega
 have c3:(0:Int)<=(h':Int):=by omega
 have c4:(0:Int)<=(l:Int):=by omega
 rcases hl with ⟨rfl,rfl⟩|⟨k,rfl⟩<;>rcases hh with ⟨rfl,rfl⟩|⟨k',rfl⟩ <;>
  simp[Instr.sliceAt,Instr.slice,Instr.sliceBounds,Instr.sliceBound,run_underlying h2,asIntOf,run_sizeOf h3,h4,c1,c2,c3,c4,h0,h1]<;>first|done|(intros;omega)|omega
theorem gR{NH:Int}{o:Option S}{n:Int}(h:kR NH o=some n){ov:Option Value}(ho:∀ s v,o=some s->ov=some v->S.ok V hp w s v)(Sk:o=none↔ov=none) :
 (o=none/\ov=none/\n=NH)\/(∃ k,ov=some (.int k n)):=by
 unfold kR at h
 split at h
 ·injection h with h;exact .inl ⟨rfl,Sk.1 rfl,h.symm⟩
 ·rename_i k m
  injection h with h;subst h
  cases ov with
  | none=>exact absurd (Sk.2 rfl) (by simp)
  | some v=>exact .inr ⟨k,by rw[(ok_int (V:=V) (hp:=hp) (w:=w) (ho _ _ rfl rfl)).1]⟩
 ·cases h
theorem yE{m h:Nat}{e:Ty}{v:Value}(hr:dT V w m e h v):∃ a cap,v = .slice a h cap/\h<=cap/\∀ h',h'<=h->dT V w m e h' (.slice (if cap=0 then a else a.map (·.add (0*e.size))) (h'-0) (cap-0)):=by
 rcases hr with ⟨h1,rfl,rfl⟩|⟨h1,cap,ay,el,rfl,h3,h4,h5⟩
 ·exact⟨none,0,rfl,Nat.le_refl _,fun h' hh=>by have:h'=0:=by omega
                                               subst this;exact .inl ⟨h1,rfl,rfl⟩⟩
 ·refine⟨_,cap,rfl,h5,fun h' hh=>.inr ⟨h1,cap,ay,el,?_,h3,h4,by omega⟩⟩
  have:(if cap=0 then (some ⟨V.aI m,0,none⟩:Option Addr) else (some (⟨V.aI m,0,none⟩:Addr)).map (·.add (0*e.size)))=some ⟨V.aI m,0,none⟩:=by
   split
   ·rfl
   ·simp[Addr.add]
  rw[this];simp
theorem Jr(hT:bJ P T)(hl:iz V hp lk w){t:TypeId}{x:C}{lo hi:Option S}{r:QR}{v:Value}{lv hv:Option Value}(h:EV T lk t x lo hi=some r)(cP:∀ p,r.ob=some p->p)(hx:C.ok V hp w x v)
 (wE:∀ s v,lo=some s->lv=some v->S.ok V hp w s v) (DB:lo=none↔lv=none) (KI:∀ s v,hi=some s->hv=some v->S.ok V hp w s v) (Dz:hi=none↔hv=none) :
 eC P V hp w r (Instr.sliceAt t v lv hv none):=by
 have mk:∀ {n:Int} {m:Nat} {o:Option S} {ov:Option Value} {d:Nat},(o=none/\ov=none/\n=(d:Int))\/(∃ k,ov=some (.int k n))->0<=n->m=n.toNat->(ov=none/\m=d\/∃ k,ov=some (.int k (m:Int))):=by
  intro n m o ov d hc h0 hm
  rcases hc with ⟨_,h1,h2⟩|⟨k,h1⟩
  ·exact .inl ⟨h1,by omega⟩
  ·exact .inr ⟨k,by rw[h1,hm,Int.toNat_of_nonneg h0]⟩
 unfold EV at h
 split at h
 ·rename_i e' fr e xs he
  split at h
  ·rename_i l h' tM yG
   split at h
   ·rename_i jV
    subst jV
    injection h with h;subst h
    obtain⟨h0,h1,h2⟩:=cP _ rfl
    have bl:=gR (V:=V) (hp:=hp) (w:=w) tM wE DB
    have bh:=gR (V:=V) (hp:=hp) (w:=w) yG KI Dz
    obtain⟨a,cap,rfl,h3,h4⟩:=C5 (l:=l.toNat) (h':=h'.toNat) hx (by omega) (by omega)
    have dD:=rR (P:=P) (w:=w) (l:=l.toNat) (h':=h'.toNat) hT he a _ cap lv hv (mk (d:=0) bl h0 rfl) (mk (d:=xs.length) bh (by omega) rfl) (by omega) (by omega)
    rw[cK] at dD
    exact⟨rfl,rfl,_,dD,h4⟩
   ·cases h
  ·cases h
 ·rename_i e' fr wh e b0 xs he
  split at h
  ·rename_i l h' tM yG
   split at h
   ·rename_i jV
    subst jV
    injection h with h;subst h
    obtain⟨h0,h1,h2⟩:=cP _ rfl
    have bl:=gR (V:=V) (hp:=hp) (w:=w) tM wE DB
    have bh:=gR (V:=V) (hp:=hp) (w:=w) yG KI Dz
    have nf:aH (V.Z fr) w (.sl e) [v] xs:=hx.1
    obtain⟨a,cap,rfl,h3,h4⟩:=C5 (l:=l.toNat) (h':=h'.toNat) nf (by omega) (by omega)
    have dD:=rR (P:=P) (w:=w) (l:=l.toNat) (h':=h'.toNat) hT he a _ cap lv hv (mk (d:=0) bl h0 rfl) (mk (d:=xs.length) bh (by omega) rfl) (by omega) (by omega)
    rw[cK] at dD
    exact⟨rfl,rfl,_,dD,h4⟩
   ·cases h
  ·cases h
 ·rename_i e' m he
  split at h
  ·rename_i fr e xs hm
   obtain⟨e1,e2⟩:=hl m (by rw[hm];rfl)
   obtain⟨aW,e3,bI,k2,k3⟩:=hx
   rw[<-e1,hm] at k2
   injection k2 with g3 g4 g5
   subst g3;subst g4;cases g5
   rw[hm] at e2
   split at h
   ·rename_i h' yG
    split at h
    ·rename_i jV
     subst jV
     injection h with h;subst h
     obtain⟨h0,h1⟩:=cP _ rfl
     have bh:=gR (V:=V) (hp:=hp) (w:=w) yG KI Dz
     have HD:lv=none:=DB.1 rfl
     obtain⟨a,cap,rfl,h3,h4⟩:=yE k3
     have dD:=rR (P:=P) (w:=w) (l:=0) (h':=h'.toNat) hT he a _ cap lv hv (.inl ⟨HD,rfl⟩) (mk (d:=xs.length) bh h0 rfl) (by omega) (by omega)
     rw[cK] at dD
     refine⟨rfl,rfl,_,dD,fr,e,xs,by rw[<-e1];exact hm,by omega,h4 _ (by omega)⟩
    ·cases h
   ·rename_i U9 h' yG
    split at h
    ·rename_i l tM
     split at h
     ·rename_i jV
      subst jV
      injection h with h;subst h
      obtain⟨h0,h1,h2⟩:=cP _ rfl
      have bl:=gR (V:=V) (hp:=hp) (w:=w) tM wE DB
      have bh:=gR (V:=V) (hp:=hp) (w:=w) yG KI Dz
      have fg:=vd e2 k3 (Nat.le_refl _)
      rw[List.take_length] at fg
      obtain⟨a,cap,rfl,h3,h4⟩:=C5 (l:=l.toNat) (h':=h'.toNat) fg (by omega) (by omega)
      have dD:=rR (P:=P) (w:=w) (l:=l.toNat) (h':=h'.toNat) hT he a _ cap lv hv (mk (d:=0) bl h0 rfl) (mk (d:=xs.length) bh (by omega) rfl) (by omega) (by omega)
      rw[cK] at dD
      refine⟨rfl,rfl,_,dD,⟨fr,e,xs,by rw[<-e1];exact hm⟩,?_⟩
      exact h4.mono (fun b hb=>hb.elim (fun h=>.inl (Vl.eD h)) .inr) (fun _ _=>rfl)
     ·cases h
    ·cases h
   ·cases h
  ·cases h
 ·rename_i e' m k he
  split at h
  ·rename_i fr e xs hm
   obtain⟨e1,e2⟩:=hl m (by rw[hm];rfl)
   obtain⟨aW,e3,bI,k2,k3,k4⟩:=hx
   rw[<-e1,hm] at k2
   injection k2 with g3 g4 g5
   subst g3;subst g4;cases g5
   rw[hm] at e2
   split at h
   ·rename_i h' yG
    split at h
    ·rename_i jV
     subst jV
     injection h with h;subst h
     obtain⟨h0,h1⟩:=cP _ rfl
     have bh:=gR (V:=V) (hp:=hp) (w:=w) yG KI Dz
     have HD:lv=none:=DB.1 rfl
     obtain⟨a,cap,rfl,h3,h4⟩:=yE k4
     have dD:=rR (P:=P) (w:=w) (l:=0) (h':=h'.toNat) hT he a _ cap lv hv (.inl ⟨HD,rfl⟩) (mk (d:=k) bh h0 rfl) (by omega) (by omega)
     rw[cK] at dD
     refine⟨rfl,rfl,_,dD,fr,e,xs,by rw[<-e1];exact hm,by omega,h4 _ (by omega)⟩
    ·cases h
   ·cases h
  ·cases h
 ·cases h
theorem Ld{n:Nat}(h:n<=cQ):i64.min<=(n:Int)/\(n:Int)<=i64.max:=by
 have h1:i64.min = -9223372036854775808:=by decide
 have h2:i64.max=9223372036854775807:=by decide
 rw[h1,h2]
 unfold cQ at h
 omega
theorem EZ{Z:Nat->Prop}{e:Ty}{v:Value}{xs:List e.den}(h:aH Z w (.sl e) [v] xs):∃ a cap,v = .slice a xs.length cap/\xs.length<=cQ:=by
 obtain⟨a,cap,hv,h2,h3,h4⟩:=h
 simp only[List.cons.injEq,and_true] at hv
 exact⟨a,cap,hv,h3⟩
theorem vO(he:∀ n,(hp n).ok V hp w n){m h:Nat}{fr:Bool}{e:Ty}{xs:List e.den}{v:Value}(hm:hp m = .row fr e xs)(hr:dT V w m e h v)(hh:h<=xs.length):∃ a cap,v = .slice a h cap/\h<=cQ:=by
 have h1:=he m
 rw[hm] at h1
 rcases hr with ⟨_,rfl,rfl⟩|⟨k1,cap,ay,el,rfl,k3,k4,k5⟩
 ·exact⟨none,0,rfl,Nat.zero_le _⟩
 ·rcases h1 with ⟨g1,_⟩|⟨_,cS,kW,g2,g3,_⟩
  ·exact absurd k1 g1
  ·exact⟨_,cap,rfl,by omega⟩
theorem O0(he:∀ n,(hp n).ok V hp w n)(hl:iz V hp lk w){x:C}{n:Int}{v:Value}(h:M3 lk x=some n)(hx:C.ok V hp w x v):∃ a k cap,v = .slice a k cap/\n=(k:Int)/\k<=cQ:=by
 unfold M3 at h
 split at h
 ·injection h with h;subst h
  obtain⟨a,cap,h1,h2⟩:=EZ hx
  exact⟨a,_,cap,h1,rfl,h2⟩
 ·injection h with h;subst h
  obtain⟨a,cap,h1,h2⟩:=EZ hx.2
  exact⟨a,_,cap,h1,rfl,h2⟩
 ·rename_i m
  split at h
  ·rename_i fr e xs hm
   injection h with h;subst h
   obtain⟨aW,e',bI,h1,h2⟩:=hx
   obtain⟨e1,_⟩:=hl m (by rw[hm];rfl)
   rw[<-e1,hm] at h1
   injection h1 with g3 g4 g5
   subst g3;subst g4;cases g5
   obtain⟨a,cap,h3,h4⟩:=vO he (e1.symm.trans hm) h2 (Nat.le_refl _)
   exact⟨a,_,cap,h3,rfl,h4⟩
  ·cases h
 ·rename_i m k
  injection h with h;subst h
  obtain⟨aW,e',bI,h1,h3,h2⟩:=hx
  obtain⟨a,cap,h5,h4⟩:=vO he h1 h2 h3
  exact⟨a,_,cap,h5,rfl,h4⟩
 ·injection h with h;subst h
  obtain⟨a,cap,h1,h2⟩:=EZ (vF hx)
  exact⟨a,_,cap,h1,rfl,h2⟩
 ·injection h with h;subst h
  rw[hx.1]
  exact⟨none,0,0,rfl,rfl,Nat.zero_le _⟩
 ·cases h
theorem M4(hT:bJ P T)(he:∀ n,(hp n).ok V hp w n)(hl:iz V hp lk w){t ty:TypeId}{x:C}{n:Int}{v:Value}(h:IU T lk t x=some n)(hx:C.ok V hp w x v) :
 (Builtin.len_ #[t] ty #[v]).run P w = .ok (.int .i64 n) w/\i64.min<=n/\n<=i64.max:=by
 unfold IU at h
 split at h
 ·rename_i sz jJ z wZ lL s heq
  injection h with h;subst h
  have hk:=(d_ (hT t _ heq)).2.2
  have hu:P.underlying t=some .string:=by
   unfold gn at hk
   simp only at hk
   split at hk
   ·assumption
   ·cases hk
  obtain⟨rfl,hs⟩:=hx
  refine⟨by simp[Builtin.len_,run_underlying hu,goInt],?_⟩
  have h1:i64.min = -9223372036854775808:=by decide
  have h2:i64.max=9223372036854775807:=by decide
  have h3:s.size<=maxLen:=hs
  unfold maxLen at h3
  rw[h1,h2]
  omega
 ·rename_i e es eb cF sz jJ z wZ lL heq
  obtain⟨hu,_⟩:=mA (d_ (hT t _ heq)).2.2
  obtain⟨a,k,cap,rfl,rfl,hk⟩:=O0 he hl h hx
  exact⟨by simp[Builtin.len_,run_underlying hu,goInt],Ld hk⟩
 ·rename_i heq
  injection h with h;subst h
  obtain⟨hu,_⟩:=uT (d_ (hT t _ heq)).2.2
  obtain⟨cap,⟨rfl,hl⟩,_⟩:=hx
  refine⟨by simp[Builtin.len_,run_underlying hu,goInt],?_⟩
  have h1:i64.min = -9223372036854775808:=by decide
  have h2:i64.max=9223372036854775807:=by decide
  rw[h1,h2]
  omega
 ·cases h
theorem yv{t:TypeId}(ht:Program.underlying P t=some .bool)(a b:Bool)(w:World):(Op.equal t (.bool a) (.bool b)).run P w = .ok (a == b) w:=by
 unfold Op.equal Op.maxDepth
 rw[Op.equalIn]
 rw[Sem.run_bind,run_underlying ht,Result.andThen_ok]
 rfl
theorem bytes_beq(a b:ByteArray):(a.toList == b.toList)=decide (a=b):=by
 rw[ByteArray.toList_eq,ByteArray.toList_eq]
 by_cases h:a=b
 ·subst h;simp
 ·rw[decide_eq_false h]
  have:¬a.data.toList=b.data.toList:=fun e=>h (by
   cases a;cases b
   simp only[ByteArray.mk.injEq]
   exact Array.toList_inj.1 e)
  simpa using this
theorem LK(hT:bJ P T){t:TypeId}{op:BinOp}{x y:C}{r:QR}{u v:Value}(h:Jp T t op x y=some r)(cP:∀ p,r.ob=some p->p)(hx:C.ok V hp w x u)(hy:C.ok V hp w y v)(ox oy:Operand) :
 eC P V hp w r (do eqGuard op t ox oy u v;binOp op t u v):=by
 unfold Jp at h
 split at h
 ·rename_i r' hr
  injection h with h;subst h
  exact Nd hr cP hx hy t ox oy
 ·split at h
  ·rename_i a b ht ha hb hz
   injection h with h;subst h
   have e1:=(gQ (by assumption) hx:u = .bool _)
   have e2:=(gQ (by assumption) hy:v = .bool _)
   subst e1;subst e2
   have hk:=(d_ (hT t _ (by assumption))).2.2
   have hu:Program.underlying P t=some .bool:=by
    unfold gn at hk
    simp only at hk
    split at hk<;>first|assumption|cases hk
   exact⟨rfl,rfl,.bool (a == b),by simp[eqGuard,binOp,yv hu],rfl,trivial⟩
  ·rename_i a b ht ha hb hz
   injection h with h;subst h
   have e1:=(gQ (by assumption) hx:u = .bool _)
   have e2:=(gQ (by assumption) hy:v = .bool _)
   subst e1;subst e2
   have hk:=(d_ (hT t _ (by assumption))).2.2
   have hu:Program.underlying P t=some .bool:=by
    unfold gn at hk
    simp only at hk
    split at hk<;>first|assumption|cases hk
   exact⟨rfl,rfl,.bool (!(a == b)),by simp[eqGuard,binOp,yv hu],rfl,trivial⟩
  ·split at h
   ·rename_i sa sb g1 g2 g3 g4 g5 g6
    injection h with h;subst h
    obtain⟨e1,_⟩:=je (V:=V) (hp:=hp) (w:=w) (by assumption) hx
    obtain⟨e2,_⟩:=je (V:=V) (hp:=hp) (w:=w) (by assumption) hy
    subst e1;subst e2
    exact⟨rfl,rfl,.bool (decide (sa=sb)),by simp only[eqGuard,binOp,Op.stringOp,bytes_beq];rfl,rfl,trivial⟩
   ·rename_i sa sb g1 g2 g3 g4 g5 g6
    injection h with h;subst h
    obtain⟨e1,_⟩:=je (V:=V) (hp:=hp) (w:=w) (by assumption) hx
    obtain⟨e2,_⟩:=je (V:=V) (hp:=hp) (w:=w) (by assumption) hy
    subst e1;subst e2
    exact⟨rfl,rfl,.bool (!decide (sa=sb)),by simp only[eqGuard,binOp,Op.stringOp,bytes_beq];rfl,rfl,trivial⟩
   ·cases h
theorem Iz{us vs:Array Value}(d:Nat):∀(fs:List Field) (o:Nat) (ks:List Bool) (xs ys:List C) (b:Bool),yu P o fs ks=true->r8 ks xs ys=some b →
 (∀(j:Nat) c,xs[j]? = some c->∃ u,us[o+j]? = some u/\C.ok V hp w c u)->(∀(j:Nat) c,ys[j]? = some c->∃ u,vs[o+j]? = some u/\C.ok V hp w c u) →
 (Op.eqFields (d+1) us vs fs).run P w = .ok b w:=by
 intro fs
 induction fs with
 | nil =>
   intro o ks xs ys b h hq _ _
   cases ks with
   | nil =>
     unfold r8 at hq
     split at hq<;>first|(rename_i h0 _ _;cases h0;done)|(rename_i h0;cases h0;done)|skip
     ·injection hq with hq;subst hq;rfl
     all_goals first|(cases hq;done)|(simp_all;done)
   | cons k ks=>cases h
 | cons f fs ih =>
   intro o ks xs ys b h hq hx hy
   cases ks with
   | nil=>cases h
   | cons k ks =>
     unfold yu at h
     simp only[Bool.and_eq_true,bne_iff_ne,ne_eq,beq_iff_eq] at h
     obtain⟨⟨⟨h1,h2⟩,h3⟩,h4⟩:=h
     have get:∀ {zs:List C} {ws:Array Value} {z:C} {zr:List C},zs=z::zr->(∀(j:Nat) c,zs[j]? = some c->∃ u,ws[o+j]? = some u/\C.ok V hp w c u) →
      (∃ u,ws[f.offset]? = some u/\C.ok V hp w z u)/\∀(j:Nat) c,zr[j]? = some c->∃ u,ws[o+1+j]? = some u/\C.ok V hp w c u:=by
      intro zs ws z zr e hz
      subst e
      refine⟨by rw[h2];exact hz 0 z rfl,fun j c hj=>?_⟩
      obtain⟨u,e1,e2⟩:=hz (j+1) c (by simpa using hj)
      exact⟨u,by rw[<-e1];congr 1;omega,e2⟩
     have Cx:∀ {ws:Array Value} {u:Value},ws[f.offset]? = some u->(part f.type ws f.offset).run P w = .ok u w:=by
      intro ws u hu
      split at h3
      ·rename_i hf;simp[part,np hf,hu,jm]
      ·rename_i hf;simp[part,np hf,hu,jm]
      ·cases h3
     unfold r8 at hq
     split at hq
     ·rename_i h0;cases h0
     ·rename_i Up kk a bI U8 b' FO e1
      injection e1 with e1 Km
      subst e1;subst Km;
      split at hq
      ·rename_i hk
       subst hk
       rw[dB] at hq
       cases hr:r8 ks bI FO with
       | none=>rw[hr] at hq;cases hq
       | some r =>
         rw[hr] at hq
         injection hq with hq
         obtain⟨⟨u,g1,g2⟩,g3⟩:=get rfl hx
         obtain⟨⟨v,g4,g5⟩,g6⟩:=get rfl hy
         obtain⟨rfl,_⟩:=ok_int g2
         obtain⟨rfl,_⟩:=ok_int g5
         have MR:=ih (o+1) ks bI FO r h4 hr g3 g6
         have hu:∃ k,P.underlying f.type=some (.int k):=by
          split at h3
          ·exact⟨_,‹_›⟩
          ·cases h3
          ·cases h3
         obtain⟨k0,hu⟩:=hu
         simp only[Op.eqFields]
         rw[if_pos h1]
         simp only[Sem.run_bind,Cx g1,Cx g4,Result.andThen_ok,Op.equalIn,run_underlying hu,if_true,Sem.run_pure,Sem.run_ite]
         subst hq
         by_cases ib:a=b'
         ·simp[ib,MR]
         ·simp[ib]
      ·cases hq
     ·rename_i Up x bI y FO e1
      injection e1 with e1 Km
      subst e1;subst Km
      split at hq
      ·rename_i a b' ha hb
       rw[dB] at hq
       cases hr:r8 ks bI FO with
       | none=>rw[hr] at hq;cases hq
       | some r =>
         rw[hr] at hq
         injection hq with hq
         obtain⟨⟨u,g1,g2⟩,g3⟩:=get rfl hx
         obtain⟨⟨v,g4,g5⟩,g6⟩:=get rfl hy
         obtain rfl:=gQ ha g2
         obtain rfl:=gQ hb g5
         have MR:=ih (o+1) ks bI FO r h4 hr g3 g6
         have hu:P.underlying f.type=some .bool:=by
          split at h3
          ·cases h3
          ·assumption
          ·cases h3
         simp only[Op.eqFields]
         rw[if_pos h1]
         simp only[Sem.run_bind,Cx g1,Cx g4,Result.andThen_ok,Op.equalIn,run_underlying hu,Sem.run_pure,Sem.run_ite]
         subst hq
         by_cases ib:a=b'
         ·simp[ib,MR]
         ·simp[ib]
      ·cases hq
     ·cases hq
theorem LJ(hT:bJ P T){t:TypeId}{op:BinOp}{xs ys:List C}{r:QR}{us vs:Array Value}(h:Jo T t op xs ys=some r)(hx:br V hp w xs us.toList)(hy:br V hp w ys vs.toList)(ox oy:Operand) :
 eC P V hp w r (do eqGuard op t ox oy (.agg us) (.agg vs);binOp op t (.agg us) (.agg vs)):=by
 unfold Jo at h
 rw[sU] at h
 cases ht:T t with
 | none=>rw[ht] at h;cases h
 | some ti =>
   rw[ht] at h
   simp only[Option.bind_some] at h
   cases hk:ti.eq with
   | none=>rw[hk] at h;cases h
   | some ks =>
     rw[hk] at h
     simp only at h
     have he:=RR (hT t _ ht) hk
     unfold PT at he
     split at he
     ·rename_i fs hu
      simp only[Bool.and_eq_true,Bool.not_eq_true'] at he
      obtain⟨⟨h1,h2⟩,h3⟩:=he
      have R8:P.fieldsOf t=fs:=by unfold Program.fieldsOf;rw[hu]
      have each:∀ {zs:List C} {ws:Array Value},br V hp w zs ws.toList->∀(j:Nat) c,zs[j]? = some c->∃ u,ws[0+j]? = some u/\C.ok V hp w c u:=by
       intro zs ws ho j c hj
       have aK:=(List.getElem?_eq_some_iff.1 hj).1
       have xu:j<ws.size:=by have:=ho.1;simp at this;omega
       have hv:ws[j]? = some ws[j]:=Array.getElem?_eq_getElem xu
       exact⟨ws[j],by rw[Nat.zero_add];exact hv,ho.2 j c _ hj (by simp)⟩
      have key:∀ b,r8 ks xs ys=some b->(Op.equalIn 10000 t (.agg us) (.agg vs)).run P w = .ok b w:=by
       intro b hb
       rw[show (10000:Nat)=9999+1 from rfl,run_equalIn_agg w 9999 t us vs (by rw[R8];exact hu) h1,R8]
       exact Iz 9998 fs.toList 0 ks xs ys b h3 hb (each hx) (each hy)
      split at h
      ·rename_i b hb
       injection h with h;subst h
       exact⟨rfl,rfl,.bool b,by rw[Sem.run_bind,run_eqGuard_agg w _ t ox oy us vs h2,Result.andThen_ok,run_eql_struct,key b hb];rfl,rfl,trivial⟩
      ·rename_i b hb
       injection h with h;subst h
       exact⟨rfl,rfl,.bool (!b),by rw[Sem.run_bind,run_eqGuard_agg w _ t ox oy us vs h2,Result.andThen_ok,run_neq_struct,key b hb];rfl,rfl,trivial⟩
      ·cases h
     ·cases he
theorem cW:∀ e:Ty,e.hY.length=e.size
 | .int _=>rfl
 | .bool=>rfl
 | .str=>rfl
 | .sl _=>rfl
 | .st t=>cW t
 | .pr a b=>by
   show (a.hY++b.hY).length=a.size+b.size
   rw[List.length_append,cW a,cW b]
 | .ptr _=>rfl
 | .bS _ _=>rfl
 | .gs _ _=>rfl
theorem M6(z:Array Value)(n k:Nat)(h:k<n):(madeCells z n)[k]? = some z[k%z.size]! := by
 unfold madeCells
 rw[Array.getElem?_map]
 have:(Array.range n)[k]? = some k:=by rw[Array.getElem?_range];simp[h]
 rw[this];rfl
theorem Al(hT:bJ P T){base:Nat}{M:LM}{w0:World}(m:Mem base M w0 V hp w){nx:Nat}(hd:hp nx = .dead){t:TypeId}{l c:C}{r:QR}{u v:Value}(h:ou T nx t l c=some r)(cP:∀ p,r.ob=some p->p)
 (hu:C.ok V hp w l u) (hv:C.ok V hp w c v):∃ x w' V',(Instr.makeSlice t u v).run P w = .ok x w'/\Good base M w0 V hp w nx r.res r.new r.hy x w' V':=by
 unfold ou at h
 split at h
 ·rename_i te es eb e sz jJ z0 wZ lL n mm heq
  split at h
  ·rename_i iF
   rw[Bool.and_eq_true] at iF
   obtain⟨iF,nY⟩:=iF
   replace iF:=of_decide_eq_true iF
   injection h with h;subst h
   obtain⟨h0,h1,h2⟩:=cP _ rfl
   obtain⟨rfl,_⟩:=ok_int hu
   obtain⟨rfl,QJ⟩:=ok_int hv
   obtain⟨g1,g2,i,z,g3,g4,g5,g6,g7⟩:=mA (d_ (hT t _ heq)).2.2
   have hb:(i.bytes:Int)*mm<=281474976710656:=by rw[g5,Int.mul_comm];omega
   have R2:mm<=9223372036854775807:=QJ.2
   have UI:mm<=140737488355328:=by
    have:mm*1<=mm*(eb:Int):=Int.mul_le_mul_of_nonneg_left (by omega) (by omega)
    omega
   have dD:=run_make (P:=P) w t te i z g1 g3 g6 .i64 .i64 n mm h0 h1 hb R2
   rw[g4] at dD
   have px:z.cells.size=e.size:=by rw[g7];simpa using cW e
   obtain⟨V',hg⟩:=jw m hd (madeCells z.cells (mm.toNat*e.size)) te (.row true e (List.replicate n.toNat e.en)) (.c (.own nx)) (.slice (some ⟨w.heap.size,0,none⟩) n.toNat mm.toNat) (fun h=>h)
    (fun V' aJ w' x k1 k2 k3 k4=>by
      constructor
      ·refine .inr ⟨k1,_,te,by rw[k2];exact k4,by rw[List.length_replicate];unfold cQ;omega,fun j hj=>?_⟩
       rw[List.length_replicate] at hj
       refine⟨e.hY,cW e,fun q u hq=>?_,by rw[List.getElem_replicate];exact aH.zero e nY⟩
       have eG:=(List.getElem?_eq_some_iff.1 hq).1
       rw[cW e] at eG
       have aK:j*e.size+q<mm.toNat*e.size:=by
        have:(j+1)*e.size<=mm.toNat*e.size:=Nat.mul_le_mul_right _ (by omega)
        rw[Nat.add_mul] at this;omega
       rw[M6 _ _ _ aK,px]
       have IJ:(j*e.size+q)%e.size=q:=by rw[Nat.mul_comm,Nat.mul_add_mod];exact Nat.mod_eq_of_lt eG
       rw[IJ,g7]
       have Qw:q<e.hY.length:=by rw[cW e];exact eG
       rw[List.getElem?_eq_getElem Qw] at hq
       simp only[Option.some.injEq] at hq
       rw[<-hq]
       simp[Qw]
      ·refine⟨true,e,_,k3,.inr ⟨k1,mm.toNat,_,te,by rw[k2,List.length_replicate],by rw[k2];exact k4,size_madeCells _ _,by rw[List.length_replicate];omega⟩⟩)
   exact⟨_,_,V',dD,hg⟩
  ·cases h
 ·cases h
theorem Dp(off:Nat):∀(l:List Value) (k:Nat) (a:Array Value),off+k+l.length<=a.size →
 ((l.zipIdx k).foldl (fun cs (x:Value×Nat)=>cs.setIfInBounds (off+x.2) x.1) a).toList=a.toList.take (off+k)++l++a.toList.drop (off+k+l.length)
 | [],k,a,_=>by simp
 | v::l,k,a,h=>by
   simp only[List.zipIdx_cons,List.foldl_cons]
   rw[Dp off l (k+1) _ (by simp at h ⊢;omega)]
   have aK:off+k<a.toList.length:=by simp at h ⊢;omega
   simp only[Array.toList_setIfInBounds,List.length_cons]
   rw[show off+(k+1)=off+k+1 by omega,List.take_set,List.drop_set,if_pos (by omega)]
   rw[show off+k+(l.length+1)=off+k+1+l.length by omega]
   have hm:(a.toList.take (off+k)).length=off+k:=by rw[List.length_take];omega
   rw[List.take_succ_eq_append_getElem aK,List.set_append_right _ _ (by rw[hm];exact Nat.le_refl _),hm]
   simp
theorem A5(place:Nat->Option (Nat×Nat))(cells:Array Value)(i off size:Nat)(v:Value)(rest:List (Nat×Value))(aJ:place i=some (off,size))(h1:v.cells.size=size)(h2:off+size<=cells.size) :
 Instr.fill place cells ((i,v)::rest)=Instr.fill place ((cells.toList.take off++v.cells.toList++cells.toList.drop (off+size)).toArray) rest:=by
 have:=Dp off v.cells.toList 0 cells (by simp[h1];exact h2)
 simp only[Nat.add_zero,Array.length_toList,h1] at this
 have e:v.cells.zipIdx.foldl (fun cs (x:Value×Nat)=>cs.setIfInBounds (off+x.2) x.1) cells=(cells.toList.take off++v.cells.toList++cells.toList.drop (off+size)).toArray:=by
  apply Array.ext'
  rw[<-this,<-Array.foldl_toList]
  simp[Array.toList_zipIdx]
 rw[<-e]
 simp only[Instr.fill,aJ]
 rw[if_neg (by simp[h1];omega)]
theorem r4{s:S}{cs:List C}{v:Value}(h:s.cells=some cs)(ho:S.ok V hp w s v):br V hp w cs v.cells.toList:=by
 cases s with
 | c x =>
   simp only[S.cells,Option.some.injEq] at h;subst h
   have h1:=C.ec ho
   have:v.cells = #[v]:=by cases v<;>first|rfl|(simp[Value.oneCell'] at h1)
   rw[this]
   exact bc ho bX
 | agg xs =>
   simp only[S.cells,Option.some.injEq] at h;subst h
   obtain⟨vs,rfl,h1⟩:=ho
   exact h1
 | _=>cases h
def jk(V:Vl)(hp:Nat->az)(w:World):List (Nat×S)->List (Nat×Value)->Prop
 | [],[]=>True
 | p::ps,q::qs=>p.1=q.1/\S.ok V hp w p.2 q.2/\jk V hp w ps qs
 | _,_=>False
theorem Dm{fs:List (Nat×Nat×Bool)}{place:Nat->Option (Nat×Nat)}(nY:∀(i:Nat) x,fs[i]? = some x->place i=some (x.1,x.2.1)) :
 ∀ {ps:List (Nat×S)} {qs:List (Nat×Value)} {cs cr:List C} {cells:Array Value},sC fs cs ps=some cr->jk V hp w ps qs->br V hp w cs cells.toList →
  ∃ dq,Instr.fill place cells qs=some dq/\br V hp w cr dq.toList
 | [],[],cs,cr,cells,h,_,ho=>by
   simp only[sC,Option.some.injEq] at h;subst h
   exact⟨cells,rfl,ho⟩
 | (i,s)::ps,(j,v)::qs,cs,cr,cells,h,hq,ho=>by
   obtain⟨h1,h2,h3⟩:=hq
   simp only at h1 h2
   subst h1
   unfold sC at h
   split at h
   ·rename_i o n ag xs hi iG
    rw[dc] at hi
    simp only[cx,iY,iX,bN] at h
    split at h
    ·rename_i hc
     have pw:=r4 iG h2
     have hlen:v.cells.size=n:=by have:=pw.1;rw[hc.1] at this;simpa using this.symm
     have ck:cells.size=cs.length:=by have:=ho.1;simpa using this.symm
     rw[A5 place cells i o n v qs (nY i _ hi) hlen (by omega)]
     refine Dm nY h h3 ?_
     have:=fi (fi (jB ho o) pw) (jA ho (o+n))
     simpa[List.append_assoc] using this
    ·cases h
   ·cases h
 | [],_::_,_,_,_,_,hq,_=>hq.elim
 | _::_,[],_,_,_,_,hq,_=>hq.elim
theorem Bq:∀ {fl:List Field} {fs:List (Nat×Nat×Bool)},mn P fl fs=true →
 ∃ nj,fl.mapM (fun f=>(P.info? f.type).map fun i=>(f.offset,i.size))=some nj/\∀(i:Nat) x,fs[i]? = some x->nj[i]? = some (x.1,x.2.1)
 | [],fs,k2=>⟨[],rfl,fun i x hx=>by obtain⟨f,_,_,h,_⟩:=sB k2 hx;simp at h⟩
 | f::fl,[],k2=>by cases k2
 | f::fl,y::ys,k2=>by
   obtain⟨f',j,d,e1,e2,e3,e4,e5,_⟩:=sB k2 (i:=0) (x:=y) rfl
   simp only[List.getElem?_cons_zero,Option.some.injEq] at e1
   subst e1
   unfold mn at k2
   simp only[Bool.and_eq_true] at k2
   obtain⟨nj,m1,m2⟩:=Bq k2.2
   refine⟨(f.offset,j.size)::nj,by simp[e4,m1],fun i x hx=>?_⟩
   cases i with
   | zero=>simp only[List.getElem?_cons_zero,Option.some.injEq] at hx;subst hx;simp[e2,e5]
   | succ i=>simpa using m2 i x (by simpa using hx)
theorem Gm(hT:bJ P T){t:TypeId}{fs:List (Nat×Nat×Bool)}{sz jJ:Nat}{z:List Value}{ty:Option Ty}{lL:Option (List Bool)}(heq:T t=some { k:=.st fs,size:=sz,bytes:=jJ,zero:=z,ty:=ty,eq:=lL })
 {ps:List (Nat×S)} {qs:Array (Nat×Value)} {r:QR} (h:omap (fun cs=>({ res:=.agg cs }:QR)) (sC fs (lmap cell z) ps)=some r) (hq:jk V hp w ps qs.toList):eC P V hp w r (Instr.build t qs):=by
 simp only[dB] at h
 cases hf:sC fs (lmap cell z) ps with
 | none=>rw[hf] at h;cases h
 | some cs =>
   rw[hf] at h
   simp only[Option.map_some,Option.some.injEq] at h
   subst h
   obtain⟨⟨i,zv,g1,g2,g3,g4,g5,g6⟩,g7,g8⟩:=d_ (hT t _ heq)
   obtain⟨fields,k1,k2⟩:=BB g8
   have nj:=Bq k2
   obtain⟨nj,m1,m2⟩:=nj
   obtain⟨dq,n1,n2⟩:=Dm (place:=fun i=>nj.toArray[i]?) (cells:=z.toArray) (fun i x hx=>by simpa using m2 i x hx) hf hq (by simpa using g6 V hp w)
   refine⟨rfl,rfl,.agg dq,?_,dq,rfl,n2⟩
   refine run_build w t qs dq ?_
   unfold Program.built
   simp only[g1,k1,g4,m1]
   rw[g5]
   exact n1
end
end Go.SX
/- Literals of slices; calls under a contract; every operation that writes nothing. No condition. -/
namespace Go.SX
open Go.RowKit
set_option linter.unusedVariables false
set_option linter.unusedSimpArgs false
section
variable {P : Program} {T : bT} {V : Vl} {hp lk : Nat → az} {w : World}
theorem gY{fr aW:Bool}(h:fr=true->aW=true){b:Nat}(hz:V.Z aW b):V.Z fr b:=by
 cases fr with
 | false=>exact Vl.eD hz
 | true=>have:=h rfl;subst this;exact hz
theorem LR{fr:Bool}{e:Ty}{c:C}{xs:List e.den}{v:Value}(h:my lk e c=some xs)(ho:C.ok V hp w c v)(h1:c.fQ=true)(h2:fr=true->c.ed=true):aH (V.Z fr) w (.sl e) [v] xs:=by
 unfold my at h
 split at h
 ·rename_i aW e' bI
  have bF:aH (V.Z aW) w (.sl e') [v] bI:=ho
  exact m4 (bF.mono (fun b hb=>gY h2 hb) (fun _ _=>rfl)) h
 ·cases h1
 ·cases h1
 ·cases h1
 ·rename_i aW wh e' b bI
  have bF:aH (V.Z aW) w (.gs wh e') [v] (b,bI):=ho
  exact m4 (vF (bF.mono (fun b hb=>gY h2 hb) (fun _ _=>rfl))) h
 ·injection h with h;subst h
  rw[ho.1]
  exact aH.zero (.sl e) rfl
 ·cases h
theorem Ju{fr:Bool}:∀(t:Ty) {cs:List C} {d:t.den} {rest:List C} {vs:List Value},fp lk t cs=some (d,rest)->br V hp w cs vs->(∀ c∈cs,c.fQ=true/\(fr=true->c.ed=true)) →
 ∃ us ws,vs=us++ws/\aH (V.Z fr) w t us d/\br V hp w rest ws/\∃ ps,cs=ps++rest:=by
 intro t
 induction t with
 | int k =>
   intro cs d rest vs h ho hz
   obtain⟨c,rfl,hc⟩:=bC h
   obtain⟨v,cg,rfl,h1,h2⟩:=cj ho
   obtain⟨h3,h4⟩:=sZ hc h1
   exact⟨[v],cg,rfl,⟨by rw[h3],h4⟩,h2,[c],rfl⟩
 | bool =>
   intro cs d rest vs h ho hz
   obtain⟨c,rfl,hc⟩:=bC h
   obtain⟨v,cg,rfl,h1,h2⟩:=cj ho
   exact⟨[v],cg,rfl,by rw[u3 hc h1];exact rfl,h2,[c],rfl⟩
 | str =>
   intro cs d rest vs h ho hz
   obtain⟨c,rfl,hc⟩:=bC h
   obtain⟨v,cg,rfl,h1,h2⟩:=cj ho
   obtain⟨h3,h4⟩:=je hc h1
   exact⟨[v],cg,rfl,⟨by rw[h3],h4⟩,h2,[c],rfl⟩
 | sl e ih =>
   intro cs d rest vs h ho hz
   obtain⟨c,rfl,hc⟩:=bC h
   obtain⟨v,cg,rfl,h1,h2⟩:=cj ho
   obtain⟨h3,h4⟩:=hz c (by simp)
   exact⟨[v],cg,rfl,LR hc h1 h3 h4,h2,[c],rfl⟩
 | st t ih=>exact fun h ho hz=>ih h ho hz
 | pr a b eM eN =>
   intro cs d rest vs h ho hz
   unfold fp at h
   cases ha:fp lk a cs with
   | none=>simp[ha] at h
   | some x =>
     obtain⟨x,r⟩:=x
     simp only[ha] at h
     cases hb:fp lk b r with
     | none=>simp[hb] at h
     | some y =>
       obtain⟨y,r'⟩:=y
       simp only[hb,Option.some.injEq,Prod.mk.injEq] at h
       obtain⟨rfl,rfl⟩:=h
       obtain⟨us,ws,rfl,h1,h2,ps,rfl⟩:=eM ha ho hz
       obtain⟨Mc,Rn,rfl,h3,h4,Ut,rfl⟩:=eN hb h2 (fun c hc=>hz c (List.mem_append_right _ hc))
       exact⟨us++Mc,Rn,by rw[List.append_assoc],⟨us,Mc,rfl,h1,h3⟩,h4,ps++Ut,by rw[List.append_assoc]⟩
 | ptr t ih =>
   intro cs d rest vs h ho hz
   obtain⟨c,rfl,hc⟩:=bC h
   obtain⟨v,cg,rfl,h1,h2⟩:=cj ho
   obtain⟨h3,h4⟩:=hz c (by simp)
   refine⟨[v],cg,rfl,?_,h2,[c],rfl⟩
   unfold Jt at hc
   split at hc
   ·split at hc
    ·rename_i hk;subst hk;injection hc with hc;subst hc
     obtain⟨b,o,e1,e2,es,e3,e4,e5⟩:=h1
     exact⟨b,o,by rw[e1,Nat.add_zero],gY h4 e2,es,e3,e4,e5.mono (fun b hb=>gY h4 hb) (fun _ _=>rfl)⟩
    ·cases hc
   ·cases h3
   ·cases hc
 | bS f t ih =>
   intro cs d rest vs h ho hz
   obtain⟨c,rfl,hc⟩:=bC h
   obtain⟨v,cg,rfl,h1,h2⟩:=cj ho
   obtain⟨h3,h4⟩:=hz c (by simp)
   refine⟨[v],cg,rfl,?_,h2,[c],rfl⟩
   unfold Js at hc
   split at hc
   ·split at hc
    ·rename_i hf
     split at hc
     ·rename_i hk;subst hk;subst hf;injection hc with hc;subst hc
      exact aH.mono (t:=.bS _ _) (fun b hb=>gY h4 hb) (fun _ _=>rfl) h1
     ·cases hc
    ·cases hc
   ·rename_i f' ns
    split at hc
    ·rename_i hf
     subst hf
     cases ns with
     | cons n ns=>cases h3
     | nil =>
       obtain⟨us,ws,e5,e6,e7,_⟩:=ih (tr hc) (show br V hp w [] [] from bX) (fun c hc=>by cases hc)
       have hu:us=[]:=(List.append_eq_nil_iff.1 e5.symm).1
       subst hu
       exact⟨#[],congrArg (fun x=>[x]) h1.1,e6⟩
    ·cases hc
   ·cases hc
 | gs wh e ih =>
   intro cs d rest vs h ho hz
   obtain⟨c,rfl,hc⟩:=bC h
   obtain⟨v,cg,rfl,h1,h2⟩:=cj ho
   obtain⟨h3,h4⟩:=hz c (by simp)
   exact⟨[v],cg,rfl,EY hc h1 h4,h2,[c],rfl⟩
theorem pG{fr:Bool}{t:Ty}{cs:List C}{d:t.den}{vs:List Value}(h:readAll lk t cs=some d)(ho:br V hp w cs vs)(hz:∀ c∈cs,c.fQ=true/\(fr=true->c.ed=true)):aH (V.Z fr) w t vs d:=by
 unfold readAll at h
 split at h
 ·rename_i d' hr
  injection h with h;subst h
  obtain⟨us,ws,rfl,h1,h2,_⟩:=Ju t hr ho hz
  have:ws=[]:=by have:=h2.1;simp at this;exact List.length_eq_zero_iff.1 this.symm
  rw[this,List.append_nil]
  exact h1
 ·cases h
theorem Jv{fr:Bool}{t:Ty}{s:S}{d:t.den}{v:Value}(h:qg lk t s=some d)(ho:S.ok V hp w s v)(h1:s.fQ=true)(h2:fr=true->s.ed=true):aH (V.Z fr) w t v.cells.toList d:=by
 unfold qg at h
 split at h
 ·rename_i x
  split at h
  ·cases h
  ·have xv:=C.ec ho
   have hc:v.cells = #[v]:=by cases v<;>first|rfl|(simp[Value.oneCell'] at xv)
   rw[hc]
   exact pG h (bc ho bX) (fun c hc=>by simp at hc;subst hc;exact⟨h1,h2⟩)
 ·rename_i cs
  split at h
  ·obtain⟨vs,rfl,h3⟩:=ho
   refine pG h h3 (fun c hc=>⟨?_,fun hf=>?_⟩)
   ·have ux:dN C.fQ cs=true:=h1
    rw[fa,List.all_eq_true] at ux
    exact ux c hc
   ·have tK:dN C.ed cs=true:=h2 hf
    rw[fa,List.all_eq_true] at tK
    exact tK c hc
  ·cases h
 ·cases h
theorem wz(fr:Bool):∀(t:Ty) (d:t.den),∀ c∈expand fr t d,c.fQ=true/\(fr=true->c.ed=true):=by
 intro t
 induction t with
 | int k=>intro d c hc;simp[expand] at hc;subst hc;exact⟨rfl,fun _=>rfl⟩
 | bool=>intro d c hc;simp[expand] at hc;subst hc;exact⟨rfl,fun _=>rfl⟩
 | str=>intro d c hc;simp[expand] at hc;subst hc;exact⟨rfl,fun _=>rfl⟩
 | sl e ih=>intro d c hc;simp[expand] at hc;subst hc;exact⟨rfl,fun h=>h⟩
 | st t ih=>exact fun d=>ih d
 | pr a b eM eN =>
   intro d c hc
   unfold expand at hc
   rw[bN,List.mem_append] at hc
   exact hc.elim (eM _ c) (eN _ c)
 | ptr t ih=>intro d c hc;simp[expand] at hc;subst hc;exact⟨rfl,fun h=>h⟩
 | bS f t ih=>intro d c hc;simp[expand] at hc;subst hc;exact⟨rfl,fun h=>h⟩
 | gs wh e ih=>intro d c hc;simp[expand] at hc;subst hc;exact⟨rfl,fun h=>h⟩
theorem xF{fr:Bool}{e:Ty}:∀ {ps:List (Nat×S)} {qs:List (Nat×Value)} {k:Nat} {xs:List e.den} {cells:Array Value},hJ lk e k ps=some xs->jk V hp w ps qs →
 (∀ p∈ps,p.2.fQ=true/\(fr=true->p.2.ed=true))->(k+ps.length)*e.size<=cells.size →
 ∃ dq,Instr.fill (fun i=>some (i*e.size,e.size)) cells qs=some dq/\dq.size=cells.size/\(∀ j,j<k*e.size->dq[j]? = cells[j]?)/\xs.length=ps.length ∧
  ∀ i (h:i<xs.length),∃ es,es.length=e.size/\(∀(j:Nat) u,es[j]? = some u->dq[(k+i)*e.size+j]? = some u)/\aH (V.Z fr) w e es xs[i]
 | [],[],k,xs,cells,h,_,_,_=>by
   simp only[hJ,Option.some.injEq] at h;subst h
   exact⟨cells,rfl,rfl,fun _ _=>rfl,rfl,fun i hi=>by simp at hi⟩
 | (i,s)::ps,(j,v)::qs,k,xs,cells,h,hq,hz,ck=>by
   obtain⟨h1,h2,h3⟩:=hq
   simp only at h1 h2
   subst h1
   unfold hJ at h
   simp only at h
   split at h
   ·rename_i fL
    subst fL
    split at h
    ·rename_i x bI hx pw
     injection h with h;subst h
     obtain⟨z1,z2⟩:=hz (i,s) (by simp)
     have fg:=Jv (fr:=fr) hx h2 z1 z2
     have hlen:=aH.length fg
     simp only[Array.length_toList] at hlen
     have qN:i*e.size+e.size<=cells.size:=by
      have:(i+1)*e.size<=(i+((i,s)::ps).length)*e.size:=Nat.mul_le_mul_right _ (by simp)
      rw[Nat.add_mul,Nat.one_mul] at this
      omega
     rw[A5 _ cells i (i*e.size) e.size v qs rfl hlen qN]
     obtain⟨dq,g1,g2,g3,g4,g5⟩:=xF (fr:=fr) (k:=i+1) pw h3 (fun p aJ=>hz p (by simp[aJ])) (cells:=(cells.toList.take (i*e.size)++v.cells.toList++cells.toList.drop (i*e.size+e.size)).toArray) (by
      have hh:(cells.toList.take (i*e.size)++v.cells.toList++cells.toList.drop (i*e.size+e.size)).length=cells.size:=by
       simp only[List.length_append,List.length_take,List.length_drop,Array.length_toList,hlen];omega
      simp only[List.size_toArray,hh]
      rw[show i+1+ps.length=i+((i,s)::ps).length by simp;omega]
      exact ck)
     have RB:(cells.toList.take (i*e.size)++v.cells.toList++cells.toList.drop (i*e.size+e.size)).length=cells.size:=by
      simp only[List.length_append,List.length_take,List.length_drop,Array.length_toList,hlen];omega
     have DH:(cells.toList.take (i*e.size)).length=i*e.size:=by rw[List.length_take,Array.length_toList];omega
     refine⟨dq,g1,by rw[g2];simp only[List.size_toArray,RB],fun j hj=>?_,by simp[g4],fun q eG=>?_⟩
     ·rw[g3 j (by rw[Nat.add_mul];omega)]
      rw[List.getElem?_toArray,List.append_assoc,List.getElem?_append_left (by rw[DH];exact hj),List.getElem?_take,if_pos hj]
      simp
     ·cases q with
      | zero =>
        refine⟨v.cells.toList,by simpa using hlen,fun j u hu=>?_,fg⟩
        have hj:=(List.getElem?_eq_some_iff.1 hu).1
        simp only[Array.length_toList,hlen] at hj
        rw[Nat.add_zero,g3 (i*e.size+j) (by rw[Nat.add_mul,Nat.one_mul];omega)]
        rw[List.getElem?_toArray,List.append_assoc,List.getElem?_append_right (by rw[DH];omega),DH,show i*e.size+j-i*e.size=j by omega,List.getElem?_append_left (by simp[hlen];exact hj)]
        exact hu
      | succ q =>
        obtain⟨es,k1,k2,k3⟩:=g5 q (by simpa using eG)
        refine⟨es,k1,fun j u hu=>?_,k3⟩
        rw[show i+(q+1)=i+1+q by omega]
        exact k2 j u hu
    ·cases h
   ·cases h
 | [],_::_,_,_,_,_,hq,_,_=>hq.elim
 | _::_,[],_,_,_,_,hq,_,_=>hq.elim
theorem oD(e:Ty):∀ n,(fW n e).length=n*e.size
 | 0=>by simp[fW]
 | n+1=>by simp only[fW,List.length_append,cW,oD e n,Nat.add_mul,Nat.one_mul];omega
theorem zK(e:Ty):∀(n i j:Nat),i<n->j<e.size->(fW n e)[i*e.size+j]? = e.hY[j]?
 | 0,i,j,h,_=>by omega
 | n+1,0,j,_,hj=>by
   rw[Nat.zero_mul,Nat.zero_add]
   simp only[fW]
   rw[List.getElem?_append_left (by rw[cW];exact hj)]
 | n+1,i+1,j,h,hj=>by
   simp only[fW]
   rw[List.getElem?_append_right (by rw[cW,Nat.add_mul,Nat.one_mul];omega),cW,show (i+1)*e.size+j-e.size=i*e.size+j by rw[Nat.add_mul,Nat.one_mul];omega]
   exact zK e n i j (by omega) hj
theorem BJ{e:Ty}(aJ:e.plain=true)(n:Nat){Z:Nat->Prop}{w':World}:∀ i (h:i<(List.replicate n e.en).length),∃ es,es.length=e.size/\(∀(j:Nat) u,es[j]? = some u->(fW n e)[i*e.size+j]? = some u)/\aH Z w' e es (List.replicate n e.en)[i]:=by
 intro i h
 rw[List.length_replicate] at h
 refine⟨e.hY,cW e,fun j u hu=>?_,?_⟩
 ·have hj:=(List.getElem?_eq_some_iff.1 hu).1
  rw[cW] at hj
  rw[zK e n i j h hj];exact hu
 ·rw[List.getElem_replicate]
  exact aH.zero e aJ
theorem Gk(hT:bJ P T){t:TypeId}{len te es n:Nat}{cF:Ty}{sz jJ:Nat}{z:List Value}{ty:Option Ty}{lL:Option (List Bool)}(heq:T t=some { k:=.arr len te es n cF,size:=sz,bytes:=jJ,zero:=z,ty:=ty,eq:=lL })
 {ps:List (Nat×S)} {qs:Array (Nat×Value)} {r:QR} (h:Af len es n cF ps=some r) (hq:jk V hp w ps qs.toList):eC P V hp w r (Instr.build t qs):=by
 obtain⟨⟨i,zv,g1,g2,g3,g4,g5,g6⟩,g7,g8⟩:=d_ (hT t _ heq)
 obtain⟨a0,a1,⟨i2,a2,a3⟩,a4,a5,a6,a7,a8⟩:=Fa (hT t _ heq) rfl
 simp only at a0 g5
 subst a0
 have KD:∀ dq,Instr.fill (fun i=>some (i*es,es)) (fW n cF).toArray qs.toList=some dq->(Instr.build t qs).run P w = .ok (.agg dq) w:=by
  intro dq hf
  simp only[Instr.build,Sem.run_bind,ik g1 g4,Result.andThen_ok,run_underlying a1,run_sizeOf a2,a3,g5,hf,Sem.run_pure]
 unfold Af at h
 split at h
 ·injection h with h;subst h
  have TV:qs.toList=[]:=by
   cases Qy:qs.toList with
   | nil=>rfl
   | cons q r=>rw[Qy] at hq;exact hq.elim
  refine⟨rfl,rfl,_,KD (fW n cF).toArray (by rw[TV];rfl),a4,_,rfl,by simp[oD],fun i hi=>?_⟩
  obtain⟨ky,k1,k2,k3⟩:=BJ (Z:=fun _=>False) (w':=w) a5 n i hi
  exact⟨ky,k1,fun j u hu=>by simpa using k2 j u hu,k3⟩
 ·split at h
  case isFalse=>cases h
  case isTrue hc =>
  simp only[Bool.and_eq_true,decide_eq_true_eq,fa,List.all_eq_true,cx] at hc
  obtain⟨⟨c1,c2⟩,c3⟩:=hc
  rw[dB] at h
  cases hx:hJ (fun _=>.dead) cF 0 ps with
  | none=>rw[hx] at h;cases h
  | some xs =>
    rw[hx] at h
    simp only[Option.map_some,Option.some.injEq] at h
    subst h
    have yK:n=len:=by
     rw[c3] at a6
     exact Nat.eq_of_mul_eq_mul_right cF.size_pos a6
    obtain⟨dq,k1,k2,k3,k4,k5⟩:=xF (fr:=false) (k:=0) (cells:=(fW n cF).toArray) hx hq (fun p aJ=>⟨c1 p aJ,fun hf=>by cases hf⟩) (by simp[oD,c2,yK])
    rw[<-c3] at k1
    refine⟨rfl,rfl,_,KD dq k1,a4,dq,rfl,by rw[k2,k4,c2];simp[oD,yK],fun i hi=>?_⟩
    obtain⟨ky,p1,p2,p3⟩:=k5 i hi
    exact⟨ky,p1,fun j u hu=>by have:=p2 j u hu;rwa [Nat.zero_add] at this,p3.flat a4⟩
theorem Jq(hT:bJ P T){t:TypeId}{ps:List (Nat×S)}{qs:Array (Nat×Value)}{r:QR}(h:ET T t ps=some r)(hq:jk V hp w ps qs.toList):eC P V hp w r (Instr.build t qs):=by
 unfold ET at h
 split at h
 ·rename_i heq;exact Gm hT heq h hq
 ·rename_i heq;exact Gk hT heq h hq
 ·cases h
theorem IV(e:Ty)(ps:List (Nat×S)):(yQ e ps).size=e.size:=by
 unfold yQ
 split
 ·rename_i h
  rw[Bool.and_eq_true,decide_eq_true_eq] at h
  rw[<-cK e.vG,h.2]
 ·rfl
theorem Gl(hT:bJ P T){base:Nat}{M:LM}{w0:World}(m:Mem base M w0 V hp w){nx:Nat}(hd:hp nx = .dead){t:TypeId}{n:Nat}{ps:List (Nat×S)}{qs:Array (Nat×Value)}{r:QR}
 (h:vM T nx t n ps=some r) (hq:jk V hp w ps qs.toList):∃ x w' V',(Instr.buildSlice t n qs).run P w = .ok x w'/\Good base M w0 V hp w nx r.res r.new r.hy x w' V':=by
 unfold vM at h
 split at h
 ·rename_i e sz jJ z ty lL a o b p heq
  split at h
  ·rename_i hn
   injection h with h;subst h;subst hn
   obtain⟨hu,i,zv,h3,h4,_,h5,h6⟩:=uT (d_ (hT t _ heq)).2.2
   obtain⟨u,v,Qy,R5,R6⟩:∃ u v,qs.toList=[(0,u),(1,v)]/\C.ok V hp w (.box a o) u/\C.ok V hp w (.box b p) v:=by
    generalize qs.toList=l at hq
    match l,hq with
    | [(k0,u),(k1,v)],⟨e0,s0,e1,s1,_⟩ =>
      have e0:0=k0:=e0
      have e1:1=k1:=e1
      subst e0;subst e1
      exact⟨u,v,rfl,s0,s1⟩
   obtain⟨V',hg⟩:=jw m hd #[u,v] e (.bx [.box a o,.box b p]) (.c (.jI nx 2)) (.slice (some ⟨w.heap.size,0,none⟩) 2 2) (fun h=>h)
    (fun V' aJ w' x k1 k2 k3 k4=>⟨⟨_,e,by rw[k2];exact k4,kG x (bc R5 (bc R6 bX))⟩,⟨2,⟨by rw[k2],by omega⟩,k1,_,k3⟩⟩)
   refine⟨_,_,V',?_,hg⟩
   have IE:Instr.fill (fun i=>some (i*1,1)) ((Array.range (2*1)).map (zv.cells[·%zv.cells.size]!)) qs.toList=some #[u,v]:=by
    have hz:(Array.range (2*1)).map (zv.cells[·%zv.cells.size]!) = #[.pointer none,.pointer none]:=by
     rw[h6]
     apply Array.ext'
     simp[List.range_succ]
    rw[hz,Qy,R5.1,R6.1]
    simp[Instr.fill,Value.cells]
   simp only[Instr.buildSlice,Sem.run_bind,run_underlying hu,Result.andThen_ok,run_sizeOf h3,h4,Sem.run_ite]
   rw[if_neg (by omega)]
   simp only[Result.andThen_ok,Sem.run_pure,Sem.run_bind]
   rw[if_neg (by omega)]
   simp only[ik h3 h5,Result.andThen_ok,Sem.run_pure,IE,newRow,Sem.run_bind,run_newObj_alloc]
  ·cases h
 ·cases h
theorem qd(hT:bJ P T){base:Nat}{M:LM}{w0:World}(m:Mem base M w0 V hp w){nx:Nat}(hd:hp nx = .dead){t:TypeId}{n:Nat}{ps:List (Nat×S)}{qs:Array (Nat×Value)}{r:QR}
 (h:ix T lk nx t n ps=some r) (hq:jk V hp w ps qs.toList):∃ x w' V',(Instr.buildSlice t n qs).run P w = .ok x w'/\Good base M w0 V hp w nx r.res r.new r.hy x w' V':=by
 unfold ix at h
 cases he:ia T t with
 | none=>rw[he] at h;exact Gl hT m hd h hq
 | some e0 =>
   rw[he] at h
   simp only at h
   have ck:=IV e0 ps
   generalize yQ e0 ps=e at h ck
   unfold nT at h
   split at h
   ·rename_i hc
    rw[Bool.and_eq_true] at hc
    obtain⟨hc,c4⟩:=hc
    simp only[Bool.and_eq_true,decide_eq_true_eq,fa,List.all_eq_true,cx] at hc
    obtain⟨⟨c1,c2⟩,c3⟩:=hc
    rw[dB] at h
    cases hx:hJ lk e 0 ps with
    | none=>rw[hx] at h;cases h
    | some xs =>
      rw[hx] at h
      simp only[Option.map_some,Option.some.injEq] at h
      subst h
      obtain⟨te,i,z,h2,h3,h4,h5,h6⟩:=uk hT he
      rw[<-ck] at h4
      generalize eX:(e.flat||dN (fun p=>p.2.ed) ps)=fl
      have px:z.cells.size=e.size:=by rw[h6,ck];simpa using cW e0
      generalize yN:(if n*e.size=0 then (#[]:Array Value) else z.cells)=z0
      have IE:=xF (fr:=dN (fun p=>p.2.ed) ps) (k:=0) (cells:=(Array.range (n*e.size)).map (z0[·%z0.size]!)) hx hq (fun p aJ=>⟨c1 p aJ,fun hf=>by rw[fa,List.all_eq_true] at hf;exact hf p aJ⟩) (by simp[c2])
      obtain⟨dq,g1,g2,g3,g4,g5⟩:=IE
      simp only[Array.size_map,Array.size_range] at g2
      obtain⟨V',hg⟩:=jw m hd dq te (.row fl e xs) (.c (.own nx)) (.slice (some ⟨w.heap.size,0,none⟩) n n)
       (by
         intro hl
         cases fl with
         | true=>exact hl
         | false =>
           have df:(e.flat||e.bW)=true:=hl
           rw[Bool.or_eq_false_iff] at eX
           rw[eX.1,Bool.false_or] at df
           rw[df,eX.2] at c4
           cases c4)
       (fun V' aJ w' x k1 k2 k3 k4=>by
         constructor
         ·refine .inr ⟨k1,_,te,by rw[k2];exact k4,?_,fun j hj=>?_⟩
          ·rw[g4,c2]
           have:n*1<=n*e.size:=Nat.mul_le_mul_left _ e.size_pos
           unfold cQ;omega
          ·obtain⟨es,q1,q2,q3⟩:=g5 j hj
           refine⟨es,q1,fun a u hu=>by have:=q2 a u hu;rwa [Nat.zero_add] at this,?_⟩
           cases pt:e.flat with
           | true=>exact q3.flat pt
           | false =>
             rw[pt,Bool.false_or] at eX
             rw[<-eX]
             exact x.rd q3
         ·exact⟨fl,e,xs,k3,.inr ⟨k1,n,_,te,by rw[k2,g4,c2],by rw[k2];exact k4,g2,by rw[g4,c2];exact Nat.le_refl _⟩⟩)
      refine⟨_,_,V',?_,hg⟩
      have Sh:¬(16777216<n*e.size):=by omega
      simp only[Instr.buildSlice,Sem.run_bind,run_underlying h2,Result.andThen_ok,run_sizeOf h3,h4,Sem.run_ite]
      rw[if_neg (by omega)]
      simp only[Result.andThen_ok,Sem.run_pure,Sem.run_bind]
      by_cases hn:n*e.size=0
      ·rw[if_pos hn] at yN
       rw[if_pos hn,yN]
       simp only[Sem.run_pure,Result.andThen_ok,g1,newRow,Sem.run_bind,run_newObj_alloc]
      ·rw[if_neg hn] at yN
       rw[if_neg hn]
       simp only[ik h3 h5,Result.andThen_ok,yN,Sem.run_pure,g1,newRow,Sem.run_bind,run_newObj_alloc]
   ·cases h
theorem pW:∀ {t:Ty} {Z:Nat->Prop} {cs:List Value} {d:t.den} {bs:List (Option Nat)} (nx:Nat),l7 Z w t cs d bs->(fresh t d nx).2.length=bs.length:=by
 intro t
 induction t with
 | int k=>intro Z cs d bs nx h;rw[h.2];rfl
 | bool=>intro Z cs d bs nx h;rw[h.2];rfl
 | str=>intro Z cs d bs nx h;rw[h.2];rfl
 | sl e ih =>
   intro Z cs d bs nx h
   rcases h with ⟨_,_,rfl⟩|⟨b,cap,ay,el,_,rfl,_⟩<;>rfl
 | st t ih=>exact fun nx h=>ih nx h
 | pr a b eM eN =>
   intro Z cs d bs nx h
   obtain⟨c1,c2,b1,b2,rfl,rfl,h1,h2⟩:=h
   show (dg _ _).length=_
   rw[bN,List.length_append,List.length_append,eM nx h1,eN _ h2]
 | ptr t ih=>intro Z cs d bs nx h;exact h.elim
 | bS f t ih=>intro Z cs d bs nx h;exact h.elim
 | gs wh e ih=>intro Z cs d bs nx h;exact h.elim
structure l6 (V:Vl) (hp:Nat->az) (Z:Nat->Prop) (nx:Nat) (es:List az) (bs:List (Option Nat)):Prop where
 has:∀(j:Nat) b,bs[j]? = some b->(V.has (nx+j)↔b.isSome=true)
 aI:∀(j:Nat) b,bs[j]? = some (some b)->V.aI (nx+j)=b
 aB:∀(j:Nat) e,es[j]? = some e->hp (nx+j)=e
 tu:∀ b,Z b->V.Z1 b
theorem l6.left{Z:Nat->Prop}{nx:Nat}{e1 e2:List az}{b1 b2:List (Option Nat)}(h:l6 V hp Z nx (e1++e2) (b1++b2)):l6 V hp Z nx e1 b1 where
 has j b hb:=h.has j b (by rw[List.getElem?_append_left (List.getElem?_eq_some_iff.1 hb).1];exact hb)
 aI j b hb:=h.aI j b (by rw[List.getElem?_append_left (List.getElem?_eq_some_iff.1 hb).1];exact hb)
 aB j e he:=h.aB j e (by rw[List.getElem?_append_left (List.getElem?_eq_some_iff.1 he).1];exact he)
 tu:=h.tu
theorem l6.right{Z:Nat->Prop}{nx:Nat}{e1 e2:List az}{b1 b2:List (Option Nat)}(hl:e1.length=b1.length)(h:l6 V hp Z nx (e1++e2) (b1++b2)):l6 V hp Z (nx+e1.length) e2 b2 where
 has j b hb:=by
  rw[Nat.add_assoc]
  exact h.has (e1.length+j) b (by rw[hl,List.getElem?_append_right (by omega)];rw[show b1.length+j-b1.length=j by omega];exact hb)
 aI j b hb:=by
  rw[Nat.add_assoc]
  exact h.aI (e1.length+j) b (by rw[hl,List.getElem?_append_right (by omega)];rw[show b1.length+j-b1.length=j by omega];exact hb)
 aB j e he:=by
  rw[Nat.add_assoc]
  exact h.aB (e1.length+j) e (by rw[List.getElem?_append_right (by omega)];rw[show e1.length+j-e1.length=j by omega];exact he)
 tu:=h.tu
theorem MA{Z:Nat->Prop}:∀ {t:Ty} {cs:List Value} {d:t.den} {bs:List (Option Nat)} {nx:Nat},l7 Z w t cs d bs->l6 V hp Z nx (fresh t d nx).2 bs →
 br V hp w (fresh t d nx).1 cs/\∀(j:Nat) e,(fresh t d nx).2[j]? = some e->e.ok V hp w (nx+j):=by
 intro t
 induction t with
 | int k=>intro cs d bs nx h _;obtain⟨⟨rfl,h1⟩,_⟩:=h;exact⟨bc ⟨rfl,h1⟩ bX,fun j e he=>by simp[fresh] at he⟩
 | bool=>intro cs d bs nx h _;obtain⟨h1,_⟩:=h;rw[show cs=_ from h1];exact⟨bc ⟨rfl,trivial⟩ bX,fun j e he=>by simp[fresh] at he⟩
 | str=>intro cs d bs nx h _;obtain⟨⟨rfl,h1⟩,_⟩:=h;exact⟨bc ⟨rfl,h1⟩ bX,fun j e he=>by simp[fresh] at he⟩
 | sl e ih =>
   intro cs d bs nx h hl
   have h0:hp nx = .row true e d:=hl.aB 0 _ rfl
   rcases h with ⟨rfl,rfl,rfl⟩|⟨b,cap,ay,el,rfl,rfl,h1,h2,h3,h4,h5⟩
   ·have hh:¬V.has nx:=fun h=>by have:=(hl.has 0 none rfl).1 h;cases this
    refine⟨bc ⟨true,e,[],h0,.inl ⟨hh,rfl,rfl⟩⟩ bX,fun j e' he=>?_⟩
    cases j with
    | zero=>simp only[fresh,List.getElem?_cons_zero,Option.some.injEq] at he;subst he;exact .inl ⟨hh,rfl⟩
    | succ j=>simp[fresh] at he
   ·have hh:V.has nx:=(hl.has 0 (some b) rfl).2 rfl
    have hb:V.aI nx=b:=hl.aI 0 b rfl
    refine⟨bc ⟨true,e,d,h0,.inr ⟨hh,cap,ay,el,by rw[hb],by rw[hb];exact h1,h2,h3⟩⟩ bX,fun j e' he=>?_⟩
    cases j with
    | zero =>
      simp only[fresh,List.getElem?_cons_zero,Option.some.injEq] at he;subst he
      refine .inr ⟨hh,ay,el,by rw[Nat.add_zero,hb];exact h1,h4,fun i hi=>?_⟩
      obtain⟨es,g1,g2,g3⟩:=h5 i hi
      exact⟨es,g1,g2,g3.mono (fun b hb=>.inl (hl.tu b hb)) (fun _ _=>rfl)⟩
    | succ j=>simp[fresh] at he
 | st t ih=>exact fun h hl=>ih h hl
 | pr a b eM eN =>
   intro cs d bs nx h hl
   obtain⟨c1,c2,b1,b2,rfl,rfl,h1,h2⟩:=h
   have hlen:=pW nx h1
   have df:l6 V hp Z nx ((fresh a d.1 nx).2++(fresh b d.2 (nx+(fresh a d.1 nx).2.length)).2) (b1++b2):=by
    have:=hl
    unfold fresh at this
    simp only[bN,cx] at this
    exact this
   obtain⟨g1,g2⟩:=eM h1 df.left
   obtain⟨g3,g4⟩:=eN h2 (df.right hlen)
   unfold fresh
   simp only[bN,cx]
   refine⟨fi g1 g3,fun j e he=>?_⟩
   rcases Nat.lt_or_ge j (fresh a d.1 nx).2.length with hj|hj
   ·rw[List.getElem?_append_left hj] at he
    exact g2 j e he
   ·rw[List.getElem?_append_right hj] at he
    have:=g4 _ e he
    rwa [show nx+(fresh a d.1 nx).2.length+(j-(fresh a d.1 nx).2.length)=nx+j by omega] at this
 | ptr t ih=>intro cs d bs nx h _;exact h.elim
 | bS f t ih=>intro cs d bs nx h _;exact h.elim
 | gs wh e ih=>intro cs d bs nx h _;exact h.elim
theorem wB{Z:Nat->Prop}{t:Ty}{v:Value}{d:t.den}{bs:List (Option Nat)}{nx:Nat}(h:xS Z w t v d bs)(hl:l6 V hp Z nx (dM t d nx).2 bs) :
 kb V hp w (dM t d nx).1 v/\∀(j:Nat) e,(dM t d nx).2[j]? = some e->e.ok V hp w (nx+j):=by
 obtain⟨cs,h1,h2⟩:=h
 obtain⟨g1,g2⟩:=MA h2 hl
 refine⟨?_,g2⟩
 unfold kb dM
 unfold qS at h1
 simp only
 split
 ·rename_i ht;rw[if_pos ht] at h1;exact⟨_,h1,by simpa using g1⟩
 ·rename_i ht;rw[if_neg ht] at h1;rw[<-h1];exact g1
theorem tJ{Z:Nat->Prop}:∀ {ts:List Ty} {vs:List Value} {d:bU ts} {bs:List (Option Nat)} (nx:Nat),gu Z w ts vs d bs->(cb ts d nx).2.length=bs.length
 | [],vs,d,bs,nx,h=>by rw[h.2];rfl
 | [t],vs,d,bs,nx,h=>by obtain⟨v,_,cs,_,h2⟩:=h;exact pW nx h2
 | t::u::r,vs,d,bs,nx,h=>by
   obtain⟨v,cg,b1,b2,rfl,rfl,⟨cs,_,h2⟩,h3⟩:=h
   show (dg _ _).length=_
   rw[bN,List.length_append,List.length_append]
   have e1:(dM t d.1 nx).2.length=b1.length:=pW nx h2
   rw[e1,tJ _ h3]
theorem uw{Z:Nat->Prop}:∀ {ts:List Ty} {vs:List Value} {d:bU ts} {bs:List (Option Nat)} {nx:Nat},gu Z w ts vs d bs->l6 V hp Z nx (cb ts d nx).2 bs →
 (cb ts d nx).1.length=vs.length/\(∀(j:Nat) x v,(cb ts d nx).1[j]? = some x->vs[j]? = some v->kb V hp w x v)/\∀(j:Nat) e,(cb ts d nx).2[j]? = some e->e.ok V hp w (nx+j)
 | [],vs,d,bs,nx,h,_=>by rw[h.1];exact⟨rfl,fun j x v hx=>by simp[cb] at hx,fun j e he=>by simp[cb] at he⟩
 | [t],vs,d,bs,nx,h,hl=>by
   obtain⟨v,rfl,h1⟩:=h
   obtain⟨g1,g2⟩:=wB h1 hl
   refine⟨rfl,fun j x v' hx hv=>?_,g2⟩
   cases j with
   | zero=>simp only[cb,List.getElem?_cons_zero,Option.some.injEq] at hx hv;subst hx;subst hv;exact g1
   | succ j=>simp at hv
 | t::u::r,vs,d,bs,nx,h,hl=>by
   obtain⟨v,cg,b1,b2,rfl,rfl,h1,h3⟩:=h
   have e1:(dM t d.1 nx).2.length=b1.length:=by obtain⟨cs,_,h2⟩:=h1;exact pW nx h2
   have df:l6 V hp Z nx ((dM t d.1 nx).2++(cb (u::r) d.2 (nx+(dM t d.1 nx).2.length)).2) (b1++b2):=by
    have:=hl
    unfold cb at this
    simp only[bN,cx] at this
    exact this
   obtain⟨g1,g2⟩:=wB h1 df.left
   obtain⟨k1,k2,k3⟩:=uw h3 (df.right e1)
   unfold cb
   simp only[bN,cx]
   refine⟨by simp[k1],fun j x v' hx hv=>?_,fun j e he=>?_⟩
   ·cases j with
    | zero=>simp only[List.getElem?_cons_zero,Option.some.injEq] at hx hv;subst hx;subst hv;exact g1
    | succ j=>exact k2 j x v' (by simpa using hx) (by simpa using hv)
   ·rcases Nat.lt_or_ge j (dM t d.1 nx).2.length with hj|hj
    ·rw[List.getElem?_append_left hj] at he
     exact g2 j e he
    ·rw[List.getElem?_append_right hj] at he
     have:=k3 _ e he
     rwa [show nx+(dM t d.1 nx).2.length+(j-(dM t d.1 nx).2.length)=nx+j by omega] at this
theorem H5{x:Bool×List C}{v:Value}(h:kb V hp w x v):S.ok V hp w (nU x) v:=by
 unfold nU
 unfold kb at h
 split
 ·rename_i hx;rw[if_pos hx] at h;exact h
 ·rename_i hx;rw[if_neg hx] at h
  split
  ·rename_i c hc
   rw[hc] at h
   exact h.2 0 c v rfl rfl
  ·trivial
theorem Kt{Z:Nat->Prop}{ts:List Ty}{vs:List Value}{d:bU ts}{bs:List (Option Nat)}{nx:Nat}(h:gu Z w ts vs d bs)(hl:l6 V hp Z nx (dt ts d nx).2 bs) :
 S.ok V hp w (dt ts d nx).1 (mV vs)/\∀(j:Nat) e,(dt ts d nx).2[j]? = some e->e.ok V hp w (nx+j):=by
 have e2:(dt ts d nx).2=(cb ts d nx).2:=by unfold dt;split<;>rename_i h<;>rw[h]
 rw[e2] at hl ⊢
 obtain⟨g1,g2,g3⟩:=uw h hl
 refine⟨?_,g3⟩
 unfold dt
 split
 ·rename_i x es hx
  rw[hx] at g1 g2
  cases vs with
  | nil=>simp at g1
  | cons v cg =>
    have:cg=[]:=by simp at g1;exact g1
    subst this
    exact H5 (g2 0 x v rfl rfl)
 ·rename_i xs es iV hx
  rw[hx] at g1 g2
  have hv:mV vs = .tuple vs.toArray:=by
   unfold mV
   split
   ·rename_i v
    cases xs with
    | nil=>simp at g1
    | cons x bI =>
      have:bI=[]:=by simp at g1;exact g1
      subst this
      exact (iV x rfl).elim
   ·rfl
  rw[hv]
  exact⟨vs.toArray,rfl,by simpa using g1,fun j x v jX dJ=>g2 j x v jX (by simpa using dJ)⟩
theorem IA{Z:Nat->Prop}{ts:List Ty}{vs:List Value}{d:bU ts}{bs:List (Option Nat)}(nx:Nat)(h:gu Z w ts vs d bs):(dt ts d nx).2.length=bs.length:=by
 have e2:(dt ts d nx).2=(cb ts d nx).2:=by unfold dt;split<;>rename_i h<;>rw[h]
 rw[e2];exact tJ nx h
theorem IB(ts:List Ty)(d:bU ts)(nx:Nat):∀ e∈(dt ts d nx).2,∀ cs,e ≠ .bx cs:=by
 have e2:(dt ts d nx).2=(cb ts d nx).2:=by unfold dt;split<;>rename_i h<;>rw[h]
 rw[e2];clear e2
 have one:∀(t:Ty) (d:t.den) (nx:Nat),∀ e∈(fresh t d nx).2,∀ cs,e ≠ .bx cs:=by
  intro t
  induction t with
  | int k=>intro d nx e he;simp[fresh] at he
  | bool=>intro d nx e he;simp[fresh] at he
  | str=>intro d nx e he;simp[fresh] at he
  | sl e ih=>intro d nx e' he cs hc;simp[fresh] at he;rw[he] at hc;cases hc
  | st t ih=>exact fun d nx e he=>ih d nx e he
  | pr a b eM eN =>
    intro d nx e he
    unfold fresh at he
    simp only[bN,List.mem_append] at he
    exact he.elim (eM _ _ e) (eN _ _ e)
  | ptr t ih=>intro d nx e he;simp[fresh] at he
  | bS f t ih=>intro d nx e he;simp[fresh] at he
  | gs wh e ih=>intro d nx e he;simp[fresh] at he
 induction ts generalizing nx with
 | nil=>intro e he;simp[cb] at he
 | cons t r ih =>
   cases r with
   | nil=>exact one t d nx
   | cons u r =>
     intro e he
     unfold cb at he
     simp only[bN,List.mem_append] at he
     exact he.elim (one t d.1 nx e) (ih d.2 _ e)
theorem Lz{Z:Nat->Prop}:∀ {t:Ty} {cs:List Value} {d:t.den} {bs:List (Option Nat)},l7 Z w t cs d bs->t.wf d:=by
 intro t
 induction t with
 | int k=>exact fun h=>h.1.wf
 | bool=>exact fun h=>trivial
 | str=>exact fun h=>h.1.wf
 | sl e ih =>
   intro cs d bs h
   rcases h with ⟨_,rfl,_⟩|⟨b,cap,ay,el,_,_,_,_,_,h4,h5⟩
   ·exact⟨Nat.zero_le _,fun x hx=>by simp at hx⟩
   ·refine⟨h4,fun x hx=>?_⟩
    obtain⟨i,hi,rfl⟩:=List.getElem_of_mem hx
    obtain⟨es,_,_,g3⟩:=h5 i hi
    exact g3.wf
 | st t ih=>exact fun h=>ih h
 | pr a b eM eN=>intro cs d bs h;obtain⟨c1,c2,b1,b2,_,_,h1,h2⟩:=h;exact⟨eM h1,eN h2⟩
 | ptr t ih=>intro cs d bs h;exact h.elim
 | bS f t ih=>intro cs d bs h;exact h.elim
 | gs wh e ih=>intro cs d bs h;exact h.elim
theorem sW{Z:Nat->Prop}:∀ {ts:List Ty} {vs:List Value} {d:bU ts} {bs:List (Option Nat)},gu Z w ts vs d bs->zt ts d
 | [],_,_,_,_=>trivial
 | [t],_,_,_,h=>by obtain⟨v,_,cs,_,h2⟩:=h;exact Lz h2
 | t::u::r,_,_,_,h=>by obtain⟨v,cg,b1,b2,_,_,⟨cs,_,h2⟩,h3⟩:=h;exact⟨Lz h2,sW h3⟩
theorem FV(ts:List Ty)(d:bU ts)(nx:Nat):∀ e∈(dt ts d nx).2,¬e.eH:=by
 have e2:(dt ts d nx).2=(cb ts d nx).2:=by unfold dt;split<;>rename_i h<;>rw[h]
 rw[e2];clear e2
 have one:∀(t:Ty) (d:t.den) (nx:Nat),∀ e∈(fresh t d nx).2,¬e.eH:=by
  intro t
  induction t with
  | int k=>intro d nx e he;simp[fresh] at he
  | bool=>intro d nx e he;simp[fresh] at he
  | str=>intro d nx e he;simp[fresh] at he
  | sl e ih=>intro d nx e' he hc;simp[fresh] at he;rw[he] at hc;exact hc
  | st t ih=>exact fun d nx e he=>ih d nx e he
  | pr a b eM eN =>
    intro d nx e he
    unfold fresh at he
    simp only[bN,List.mem_append] at he
    exact he.elim (eM _ _ e) (eN _ _ e)
  | ptr t ih=>intro d nx e he;simp[fresh] at he
  | bS f t ih=>intro d nx e he;simp[fresh] at he
  | gs wh e ih=>intro d nx e he;simp[fresh] at he
 induction ts generalizing nx with
 | nil=>intro e he;simp[cb] at he
 | cons t ts ih =>
   cases ts with
   | nil=>exact fun e he=>one t d nx e he
   | cons u r =>
     intro e he
     have eF:e∈dg (dM t d.1 nx).2 (cb (u::r) d.2 (nx+bf (dM t d.1 nx).2)).2:=he
     rw[bN,List.mem_append] at eF
     exact eF.elim (one t d.1 nx e) (ih d.2 _ e)
theorem Kw{base:Nat}{M:LM}{w0 w':World}(m:Mem base M w0 V hp w){nx:Nat}{rs:List Ty}{d:bU rs}{v:Value}(hr:vr w w' rs v d)(hd:∀ j,j<(dt rs d nx).2.length->hp (nx+j) = .dead) :
 ∃ V',Good base M w0 V hp w nx (dt rs d nx).1 (dt rs d nx).2 (DK rs d) v w' V':=by
 obtain⟨⟨Z1,bs,vs,rfl,h1,h2,h3,h4⟩,hk⟩:=hr
 have hlen:=IA nx h1
 have x:=VX.rG m hk (nx:=nx) (es:=(dt rs d nx).2) (bs:=bs) (Z:=Z1) hlen.symm hd
 have hl:l6 (V.ext nx bs Z1) (cZ hp nx (dt rs d nx).2) Z1 nx (dt rs d nx).2 bs:=⟨fun j b hb=>Vl.jQ hb,fun j b hb=>Vl.mL hb,fun j e he=>p7 he,fun b hb=>.inr hb⟩
 obtain⟨g1,g2⟩:=Kt h1 hl
 refine⟨_,⟨m.grow hk hlen.symm hd h2 h3 h4 (fun j cs hj=>?_) (fun j e he=>g2 j e he) (FV rs d nx),x,g1,fun p aJ=>?_⟩⟩
 ·exact (IB rs d nx _ (List.mem_of_getElem? hj) cs rfl).elim
 ·unfold DK at aJ
  split at aJ
  ·injection aJ with aJ;subst aJ;exact sW h1
  ·cases aJ
theorem PY{Z1:Nat->Prop}:∀ {t:Ty} {cs:List Value} {d:t.den} {bs:List (Option Nat)},l7 Z1 w t cs d bs->(∀ b,Z1 b->V.Z true b)->(∀ b,some b∈bs->V.Z true b)->br V hp w (A8 t d) cs:=by
 intro t
 induction t with
 | int k=>intro cs d bs h _ _;obtain⟨⟨rfl,h1⟩,_⟩:=h;exact bc ⟨rfl,h1⟩ bX
 | bool=>intro cs d bs h _ _;obtain⟨h1,_⟩:=h;rw[show cs=_ from h1];exact bc ⟨rfl,trivial⟩ bX
 | str=>intro cs d bs h _ _;obtain⟨⟨rfl,h1⟩,_⟩:=h;exact bc ⟨rfl,h1⟩ bX
 | sl e ih =>
   intro cs d bs h hz hb
   rcases h with ⟨rfl,rfl,rfl⟩|⟨b,cap,ay,el,rfl,rfl,h1,h2,h3,h4,h5⟩
   ·exact bc ⟨none,0,rfl,Nat.le_refl _,Nat.zero_le _,fun i hi=>absurd hi (Nat.not_lt_zero _)⟩ bX
   ·refine bc ⟨some ⟨b,0,none⟩,cap,rfl,h3,h4,fun i hi=>?_⟩ bX
    obtain⟨es,g1,g2,g3⟩:=h5 i hi
    refine⟨⟨b,0,none⟩,rfl,rfl,hb b (List.mem_singleton.2 rfl),es,g1,fun j hj=>?_,g3.mono (fun b hb=>hz b hb) (fun _ _=>rfl)⟩
    rw[Nat.zero_add,show w.cell? ⟨b,i*e.size+j,none⟩=ay[i*e.size+j]? from by simp[World.cell?,h1]]
    exact g2 j _ (List.getElem?_eq_getElem hj)
 | st t ih=>exact fun h hz hb=>ih h hz hb
 | pr a b eM eN =>
   intro cs d bs h hz hb
   obtain⟨c1,c2,b1,b2,rfl,rfl,h1,h2⟩:=h
   unfold A8
   rw[bN]
   exact fi (eM h1 hz (fun b h=>hb b (List.mem_append_left _ h))) (eN h2 hz (fun b h=>hb b (List.mem_append_right _ h)))
 | ptr t ih=>intro cs d bs h _ _;exact h.elim
 | bS f t ih=>intro cs d bs h _ _;exact h.elim
 | gs wh e ih=>intro cs d bs h _ _;exact h.elim
theorem OV{Z1:Nat->Prop}{ts:List Ty}{vs:List Value}{d:bU ts}{bs:List (Option Nat)}(h:gu Z1 w ts vs d bs)(hz:∀ b,Z1 b->V.Z true b)(hb:∀ b,some b∈bs->V.Z true b):S.ok V hp w (MB ts d) (mV vs):=by
 match ts,d,h with
 | [],d,h=>exact trivial
 | [t],d,h =>
   obtain⟨v,rfl,cs,h1,h2⟩:=h
   have g1:=PY (V:=V) (hp:=hp) h2 hz hb
   show S.ok V hp w (nU (nR t,A8 t d)) v
   unfold qS at h1
   unfold nU
   simp only
   split
   ·rename_i ht;rw[if_pos ht] at h1;exact⟨_,h1,by simpa using g1⟩
   ·rename_i ht
    rw[if_neg ht] at h1
    subst h1
    match hf:A8 t d,g1 with
    | [c],g1=>exact g1.2 0 c v rfl rfl
    | [],g1=>exact trivial
    | _::_::_,g1=>exact trivial
 | t::u::r,d,h=>exact trivial
theorem yB{base:Nat}{M:LM}{w0 w':World}(m:Mem base M w0 V hp w){nx:Nat}{fz:Bool}{rs:List Ty}{d:bU rs}{v:Value}(hr:vr w w' rs v d)(hd:∀ j,j<(vu fz rs d nx).2.length->hp (nx+j) = .dead) :
 ∃ V',Good base M w0 V hp w nx (vu fz rs d nx).1 (vu fz rs d nx).2 (DK rs d) v w' V':=by
 cases fz with
 | false=>exact Kw m hr hd
 | true =>
   obtain⟨⟨Z1,bs,vs,rfl,h1,h2,h3,h4⟩,hk⟩:=hr
   have cG:∀ j,j<([]:List az).length->hp (nx+j) = .dead:=fun j hj=>absurd hj (Nat.not_lt_zero _)
   have x:=VX.rG m hk (nx:=nx) (es:=[]) (bs:=[]) (Z:=fun b=>w.heap.size<=b/\b<w'.heap.size) rfl cG
   have g1:S.ok (V.ext nx [] (fun b=>w.heap.size<=b/\b<w'.heap.size)) (cZ hp nx []) w' (MB rs d) (mV vs):=OV h1 (fun b hb=>.inl (.inr (h4 b hb))) (fun b hb=>.inl (.inr ⟨(h3 b hb).1,(h3 b hb).2.1⟩))
   refine⟨_,⟨m.grow hk rfl cG (by simp) (fun b hb=>by cases hb) (fun b hb=>hb) (fun j cs hj=>by cases hj) (fun j e he=>by cases he) (fun e he=>by cases he),x,g1,fun p aJ=>?_⟩⟩
   unfold DK at aJ
   split at aJ
   ·injection aJ with aJ;subst aJ;exact sW h1
   ·cases aJ
end
end Go.SX
/- Every operation that writes nothing. No condition. -/
namespace Go.SX
open Go.RowKit
set_option linter.unusedVariables false
set_option linter.unusedSimpArgs false
def iP (P : Program) (f : FuncId) : Prop := ∃ fn, P.funcs[f]? = some fn ∧ (fn.name == "runtime.NumGoroutine") = false ∧ fn.body.isNone = false
def eQ(P:Program)(Γ:FuncId->Option PC):Prop:=∀ f c,Γ f=some c->vq P f c/\iP P f
theorem E5{P:Program}{f:FuncId}(h:iP P f)(args:Array Value)(w:World):(callFunc f args).run P w = .ok (.enter f args) w:=by
 obtain⟨fn,h1,h2,h3⟩:=h
 simp only[callFunc,Sem.run_bind,run_program,Result.andThen_ok,h1]
 rw[if_neg (by rw[h2];simp)]
 rw[if_neg (by rw[h3];simp)]
 rfl
section
variable {P : Program} {T : bT} {Γ : FuncId → Option PC} {base : Nat} {M : LM} {w0 : World} {V : Vl} {hp lk : Nat → az} {w : World} {a : Act} {ev : Operand → S}
  {next : Act → World → Prop} {Q : Exit → Act → World → Prop}
theorem cw{o:Oper}{v:Value}{w':World}(hr:(execOp a.eval o).run P w = .ok (.value v) w')(h:next (a.put o.dst v) w'):o.wp P a w next Q:=by
 unfold Oper.wp
 rw[hr]
 exact h
theorem wp_pure(m:Mem base M w0 V hp w){o:Oper}{r:QR}{e:Sem Value}{nx:Nat}(aJ:eC P V hp w r e)(he:execOp a.eval o=(do pure (.value (<-e))))
 (h:∀ v w' V',Good base M w0 V hp w nx r.res r.new r.hy v w' V'->next (a.put o.dst v) w'):o.wp P a w next Q:=by
 obtain⟨h1,h2,v,h3,h4⟩:=aJ
 refine cw (v:=v) (w':=w) ?_ (h v w V ?_)
 ·rw[he];simp[h3]
 ·rw[h1,h2];exact dz m h4
theorem mX{f:Operand->S}{g:Operand->Value}(h:∀ x,S.ok V hp w (f x) (g x)):∀ l:List (Nat×Operand),jk V hp w (l.map fun p=>(p.1,f p.2)) (l.map fun p=>(p.1,g p.2))
 | []=>trivial
 | p::r=>⟨rfl,h p.2,mX h r⟩
theorem AY(cO:∀ x,S.ok V hp w (ev x) (a.eval x)):∀ {l:List Operand} {ns:List Nat},oT (l.map ev)=some ns →
 l.map a.eval=ns.map (fun n=>Value.pointer (some ⟨V.aI n,0,none⟩))/\∀ n∈ns,V.has n/\∃ cs,hp n = .bx cs
 | [],ns,h=>by simp only[List.map_nil,oT,Option.some.injEq] at h;subst h;exact⟨rfl,fun n hn=>by simp at hn⟩
 | x::l,ns,h=>by
   simp only[List.map_cons] at h
   unfold oT at h
   split at h
   ·rename_i heq;cases heq
   ·rename_i n r heq
    simp only[List.cons.injEq] at heq
    obtain⟨e1,e2⟩:=heq
    rw[dB] at h
    cases hc:oT r with
    | none=>rw[hc] at h;cases h
    | some ms =>
      rw[hc] at h
      simp only[Option.map_some,Option.some.injEq] at h
      subst h
      rw[<-e2] at hc
      obtain⟨g1,g2⟩:=AY cO hc
      have hx:=cO x
      rw[e1] at hx
      obtain⟨k1,k2,k3⟩:=hx
      refine⟨by simp[g1,k1],fun q hq=>?_⟩
      simp only[List.mem_cons] at hq
      rcases hq with rfl|hq
      ·exact⟨k2,k3⟩
      ·exact g2 q hq
   ·cases h
theorem Mr(cO:∀ x,S.ok V hp w (ev x) (a.eval x)){l:Array Operand}{x:C}(h:l.toList.map ev=[.c x]):∃ y,l = #[y]/\C.ok V hp w x (a.eval y):=by
 cases l with
 | mk l =>
   cases l with
   | nil=>cases h
   | cons y l =>
     simp only[List.map_cons,List.cons.injEq,List.map_eq_nil_iff] at h
     obtain⟨h1,rfl⟩:=h
     have:=cO y
     rw[h1] at this
     exact⟨y,rfl,this⟩
theorem CZ(cO:∀ x,S.ok V hp w (ev x) (a.eval x)){l:Array Operand}{x y:C}(h:l.toList.map ev=[.c x,.c y]):∃ p q,l = #[p,q]/\C.ok V hp w x (a.eval p)/\C.ok V hp w y (a.eval q):=by
 cases l with
 | mk l =>
   cases l with
   | nil=>cases h
   | cons p l =>
     cases l with
     | nil=>simp at h
     | cons q l =>
       simp only[List.map_cons,List.cons.injEq,List.map_eq_nil_iff] at h
       obtain⟨h1,h2,rfl⟩:=h
       have g1:=cO p
       have g2:=cO q
       rw[h1] at g1
       rw[h2] at g2
       exact⟨p,q,rfl,g1,g2⟩
theorem FN{o:Oper}{c:Call}{g:FuncId}{x:Operand}{da:Array Value}(ho:o.op = .call c)(hc:c.callee = .value x)(hv:a.eval x = .func (.func g) #[] da)(hk:iP P g){R:Ending->World->Prop}
 (sG:Calls P g (c.args.map a.eval++da) w R) (h:∀ e w',R e w'->∃ v,e = .returned v/\next (a.put o.dst v) w'):o.wp P a w next Q:=by
 unfold Oper.wp execOp
 simp only[ho,resolve,hc,hv,Deferred.ofValue,invoke,Sem.run_bind,Sem.run_pure,Result.andThen_ok,Array.append_empty,Array.empty_append,E5 hk]
 refine Calls.mono sG fun e w' hr=>?_
 obtain⟨v,rfl,hn⟩:=h e w' hr
 exact hn
theorem AH{o:Oper}{c:Call}{g:FuncId}{x:Operand}(ho:o.op = .call c)(hc:c.callee = .value x)(hx:C.ok V hp w (.fn g []) (a.eval x))(hk:iP P g){R:Ending->World->Prop}
 (sG:Calls P g (c.args.map a.eval) w R) (h:∀ e w',R e w'->∃ v,e = .returned v/\next (a.put o.dst v) w'):o.wp P a w next Q :=
 FN (da := #[]) ho hc (by rw[hx.1];rfl) hk (by rw[Array.append_empty];exact sG) h
theorem LL(hT:bJ P T)(hΓ:eQ P Γ)(m:Mem base M w0 V hp w)(hl:iz V hp lk w)(cO:∀ x,S.ok V hp w (ev x) (a.eval x)){o:Oper}{r:QR}{nx:Nat}
 (hq:fw T Γ lk nx ev o.op=some r) (hd:∀ j,j<r.new.length->hp (nx+j) = .dead) (cP:∀ p,r.ob=some p->p)
 (h:∀ v w' V',Good base M w0 V hp w nx r.res r.new r.hy v w' V'->next (a.put o.dst v) w'):o.wp P a w next Q:=by
 obtain⟨dst,op,ty,pos,UO,gd⟩:=o
 simp only at hq
 cases op with
 | move x =>
   simp only[fw,Option.some.injEq] at hq;subst hq
   exact cw (v:=a.eval x) rfl (h _ _ _ (dz m (cO x)))
 | assign x =>
   simp only[fw,Option.some.injEq] at hq;subst hq
   exact cw (v:=a.eval x) rfl (h _ _ _ (dz m (cO x)))
 | pick c x y =>
   simp only[fw,dB] at hq
   cases hs:CF (ev c) (ev x) (ev y) with
   | none=>rw[hs] at hq;cases hq
   | some s =>
     rw[hs] at hq
     simp only[Option.map_some,Option.some.injEq] at hq;subst hq
     obtain⟨p,h1,h2⟩:=LN hs (cO c) (cO x) (cO y)
     refine cw (v:=if p then a.eval x else a.eval y) ?_ (h _ _ _ (dz m h2))
     simp only[execOp,h1,Sem.run_bind,Sem.run_pure,Result.andThen_ok]
 | alloc t =>
   simp only[fw] at hq
   unfold LI at hq
   cases ht:T t with
   | none=>rw[ht] at hq;cases hq
   | some ti =>
     rw[ht] at hq
     simp only at hq
     obtain⟨⟨i,z,g1,g2,g3,g4,g5,g6⟩,g7,g8⟩:=d_ (hT t ti ht)
     have uC:hp nx = .dead:=by
      split at hq<;>(simp only[Option.some.injEq] at hq;subst hq;exact hd 0 (by simp))
     split at hq
     ·rename_i len te es n cF hk
      simp only[Option.some.injEq] at hq;subst hq
      obtain⟨a0,a1,⟨i2,a2,a3⟩,a4,a5,a6,a7,a8,a9⟩:=Fa (hT t ti ht) hk
      obtain⟨V',hg⟩:=jw m uC ti.zero.toArray t (.row true cF (List.replicate n cF.en)) (.c (.dR nx 0 0)) (.pointer (some ⟨w.heap.size,0,none⟩)) (fun h=>h)
       (fun V' aJ w' x k1 k2 k3 k4=>by
         refine⟨.inr ⟨k1,_,t,by rw[k2];exact k4,by rw[List.length_replicate];unfold cQ;omega,fun j hj=>?_⟩,k1,true,cF,_,k3,by rw[List.length_replicate];omega,by rw[k2,Nat.zero_mul]⟩
         obtain⟨ky,q1,q2,q3⟩:=BJ (Z:=V'.Z true) (w':=w') a5 n j hj
         exact⟨ky,q1,fun a u hu=>by rw[a0];simpa using q2 a u hu,q3⟩)
      refine cw ?_ (h _ _ _ hg)
      simp only[execOp,Instr.alloc,Sem.run_bind,ik g1 g4,Result.andThen_ok,newVar,newRow,g5,run_newObj_alloc,Sem.run_pure]
     ·simp only[Option.some.injEq] at hq;subst hq
      obtain⟨V',hg⟩:=jw m uC ti.zero.toArray t (.bx (lmap cell ti.zero)) (.c (.box nx 0)) (.pointer (some ⟨w.heap.size,0,none⟩)) (fun h=>h)
       (fun V' aJ w' x k1 k2 k3 k4=>⟨⟨_,t,by rw[k2];exact k4,by simpa using g6 V' aJ w'⟩,by rw[<-k2];exact⟨rfl,k1,_,k3⟩⟩)
      refine cw ?_ (h _ _ _ hg)
      simp only[execOp,Instr.alloc,Sem.run_bind,ik g1 g4,Result.andThen_ok,newVar,newRow,g5,run_newObj_alloc,Sem.run_pure]
 | box t x =>
   simp only[fw] at hq
   cases hc:(ev x).cells with
   | none=>rw[hc] at hq;cases hq
   | some cs =>
     rw[hc] at hq
     simp only[Option.some.injEq] at hq;subst hq
     have ho:=r4 hc (cO x)
     have uC:hp nx = .dead:=hd 0 (by simp)
     obtain⟨V',hg⟩:=jw m uC (a.eval x).cells t (.bx cs) (.c (.box nx 0)) (.pointer (some ⟨w.heap.size,0,none⟩)) (fun h=>h)
      (fun V' aJ w' x k1 k2 k3 k4=>⟨⟨_,t,by rw[k2];exact k4,kG x ho⟩,by rw[<-k2];exact⟨rfl,k1,_,k3⟩⟩)
     refine cw ?_ (h _ _ _ hg)
     simp only[execOp,Instr.box,Sem.run_bind,newVar,newRow,run_newObj_alloc,Result.andThen_ok,Sem.run_pure]
 | build t parts =>
   simp only[fw,bP] at hq
   have lS:=mX cO parts.toList
   exact wp_pure m (Jq (qs:=parts.map fun (i,x)=>(i,a.eval x)) hT hq (by simpa using lS)) rfl h
 | buildSlice t n parts =>
   simp only[fw,bP] at hq
   have lS:=mX cO parts.toList
   have km:hp nx = .dead:=by
    have bo:0<r.new.length:=by
     unfold ix at hq
     cases he:ia T t with
     | none =>
       rw[he] at hq
       simp only at hq
       unfold vM at hq
       split at hq
       ·split at hq
        ·injection hq with hq;subst hq;simp
        ·cases hq
       ·cases hq
     | some e =>
       rw[he] at hq
       simp only at hq
       unfold nT at hq
       split at hq
       ·rw[dB] at hq
        cases hs:hJ lk (yQ e (parts.toList.map fun p=>(p.1,ev p.2))) 0 (parts.toList.map fun p=>(p.1,ev p.2)) with
        | none=>rw[hs] at hq;cases hq
        | some xs=>rw[hs] at hq;simp only[Option.map_some,Option.some.injEq] at hq;subst hq;simp
       ·cases hq
    exact hd 0 bo
   obtain⟨v,w',V',h1,h2⟩:=qd (qs:=parts.map fun (i,x)=>(i,a.eval x)) hT m km hq (by simpa using lS)
   refine cw (v:=v) (w':=w') ?_ (h _ _ _ h2)
   simp only[execOp,Sem.run_bind,h1,Result.andThen_ok,Sem.run_pure]
 | load t p =>
   simp only[fw] at hq
   have ie:=cO p
   cases hc:ev p with
   | c x =>
     rw[hc] at hq ie
     exact wp_pure m (By hT hl hq ie) rfl h
   | _=>rw[hc] at hq;cases hq
 | nilCheck x =>
   simp only[fw] at hq
   split at hq
   ·rename_i IL
    simp only[Option.some.injEq] at hq;subst hq
    have hx:=cO x
    refine cw (v:=a.eval x) (w':=w) ?_ (h _ _ _ (dz m hx))
    cases hc:ev x with
    | c y =>
      rw[hc] at IL hx
      cases y with
      | box n off=>simp only[execOp,hx.1,Sem.run_bind,Sem.run_pure]
      | at_ fr t d off=>obtain⟨b,o,e1,_⟩:=hx;simp only[execOp,e1,Sem.run_bind,Sem.run_pure]
      | dR n i off=>obtain⟨_,_,_,_,_,_,e1⟩:=hx;simp only[execOp,e1,Sem.run_bind,Sem.run_pure]
      | fn f da=>simp only[execOp,hx.1,Sem.run_bind,Sem.run_pure]
      | _=>cases IL
    | _=>rw[hc] at IL;cases IL
   ·cases hq
 | binOp op xt x y yt =>
   simp only[fw] at hq
   have h1:=cO x
   have h2:=cO y
   cases hc:ev x with
   | c u =>
     cases gT:ev y with
     | c v=>rw[hc,gT] at hq;rw[hc] at h1;rw[gT] at h2;exact wp_pure m (LK hT hq cP h1 h2 x y) rfl h
     | _=>rw[hc,gT] at hq;cases hq
   | agg u =>
     cases gT:ev y with
     | agg v =>
       rw[hc,gT] at hq;rw[hc] at h1;rw[gT] at h2
       obtain⟨us,e1,g1⟩:=h1
       obtain⟨vs,e2,g2⟩:=h2
       have hr:=LJ hT hq g1 g2 x y
       rw[<-e1,<-e2] at hr
       exact wp_pure m hr rfl h
     | _=>rw[hc,gT] at hq;cases hq
   | _=>rw[hc] at hq;cases hq
 | unOp op xt x =>
   simp only[fw] at hq
   have h1:=cO x
   cases hc:ev x with
   | c u=>rw[hc] at hq h1;exact wp_pure m (O9 hq h1) rfl h
   | _=>rw[hc] at hq;cases hq
 | convert s t x =>
   simp only[fw] at hq
   have h1:=cO x
   split at hq
   ·rename_i ti k sz jJ z wZ lL k' n hs heq hx
    simp only[Option.some.injEq] at hq;subst hq
    rw[hx] at h1
    obtain⟨e1,_⟩:=ok_int (V:=V) (hp:=hp) (w:=w) h1
    have hu:=K7 (d_ (hT t _ heq)).2.2
    obtain⟨d,cG,_⟩:=L5 (hT s ti hs)
    refine cw (v:=.int k (k.wrap n)) (w':=w) ?_ (h _ _ _ (dz m ⟨rfl,ey _ _⟩))
    simp[execOp,convert,run_underlying cG,run_underlying hu,e1,Conv.intToInt]
   ·rename_i e es eb cF sz jJ z wZ lL Vb UP z2 Ve UM c SN SO hx
    split at hq
    ·rename_i Vc UQ z3 Vf UN SP
     cases fg:my lk (.int .u8) c with
     | none=>rw[fg] at hq;cases hq
     | some xs =>
       rw[fg] at hq
       simp only[omap,Option.some.injEq] at hq;subst hq
       rw[hx] at h1
       obtain⟨So,_⟩:=mA (d_ (hT s _ SN)).2.2
       have Sn:=K7 (d_ (hT e _ SP)).2.2
       have Sp:Program.underlying P t=some .string:=by
        have hk:=(d_ (hT t _ SO)).2.2
        unfold gn at hk
        simp only at hk
        split at hk<;>first|assumption|cases hk
       obtain⟨av,cap,Qa,UE,hlen,rn⟩:=HU hl fg h1
       have Qa:a.eval x = .slice av xs.length cap:=by injection Qa
       have ck:(strOfNums xs).size<=maxLen:=by
        rw[strOfNums_size]
        unfold cQ at hlen
        unfold maxLen
        omega
       have Ru:(convert s t (.slice av xs.length cap)).run P w = .ok (.string (strOfNums xs)) w:=by
        match xs,rn with
        | [],_ =>
          show (convert s t (.slice av 0 cap)).run P w=_
          rw[run_convert_bytes_string w s t e av 0 cap So Sn Sp]
          cases av<;>simp[Conv.bytesToString,loadCells]
          all_goals rfl
        | y::ys,rn =>
          obtain⟨ad,e5,e6,_,_⟩:=rn 0 (by simp)
          obtain⟨b,o,sp⟩:=ad
          simp only at e6
          subst e6;subst e5
          refine run_convert_bytes_arg w s e So Sn b o _ cap (y::ys) rfl (fun i hi=>?_) t Sp
          obtain⟨ad,f1,f2,_,cs,f3,f4,f5⟩:=rn i hi
          injection f1 with f1
          subst f1
          obtain⟨f6,_⟩:=(f5:cs=[.int .u8 _]/\_)
          subst f6
          have f7:=f4 0 (by simp)
          rw[show (Ty.int u8).size=1 from rfl,Nat.mul_one,Nat.add_zero] at f7
          rw[f7,List.getD_eq_getElem?_getD,List.getElem?_eq_getElem hi]
          rfl
       refine cw (v:=.string (strOfNums xs)) (w':=w) ?_ (h _ _ _ (dz m ⟨rfl,ck⟩))
       simp[execOp,Qa,Ru]
    ·cases hq
   ·cases hq
 | makeSlice t l c =>
   simp only[fw] at hq
   have h1:=cO l
   have h2:=cO c
   cases hc:ev l with
   | c u =>
     cases gT:ev c with
     | c v =>
       rw[hc,gT] at hq;rw[hc] at h1;rw[gT] at h2
       have uC:hp nx = .dead:=by
        have bo:0<r.new.length:=by
         simp only at hq
         unfold ou at hq
         split at hq
         ·split at hq
          ·injection hq with hq;subst hq;simp
          ·cases hq
         ·cases hq
        exact hd 0 bo
       obtain⟨x,w',V',g1,g2⟩:=Al hT m uC hq cP h1 h2
       refine cw (v:=x) (w':=w') ?_ (h _ _ _ g2)
       simp only[execOp,Sem.run_bind,g1,Result.andThen_ok,Sem.run_pure]
     | _=>rw[hc,gT] at hq;cases hq
   | _=>rw[hc] at hq;cases hq
 | slice t x lo hi mx =>
   cases mx with
   | some _=>cases hq
   | none =>
     simp only[fw,dB] at hq
     have h1:=cO x
     cases hc:ev x with
     | c u =>
       rw[hc] at hq h1
       refine wp_pure m (Jr (lv:=lo.map a.eval) (hv:=hi.map a.eval) hT hl hq cP h1 ?_ ?_ ?_ ?_) rfl h
       ·intro s v hs hv
        cases lo with
        | none=>cases hs
        | some y=>simp only[Option.map_some,Option.some.injEq] at hs hv;rw[<-hs,<-hv];exact cO y
       ·cases lo<;>simp
       ·intro s v hs hv
        cases hi with
        | none=>cases hs
        | some y=>simp only[Option.map_some,Option.some.injEq] at hs hv;rw[<-hs,<-hv];exact cO y
       ·cases hi<;>simp
     | _=>rw[hc] at hq;cases hq
 | fieldAddr t x f =>
   simp only[fw] at hq
   have h1:=cO x
   cases hc:ev x with
   | c u=>rw[hc] at hq h1;exact wp_pure m (Ah hT hq h1) rfl h
   | _=>rw[hc] at hq;cases hq
 | field t x f =>
   simp only[fw] at hq
   have h1:=cO x
   split at hq
   ·rename_i off n ag cs hf hx
    rw[hx] at h1
    rw[dB] at hq
    cases Qt:partOf cs off n with
    | none=>rw[Qt] at hq;cases hq
    | some r' =>
      rw[Qt] at hq
      simp only[Option.map_some,Option.some.injEq] at hq;subst hq
      obtain⟨vs,e1,ho⟩:=h1
      obtain⟨k1,k2⟩:=mW Qt
      obtain⟨fields,fd,j,d,g1,g2,g3,g4,g5,g6,g7,g8⟩:=et hT hf
      have bF:=jB (jA ho off) n
      rw[<-k1] at bF
      simp only at g3 g6 g8
      have hlen:((vs.toList.drop off).take n).length=n:=by rw[<-bF.1,k2]
      have Qq:off+n<=vs.size:=by
       rw[List.length_take,List.length_drop] at hlen
       have:0<n:=Nat.pos_of_ne_zero g4
       simp at hlen;omega
      cases ag with
      | true =>
        refine cw (v:=.agg (vs.extract off (off+n))) (w':=w) ?_ (h _ _ _ (dz m ⟨vs.extract off (off+n),rfl,?_⟩))
        ·simp only[execOp,Instr.field,part,e1,asAgg,Sem.run_bind,run_underlying g1,Result.andThen_ok,g2,Sem.run_pure,np g7,g8,if_true,run_sizeOf g5,g6,g3]
        ·rw[Array.toList_extract]
         have:(vs.toList.take (off+n)).drop off=(vs.toList.drop off).take n:=by rw[List.drop_take];simp
         simpa[List.extract_eq_take_drop,this] using bF
      | false =>
        have Sg:n=1\/n≠1:=by omega
        have KZ:∃ v,vs[off]? = some v:=⟨vs[off]'(by have:0<n:=Nat.pos_of_ne_zero g4;omega),Array.getElem?_eq_getElem _⟩
        obtain⟨v,hv⟩:=KZ
        refine cw (v:=v) (w':=w) ?_ (h _ _ _ (dz m ?_))
        ·simp only[execOp,Instr.field,part,e1,asAgg,Sem.run_bind,run_underlying g1,Result.andThen_ok,g2,Sem.run_pure,np g7,g8,Bool.false_eq_true,if_false,g3,hv]
        ·show S.ok V hp w (nU (false,r')) v
         unfold nU
         simp only[Bool.false_eq_true,if_false]
         split
         ·obtain⟨v',cg,e2,k3,_⟩:=cj bF
          have hn:n=1:=by simpa using k2.symm
          have:((vs.toList.drop off).take n)[0]? = some v:=by
           rw[List.getElem?_take,if_pos (by omega),List.getElem?_drop]
           simpa using hv
          rw[e2] at this
          simp only[List.getElem?_cons_zero,Option.some.injEq] at this
          rw[<-this];exact k3
         ·trivial
   ·cases hq
 | indexAddr t x i =>
   simp only[fw] at hq
   have h1:=cO x
   have h2:=cO i
   cases hc:ev x with
   | c u =>
     cases gT:ev i with
     | c v=>rw[hc,gT] at hq;rw[hc] at h1;rw[gT] at h2;exact wp_pure m (Aj hT hl hq cP h1 h2) rfl h
     | _=>rw[hc,gT] at hq;cases hq
   | _=>rw[hc] at hq;cases hq
 | extract x i =>
   simp only[fw] at hq
   have h1:=cO x
   cases hc:ev x with
   | vl vs =>
     rw[hc] at hq h1
     simp only[dB,dc] at hq
     cases hv:vs[i]? with
     | none=>rw[hv] at hq;cases hq
     | some y =>
       rw[hv] at hq
       simp only[Option.map_some,Option.some.injEq] at hq;subst hq
       obtain⟨us,e1,e2,e3⟩:=h1
       have aK:=(List.getElem?_eq_some_iff.1 hv).1
       have hu:us[i]? = some (us[i]'(by omega)):=Array.getElem?_eq_getElem _
       refine cw (v:=us[i]'(by omega)) (w':=w) ?_ (h _ _ _ (dz m (H5 (e3 i y _ hv hu))))
       simp only[execOp,Instr.extract,e1,hu,Sem.run_bind,Sem.run_pure,Result.andThen_ok]
   | _=>rw[hc] at hq;cases hq
 | makeFunc fn first captured =>
   cases fn with
   | func f =>
     simp only[fw] at hq
     split at hq
     ·rename_i Tx
      rw[dB,bP] at hq
      cases hc:oT (captured.toList.map ev) with
      | none=>rw[hc] at hq;cases hq
      | some ns =>
        rw[hc] at hq
        simp only[Option.map_some,Option.some.injEq] at hq;subst hq
        obtain⟨g1,g2⟩:=AY cO hc
        refine cw (v:=.func (.func f) #[] (captured.map a.eval)) (w':=w) ?_ (h _ _ _ (dz m ⟨?_,g2⟩))
        ·have:first = #[]:=by cases first;simp_all
         subst this
         simp[execOp,Instr.makeFunc]
        ·congr 1
         apply Array.ext'
         simpa using g1
     ·cases hq
   | _=>cases hq
 | call c =>
   simp only[fw] at hq
   split at hq
   ·rename_i b hb
    rw[bP] at hq
    unfold EU at hq
    split at hq
    ·rename_i t x P9 Kz
     rw[dB] at hq
     cases hn:IU T lk t x with
     | none=>rw[hn] at hq;cases hq
     | some n =>
       rw[hn] at hq
       simp only[Option.map_some,Option.some.injEq] at hq;subst hq
       obtain⟨y,hy,Uc⟩:=Mr cO Kz
       have SL:c.argTypes = #[t]:=by cases Ts:c.argTypes;rw[Ts] at P9;simp at P9;rw[P9]
       obtain⟨g1,g2⟩:=M4 (ty:=ty) hT m.dx hl hn Uc
       refine cw (v:=.int .i64 n) (w':=w) ?_ (h _ _ _ (dz m ⟨rfl,g2⟩))
       simp only[execOp,resolve,hb,invoke,builtin,hy,SL,Sem.run_bind,Sem.run_pure,Result.andThen_ok,List.map_toArray,List.map_cons,List.map_nil,g1]
    ·rename_i k x k' y Kz
     split at hq
     ·rename_i hk
      subst hk
      simp only[Option.some.injEq] at hq;subst hq
      obtain⟨p,q,Qu,h1,h2⟩:=CZ cO Kz
      obtain⟨e1,g1⟩:=ok_int h1
      obtain⟨e2,g2⟩:=ok_int h2
      refine cw (v:=.int k' (ly x y)) (w':=w) ?_ (h _ _ _ (dz m ⟨rfl,?_⟩))
      ·simp[execOp,resolve,hb,invoke,builtin,Qu,e1,e2,Builtin.min_,Builtin.min2,ly]
      ·show k'.min<=ly x y/\ly x y<=k'.max
       unfold ly;split<;>assumption
     ·cases hq
    ·rename_i k x k' y Kz
     split at hq
     ·rename_i hk
      subst hk
      simp only[Option.some.injEq] at hq;subst hq
      obtain⟨p,q,Qu,h1,h2⟩:=CZ cO Kz
      obtain⟨e1,g1⟩:=ok_int h1
      obtain⟨e2,g2⟩:=ok_int h2
      refine cw (v:=.int k' (imax x y)) (w':=w) ?_ (h _ _ _ (dz m ⟨rfl,?_⟩))
      ·simp[execOp,resolve,hb,invoke,builtin,Qu,e1,e2,Builtin.max_,Builtin.max2,imax]
      ·show k'.min<=imax x y/\imax x y<=k'.max
       unfold imax;split<;>assumption
     ·cases hq
    ·cases hq
   ·rename_i x hx
    have h1:=cO x
    split at hq
    ·rename_i g hg
     rw[hg] at h1
     rw[bP] at hq
     unfold CE at hq
     cases hc:Γ g with
     | none=>rw[hc] at hq;cases hq
     | some pc =>
       rw[hc] at hq
       simp only at hq
       cases cG:kt lk pc.ts (c.args.toList.map ev) with
       | none=>rw[cG] at hq;cases hq
       | some d =>
         rw[cG] at hq
         simp only[Option.some.injEq] at hq;subst hq
         obtain⟨k1,k2⟩:=hΓ g pc hc
         have hargs:=wU hl pc.ts (vs:=c.args.toList.map a.eval) cG (by simp) (fun i s v hi hv=>by
          rw[List.getElem?_map] at hi hv
          cases jX:c.args.toList[i]? with
          | none=>rw[jX] at hi;cases hi
          | some y =>
            rw[jX] at hi hv
            simp only[Option.map_some,Option.some.injEq] at hi hv
            rw[<-hi,<-hv];exact cO y)
         have sG:=k1 w _ d hargs (cP _ rfl)
         refine AH (R:=fun e w'=>∃ v,e = .returned v/\vr w w' pc.rs v (pc.F d)) rfl hx h1 k2 (by rw[show c.args.map a.eval=(c.args.toList.map a.eval).toArray from Array.ext' (by simp)];exact sG) (fun e w' hr=>?_)
         obtain⟨v,rfl,hr⟩:=hr
         obtain⟨V',KH⟩:=yB m hr hd
         exact⟨v,rfl,h v w' V' KH⟩
    ·rename_i fr g t d0 hg
     rw[hg] at h1
     rw[bP,bP,bN] at hq
     unfold CE at hq
     cases hc:Γ g with
     | none=>rw[hc] at hq;cases hq
     | some pc =>
       rw[hc] at hq
       simp only at hq
       cases cG:kt lk pc.ts (c.args.toList.map ev++(expand fr t d0).map S.c) with
       | none=>rw[cG] at hq;cases hq
       | some d =>
         rw[cG] at hq
         simp only[Option.some.injEq] at hq;subst hq
         obtain⟨k1,k2⟩:=hΓ g pc hc
         have ux:aH (V.Z fr) w (.bS g t) [a.eval x] d0:=h1
         obtain⟨da,e1,e2⟩:=ux
         injection e1 with e1 _
         have ho:=ni (V:=V) (hp:=hp) fr t e2
         have hargs:=wU hl pc.ts (vs:=c.args.toList.map a.eval++da.toList) cG (by simp[ho.1]) (fun i s v hi hv=>by
          rcases Nat.lt_or_ge i c.args.toList.length with aK|dU
          ·rw[List.getElem?_append_left (by simpa using aK),List.getElem?_map] at hi
           rw[List.getElem?_append_left (by simpa using aK),List.getElem?_map] at hv
           cases jX:c.args.toList[i]? with
           | none=>rw[jX] at hi;cases hi
           | some y =>
             rw[jX] at hi hv
             simp only[Option.map_some,Option.some.injEq] at hi hv
             rw[<-hi,<-hv];exact cO y
          ·rw[List.getElem?_append_right (by simpa using dU),List.getElem?_map] at hi
           rw[List.getElem?_append_right (by simpa using dU)] at hv
           simp only[List.length_map] at hi hv
           cases hy:(expand fr t d0)[i-c.args.toList.length]? with
           | none=>rw[hy] at hi;cases hi
           | some y =>
             rw[hy] at hi
             simp only[Option.map_some,Option.some.injEq] at hi
             rw[<-hi]
             exact ho.2 _ y v hy hv)
         have sG:=k1 w _ d hargs (cP _ rfl)
         refine FN (R:=fun e w'=>∃ v,e = .returned v/\vr w w' pc.rs v (pc.F d)) rfl hx e1 k2 (by rw[show c.args.map a.eval++da=(c.args.toList.map a.eval++da.toList).toArray from Array.ext' (by simp)];exact sG) (fun e w' hr=>?_)
         obtain⟨v,rfl,hr⟩:=hr
         obtain⟨V',KH⟩:=yB m hr hd
         exact⟨v,rfl,h v w' V' KH⟩
    ·cases hq
   ·cases hq
 | _=>cases hq
end
end Go.SX
