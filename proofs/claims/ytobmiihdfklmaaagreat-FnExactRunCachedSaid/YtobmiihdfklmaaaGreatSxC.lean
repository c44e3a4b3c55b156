/- A verified symbolic executor and its contracts (part SxC). No condition. -/
import Derived.Test.YtobmiihdfklmaaaGreatSxH
import Derived.IntWalk
import Derived.Test.YtobmiihdfklmaaaGreatSxG
open Go.IntKind (i64 u8)
/- Contracts: what all share. No condition. -/
namespace Go.SF
open Go.SX Go
set_option linter.unusedVariables false
abbrev ae{α:Type}(x:α):Prop:=x=x
abbrev aQ:Prop:=Value.slice none 0 0=Value.slice none 0 0
theorem sxS:(∀ n:Nat,Int.toNat (n:Int)=n)/\(∀ p:Prop,(p/\True)=p)/\(∀ p:Prop,(True/\p)=p)/\(∀ {α:Sort 1},(α->True)=True)/\(∀ {p:Prop},(p->True)=True)/\(∀ b:Bool,((!b)=true)=(b=false))/\(∀ b:Bool,((!b)=false)=(b=true)):=⟨Int.toNat_natCast,and_true,true_and,fun {α}=>implies_true α,fun {p}=>implies_true p,fun b=>Bool.not_eq_true' b,fun b=>Bool.not_eq_false' b⟩
def aP:List (Nat×PC)->FuncId->Option PC
 | [],_=>none
 | (k,c)::r,f=>if f=k then some c else aP r f
def kK:List (Nat×cL)->FuncId->Option cL
 | [],_=>none
 | (k,c)::r,f=>if f=k then some c else kK r f
def ud:cL:=fun _ _ _=>False
def R0:FuncId->Option cL:=fun _=>none
def aY{X:Type}:X->Nat->Option bg:=fun _ _=>none
def si(n:Int):S:=.c (.val (.int .i64 n))
abbrev ai:Ty:=.int .i64
def gg(n:Int):Int:=i64.wrap n
def dG(n:Nat)(left:Int):Int:=if gg (left-n)<0 then -1 else gg (left-n)
def Rx{e:Ty}(x:List e.den)(key i out m:Nat):Nat->Option bg:=fun k =>
 if k=key then some (.mk Nat (fun k=>k<=x.length) (fun st k=>((st.keep m []).aW [(i,si k),(out,.c (.own 0))]).bJ [(0,.row true e (x.take k++List.replicate (x.length-k) e.gh))]) (fun k=>x.length-k) 0 (fun _ _=>none))
 else none
def X9{e:Ty}(x:List e.den×List e.den)(key i m:Nat):Nat->Option bg:=fun k =>
 if k=key then some (.mk Nat (fun k=>k<=x.1.length/\x.1.length=x.2.length/\x.1.take k=x.2.take k) (fun st k=>(st.keep m []).aW [(i,si k)]) (fun k=>x.1.length-k) 0 (fun _ _=>none))
 else none
def gf:PC:={ ts:=[ai,ai,ai],rs:=[.bool],pre:=fun _=>True,F:=fun x=>decide (x.2.1<=x.1)&&decide (x.1<=x.2.2) }
theorem gD{α:Type}{l:List α}{i:Nat}{x:α}(h:i<l.length):l.drop i=l.getD i x::l.drop (i+1):=by
 rw[List.drop_eq_getElem_cons h];simp[h]
theorem wrap_small{n:Int}(h : -9223372036854775808<=n/\n<=9223372036854775807):i64.wrap n=n:=by
 rw[IntKind.wrap_i64];omega
theorem aG{n:Nat}(h:n<9223372036854775807):i64.wrap ((n:Int)+1)=((n+1:Nat):Int):=by
 rw[wrap_small (by omega)];rfl
theorem Bb{α:Type}(l:List α)(z:α){i:Nat}(h:i<l.length):(l.take i++List.replicate (l.length-i) z).set i (l.getD i z)=l.take (i+1)++List.replicate (l.length-(i+1)) z:=by
 apply List.ext_getElem?
 intro j
 simp only[List.getElem?_set,List.getElem?_append,List.getElem?_take,List.getElem?_replicate,List.length_take,List.length_append,List.length_replicate,List.getD_eq_getElem?_getD]
 grind
theorem zY{α:Type}{a b:List α}{z:α}{i:Nat}(hl:a.length=b.length)(hi:i<a.length)(h:a.take i=b.take i):(a.take (i+1)=b.take (i+1)↔a.getD i z=b.getD i z)/\(a=b->a.getD i z=b.getD i z):=by
 refine⟨?_,fun e=>by rw[e]⟩
 rw[List.take_add_one,List.take_add_one,h,List.append_cancel_left_eq]
 rw[List.getElem?_eq_getElem hi,List.getElem?_eq_getElem (show i<b.length by omega)]
 simp[hi,show i<b.length by omega]
end Go.SF
/- Contracts: fields, and lists of their elements. No condition. -/
namespace Go.SF
open Go.SX Go
set_option linter.unusedVariables false
abbrev bW:Ty:=.st (.pr (.int .i64) (.pr (.int .i64) (.int .i64)))
abbrev aj:Ty:=.sl (.int .i64)
abbrev Fd:=Int×Int×Int
def LJ:List Fd:=[(17,3,4),(97,5,5),(193,5,6),(257,3,8),(7681,17,9),(12289,11,12),(998244353,3,23),(469762049,3,26),(1004535809,3,21)]
def ar(f:Int):Fd×Bool:=if 0<=f/\f<9 then (LJ.getD f.toNat (0,0,0),true) else ((0,0,0),false)
def af(f:Int):Int:=(ar f).1.1
def dP(f:Int):Int:=if (ar f).2=true then (ar f).1.2.2 else -1
def r6(n:Int):Nat->Int
 | 0 => -1
 | k+1=>if n=2^(9-k) then ((9-k:Nat):Int) else r6 n k
def aE(n:Int):Int:=r6 n 10
def aq(p:Int)(xs:List Int):Bool:=decide (∀ x∈xs,0<=x/\x<=p-1)
def aC(f:Int)(xs:List Int):Bool:=decide (af f≠0)&&aq (af f) xs
def aH(f:Int)(xs:List Int):Bool:=decide (0<=aE xs.length)&&decide (aE xs.length<=dP f)&&aC f xs
def dg(f:Int)(xs:List Int):Fd×Bool:=if aH f xs=true then ((ar f).1,true) else ((0,0,0),false)
def gL:PC:={ ts:=[ai],rs:=[bW,.bool],pre:=fun _=>True,F:=fun x=>ar x }
def dK:PC:={ ts:=[ai],rs:=[ai],pre:=fun _=>True,F:=fun x=>af x }
def pP:PC:={ ts:=[ai],rs:=[ai],pre:=fun _=>True,F:=fun x=>dP x }
def sq:PC:={ ts:=[ai],rs:=[ai],pre:=fun _=>True,F:=fun x=>aE x }
def oW:PC:={ ts:=[ai],rs:=[ai],pre:=fun _=>True,F:=fun x=>aE x }
def dE:PC:={ ts:=[ai,aj],rs:=[.bool],pre:=fun _=>True,F:=fun x=>aC x.1 x.2 }
def dD:PC:={ ts:=[bW,aj],rs:=[.bool],pre:=fun _=>True,F:=fun x=>aq x.1.1 x.2 }
def kg:PC:={ ts:=[ai,aj],rs:=[.bool],pre:=fun _=>True,F:=fun x=>aH x.1 x.2 }
def jv:PC:={ ts:=[ai,.sl aj],rs:=[bW,.bool],pre:=fun x=>x.2.length=1,F:=fun x=>dg x.1 (x.2.getD 0 []) }
def Ds(x:Int):Nat->Option bg:=fun
 | 6=>some (.mk Nat (fun t=>(t:Int)<=dP x) (fun st t=>(st.keep 4 []).aW [(4,si t),(5,si ((af x-1)/2^t))]) (fun t=>(dP x).toNat-t) 0 (fun _ _=>none))
 | _=>none
def sS(n:Int)(k:Nat):Prop:=k<=10/\∀ j,j<k->n≠2^j
def Lg(x:Int):Nat->Option bg:=fun
 | 2=>some (.mk Nat (fun k=>sS x k) (fun st k=>(st.keep 3 []).aW [(3,si k)]) (fun k=>10-k) 0 (fun _ _=>none))
 | _=>none
def Lc(x:Int):Nat->Option bg:=fun
 | 2=>some (.mk Nat (fun k=>sS x k) (fun st k=>(st.keep 3 []).aW [(4,si k)]) (fun k=>10-k) 0 (fun _ _=>none))
 | _=>none
def EY(p:Int)(xs:List Int)(k:Nat):Prop:=k<=xs.length/\aq p (xs.take k)=true
def xK(x:Int×List Int):Nat->Option bg:=fun
 | 5=>some (.mk Nat (fun k=>EY (af x.1) x.2 k) (fun st k=>(st.keep 6 []).aW [(6,si k)]) (fun k=>x.2.length-k) 0 (fun _ _=>none))
 | _=>none
def xG(x:Fd×List Int):Nat->Option bg:=fun
 | 2=>some (.mk Nat (fun k=>EY x.1.1 x.2 k) (fun st k=>(st.keep 5 [7,8]).aW [(9,si k)]) (fun k=>x.2.length-k) 0 (fun _ _=>none))
 | _=>none
def xI(x:Int×List (List Int)):Nat->Option bg:=fun
 | 5=>some (.mk Nat (fun k=>k<=1/\(k=1->aH x.1 (x.2.getD 0 [])=true)) (fun st k=>(st.keep 8 [19,20]).aW [(21,si k)]) (fun k=>1-k) 0 (fun _ _=>none))
 | _=>none
end Go.SF
/- Contracts: lists of numbers. No condition. -/
namespace Go.SF
open Go.SX Go
set_option linter.unusedVariables false
def tJ:PC:={ ts:=[.sl ai,.sl ai],rs:=[.bool],pre:=fun _=>True,F:=fun x=>decide (x.1=x.2) }
def IE(x:List Int×List Int):=X9 (e:=ai) x 4 5 6
end Go.SF
/- Contracts: plans and turners. No condition. -/
namespace Go.SF
open Go.SX Go
set_option linter.unusedVariables false
def lG:PC:={ ts:=[aj],rs:=[aj],pre:=fun x=>x.length<=1048576,F:=fun x=>x }
def tK:PC:={ ts:=[aj,ai],rs:=[ai],pre:=fun _=>True,F:=fun x=>dG x.1.length x.2 }
def tL:PC:={ ts:=[aj],rs:=[aj],pre:=fun x=>x.length<=1048576,F:=fun x=>x }
def IF(x:List Int):=Rx (e:=ai) x 3 4 3 5
def Fg(x:List Int):Nat->Option bg:=fun
 | 3=>some (.mk Nat (fun k=>k<=x.length) (fun st k=>((st.keep 3 []).aW [(4,si k),(3,.c (.own 0))]).bJ [(0,.row true ai (x.take k))]) (fun k=>x.length-k) 0 (fun _ _=>none))
 | _=>none
end Go.SF
/- Contracts: caches, as they are read. No condition. -/
namespace Go.SF
open Go.SX Go
set_option linter.unusedVariables false
abbrev dV:Ty:=.int .u8
abbrev bp:Ty:=.sl dV
abbrev bd:Ty:=.st (.pr (.int .i64) (.pr aj aj))
abbrev Rs:=Int×List Int×List Int
abbrev dj:Ty:=.st (.pr bp bd)
abbrev En:=List Int×Rs
abbrev bq:Ty:=.st (.pr (.int .i64) (.sl dj))
abbrev Ca:=Int×List En
instance Lv:DecidableEq Rs:=inferInstance
instance X3:DecidableEq En := @instDecidableEqProd (List Int) Rs inferInstance Lv
instance TS:DecidableEq (List En) := @instDecidableEqList En X3
instance X2:DecidableEq Ca := @instDecidableEqProd Int (List En) inferInstance TS
def kQ(a b:Rs):Bool := @decide (a=b) (Lv a b)
def yR(a b:En):Bool := @decide (a=b) (X3 a b)
def tG(a b:List En):Bool := @decide (a=b) (TS a b)
def jL(a b:Ca):Bool := @decide (a=b) (X2 a b)
def gQ:En:=([],0,[],[])
def ou(r:Rs)(l:Int):Int:=if dG r.2.1.length l<0 then -1 else dG r.2.2.length (dG r.2.1.length l)
def j0(e:En)(l:Int):Int:=if dG e.1.length l<0 then -1 else ou e.2 (dG e.1.length l)
def fZ:List En->Int->Int
 | [],l=>l
 | e::es,l=>if j0 e l<0 then -1 else fZ es (j0 e l)
def iV(es:List En)(l:Int):Int:=if gg (l-es.length)<0 then -1 else fZ es (gg (l-es.length))
def ik(c:Ca)(l:Int):Int:=if iV c.2 l<0 then -1 else iV c.2 l
def eP(r:Rs):Prop:=r.2.1.length<=1048576/\r.2.2.length<=1048576
def mr(e:En):Prop:=e.1.length<=1048576/\eP e.2
def bj(es:List En):Prop:=es.length<=1048576/\∀ e∈es,mr e
def hO(r:Rs):Nat:=1+r.2.1.length+r.2.2.length
def c9:List En->Nat
 | []=>0
 | e::es=>hO e.2+c9 es
def jZ(es:List En)(k:Nat):Prop:=∀ i,i<k->(es.getD i ([],0,[],[])).1.length<=5000/\∀ j,j<i->(es.getD j ([],0,[],[])).1≠(es.getD i ([],0,[],[])).1
instance aeq (es:List En) (k:Nat):Decidable (jZ es k):=by unfold jZ;infer_instance
def bK(c:Ca):Bool:=decide (0<=c.1/\c.1<=5000)&&decide (c.2.length<=30)&&decide (jZ c.2 c.2.length)&&decide ((c9 c.2:Int)<=c.1)
def aL(key:List Int):List En->Int->Int
 | [],_ => -1
 | e::es,k=>if e.1=key then k else aL key es (k+1)
def w7:PC:={ ts:=[bp,ai],rs:=[ai],pre:=fun _=>True,F:=fun x=>dG x.1.length x.2 }
def xd:PC:={ ts:=[bp],rs:=[bp],pre:=fun x=>x.length<=1048576,F:=fun x=>x }
def wX:PC:={ ts:=[bp,bp],rs:=[.bool],pre:=fun _=>True,F:=fun x=>decide (x.1=x.2) }
def uU:PC:={ ts:=[bd,ai],rs:=[ai],pre:=fun _=>True,F:=fun x=>ou x.1 x.2 }
def w_:PC:={ ts:=[dj,ai],rs:=[ai],pre:=fun _=>True,F:=fun x=>j0 x.1 x.2 }
def uT:PC:={ ts:=[.sl dj,ai],rs:=[ai],pre:=fun _=>True,F:=fun x=>iV x.1 x.2 }
def w9:PC:={ ts:=[bq,ai],rs:=[ai],pre:=fun _=>True,F:=fun x=>ik x.1 x.2 }
def uW:PC:={ ts:=[bd],rs:=[bd],pre:=fun x=>eP x,F:=fun x=>x }
def rY:PC:={ ts:=[dj],rs:=[dj],pre:=fun x=>mr x,F:=fun x=>x }
def uV:PC:={ ts:=[.sl dj],rs:=[.sl dj],pre:=fun x=>bj x,F:=fun x=>x }
def xe:PC:={ ts:=[bq],rs:=[bq],pre:=fun x=>bj x.2,F:=fun x=>x }
def pJ:PC:={ ts:=[bd,bd],rs:=[.bool],pre:=fun _=>True,F:=fun x=>kQ x.1 x.2 }
def wZ:PC:={ ts:=[dj,dj],rs:=[.bool],pre:=fun _=>True,F:=fun x=>yR x.1 x.2 }
def uS:PC:={ ts:=[.sl dj,.sl dj],rs:=[.bool],pre:=fun _=>True,F:=fun x=>tG x.1 x.2 }
def wY:PC:={ ts:=[bq,bq],rs:=[.bool],pre:=fun _=>True,F:=fun x=>jL x.1 x.2 }
def nM:PC:={ ts:=[bp,bp],rs:=[.bool],pre:=fun _=>True,F:=fun x=>decide (x.1=x.2) }
def re:PC:={ ts:=[bp,bp],rs:=[.bool],pre:=fun _=>True,F:=fun x=>decide (x.1=x.2) }
def ln:PC:={ ts:=[bd],rs:=[ai],pre:=fun x=>eP x,F:=fun x=>((hO x:Nat):Int) }
def rX:PC:={ ts:=[dj],rs:=[ai],pre:=fun x=>mr x,F:=fun x=>((hO x.2:Nat):Int) }
def pI:PC:={ ts:=[bq],rs:=[ai],pre:=fun x=>bj x.2,F:=fun x=>((c9 x.2:Nat):Int) }
def y6:PC:={ ts:=[bq],rs:=[ai],pre:=fun x=>bj x.2,F:=fun x=>((c9 x.2:Nat):Int) }
def uP:PC:={ ts:=[dj,.ptr bp],rs:=[.bool],pre:=fun _=>True,F:=fun x=>decide (x.1.1=x.2) }
def pB(g:Nat):PC:={ ts:=[.sl dj,.ca g (.ptr bp)],rs:=[ai],pre:=fun _=>True,F:=fun x=>aL x.2 x.1 0 }
def nI:PC:={ ts:=[.sl dj,bp],rs:=[ai],pre:=fun _=>True,F:=fun x=>aL x.2 x.1 0 }
def nL:PC:={ ts:=[bq],rs:=[.bool],pre:=fun x=>bj x.2,F:=fun x=>bK x }
def nK:PC:={ ts:=[bq],rs:=[.bool],pre:=fun x=>bj x.2,F:=fun x=>bK x }
def Fb(x:List Int):=Rx (e:=dV) x 3 4 3 5
def Fa(x:List Int×List Int):=X9 (e:=dV) x 4 5 6
def Fi(x:List Int×List Int):=X9 (e:=dV) x 4 5 5
def Dm(x:List En):=Rx (e:=dj) x 3 4 3 5
def Di(x:List En×List En):=X9 (e:=dj) x 4 5 6
def Dl(x:List En×Int):Nat->Option bg:=fun
 | 5=>some (.mk (Nat×Int) (fun k=>k.1<=x.1.length/\fZ (x.1.drop k.1) k.2=fZ x.1 (gg (x.2-x.1.length))) (fun st k=>(st.keep 6 []).aW [(5,si k.1),(1,si k.2)]) (fun k=>x.1.length-k.1) (0,gg (x.2-x.1.length)) (fun _ _=>none))
 | _=>none
def IN(x:Ca):Nat->Option bg:=fun
 | 3=>some (.mk Nat (fun k=>k<=x.2.length) (fun st k=>(st.keep 3 []).aW [(3,si (c9 (x.2.take k))),(4,si k)]) (fun k=>x.2.length-k) 0 (fun _ _=>none))
 | _=>none
def Dh(x:Ca):Nat->Option bg:=fun
 | 3=>some (.mk Nat (fun k=>k<=x.2.length) (fun st k=>(st.keep 3 [7,8]).aW [(3,si (c9 (x.2.take k))),(9,si k)]) (fun k=>x.2.length-k) 0 (fun _ _=>none))
 | _=>none
def xF(x:List En×List Int):Nat->Option bg:=fun
 | 2=>some (.mk Nat (fun k=>k<=x.1.length/\aL x.2 (x.1.drop k) k=aL x.2 x.1 0) (fun st k=>(st.keep 6 [7]).aW [(8,si k)]) (fun k=>x.1.length-k) 0 (fun _ _=>none))
 | _=>none
def Fe(x:Ca):Nat->Option bg:=fun
 | 5=>some (.mk Nat (fun k=>k<=x.2.length/\jZ x.2 k) (fun st k=>(st.keep 3 []).aW [(3,si (c9 (x.2.take k))),(4,si k)]) (fun k=>x.2.length-k) 0 (fun i=>fun
   | 10=>some (.mk Nat (fun j=>j<=i/\∀ t,t<j->(x.2.getD t ([],0,[],[])).1≠(x.2.getD i ([],0,[],[])).1) (fun st j=>(st.keep 5 []).aW [(5,si j)]) (fun j=>i-j) 0 (fun _ _=>none))
   | _=>none))
 | _=>none
def E6(x:Ca):Nat->Option bg:=fun
 | 4=>some (.mk Nat (fun k=>k<=x.2.length/\jZ x.2 k) (fun st k=>(st.keep 3 [27,28]).aW [(29,si k)]) (fun k=>x.2.length-k) 0 (fun _ _=>none))
 | _=>none
end Go.SF
/- Contracts: lines of tickets. No condition. -/
namespace Go.SF
open Go.SX Go
set_option linter.unusedVariables false
end Go.SF
/- Contracts: arithmetic modulo a number. No condition. -/
namespace Go.SF
open Go.SX Go
set_option linter.unusedVariables false
def eO(p a b:Int):Int:=(a+b)%p
def bR(p a b:Int):Int:=(a-b)%p
def mulM(p a b:Int):Int:=a*b%p
def b6(p a:Int)(e:Nat):Int:=a^e%p
def zM(p a:Int):Int:=a%p
def eu(f x:Int):Int:=if af f=0 then -1 else x%af f
def po(f a b:Int):Int:=if af f=0 then -1 else eO (af f) a b
def jj(f a b:Int):Int:=if af f=0 then -1 else bR (af f) a b
def c8(f a b:Int):Int:=if af f=0 then -1 else mulM (af f) a b
def qi(p a e:Int):Int:=if a%p=0 then (if e=0 then 1 else if e<0 then -1 else 0) else b6 p a (e%(p-1)).toNat
def bG(f a e:Int):Int:=if af f=0 then -1 else qi (af f) a e
def au(p:Int):Prop:=17<=p/\p<=1004535809
def El(p x:Int):Prop:=0<=x/\x<p
def bk(p a:Int):Int:=b6 p a (p-2).toNat
def m8:PC:={ ts:=[ai,ai],rs:=[ai],pre:=fun _=>True,F:=fun x=>eu x.1 x.2 }
def CO:PC:={ ts:=[ai,ai,ai],rs:=[ai],pre:=fun _=>True,F:=fun x=>po x.1 x.2.1 x.2.2 }
def um:PC:={ ts:=[ai,ai,ai],rs:=[ai],pre:=fun _=>True,F:=fun x=>jj x.1 x.2.1 x.2.2 }
def oX:PC:={ ts:=[ai,ai,ai],rs:=[ai],pre:=fun _=>True,F:=fun x=>c8 x.1 x.2.1 x.2.2 }
def su:PC:={ ts:=[ai,ai,ai],rs:=[ai],pre:=fun _=>True,F:=fun x=>bG x.1 x.2.1 x.2.2 }
def lF:PC:={ ts:=[ai,ai],rs:=[ai],pre:=fun _=>True,F:=fun x=>bG x.1 x.2 (-1) }
def uk:PC:={ ts:=[bW,ai,ai],rs:=[ai],pre:=fun x=>au x.1.1/\El x.1.1 x.2.1/\El x.1.1 x.2.2,F:=fun x=>eO x.1.1 x.2.1 x.2.2 }
def lE:PC:={ ts:=[bW,ai,ai],rs:=[ai],pre:=fun x=>au x.1.1/\El x.1.1 x.2.1/\El x.1.1 x.2.2,F:=fun x=>bR x.1.1 x.2.1 x.2.2 }
def iD:PC:={ ts:=[bW,ai,ai],rs:=[ai],pre:=fun x=>au x.1.1/\El x.1.1 x.2.1/\El x.1.1 x.2.2,F:=fun x=>mulM x.1.1 x.2.1 x.2.2 }
def vV:PC:={ ts:=[bW,ai,ai],rs:=[ai],pre:=fun x=>au x.1.1/\El x.1.1 x.2.1/\0<=x.2.2,F:=fun x=>b6 x.1.1 x.2.1 x.2.2.toNat }
def jM:PC:={ ts:=[bW,ai],rs:=[ai],pre:=fun x=>au x.1.1/\El x.1.1 x.2,F:=fun x=>bk x.1.1 x.2 }
def oA(p r:Int)(x:Int×Int×Nat):Prop:=El p x.1/\El p x.2.1/\x.2.1*x.1^x.2.2%p=r/\(x.2.2:Int)<=9223372036854775807
def Lh(x:Int×Int×Int):Nat->Option bg:=fun
 | 100014=>some (.mk Unit (fun _=>True) (fun st _=>(st.keep 9 []).aW [(9,si (x.2.2%(af x.1-1)).toNat)]) (fun _=>0) () (fun _=>fun
   | 15=>some (.mk (Int×Int×Nat) (fun t=>oA (af x.1) (b6 (af x.1) x.2.1 (x.2.2%(af x.1-1)).toNat) t) (fun st t=>(st.keep 8 []).aW [(8,si t.1),(9,si t.2.2),(10,si t.2.1)]) (fun t=>t.2.2) (x.2.1%af x.1,1,(x.2.2%(af x.1-1)).toNat) (fun _ _=>none))
   | _=>none))
 | _=>none
def Ld(x:Fd×Int×Int):Nat->Option bg:=fun
 | 2=>some (.mk (Int×Int×Nat) (fun t=>oA x.1.1 (b6 x.1.1 x.2.1 x.2.2.toNat) t) (fun st t=>(st.keep 8 []).aW [(1,si t.1),(2,si t.2.2),(7,si t.2.1)]) (fun t=>t.2.2) (x.2.1,1,x.2.2.toNat) (fun _ _=>none))
 | _=>none
end Go.SF
/- Contracts: points, and their weights. No condition. -/
namespace Go.SF
open Go.SX Go
set_option linter.unusedVariables false
def zf(l:List Int)(x:Int):Bool:=decide (x∈l)
def bT(f:Int)(xs:List Int):Bool:=decide (1<=xs.length)&&decide (xs.length<=40)&&aC f xs&&decide xs.Nodup
def iT(f:Int)(xs:List Int):Fd×Bool:=if bT f xs=true then ((ar f).1,true) else ((0,0,0),false)
def il(p:Int)(xs:List Int)(i:Nat):Nat->Int
 | 0=>1
 | n+1=>if n=i then il p xs i n else mulM p (il p xs i n) (bR p (xs.getD i 0) (xs.getD n 0))
def n6(p:Int)(xs:List Int)(i:Nat):Int:=bk p (il p xs i xs.length)
def tN:PC:={ ts:=[aj,ai],rs:=[.bool],pre:=fun _=>True,F:=fun x=>zf x.1 x.2 }
def pO:PC:={ ts:=[ai,aj],rs:=[.bool],pre:=fun _=>True,F:=fun x=>bT x.1 x.2 }
def m6:PC:={ ts:=[ai,aj],rs:=[bW,.bool],pre:=fun _=>True,F:=fun x=>iT x.1 x.2 }
def yZ:PC:={ ts:=[bW,aj,ai],rs:=[ai],pre:=fun x=>au x.1.1/\aq x.1.1 x.2.1=true/\0<=x.2.2/\x.2.2<x.2.1.length,F:=fun x=>n6 x.1.1 x.2.1 x.2.2.toNat }
def IJ(x:List Int×Int):Nat->Option bg:=fun
 | 2=>some (.mk Nat (fun k=>k<=x.1.length/\x.2 ∉ x.1.take k) (fun st k=>(st.keep 5 []).aW [(5,si k)]) (fun k=>x.1.length-k) 0 (fun _ _=>none))
 | _=>none
def Dr(x:Int×List Int):Nat->Option bg:=fun
 | 4=>some (.mk Nat (fun k=>k<=x.2.length/\(x.2.take k).Nodup) (fun st k=>(st.keep 5 []).aW [(5,si k)]) (fun k=>x.2.length-k) 0 (fun _ _=>none))
 | _=>none
def Ai(x:Int×List Int):Nat->Option bg:=fun
 | 5=>some (.mk Nat (fun k=>k<=x.2.length/\(x.2.take k).Nodup) (fun st k=>(st.keep 8 [36,37]).aW [(38,si k)]) (fun k=>x.2.length-k) 0 (fun i=>fun
   | 8=>some (.mk Nat (fun j=>j<=i/\x.2.getD i 0 ∉ x.2.take j) (fun st j=>(st.keep 11 [36,37,38,45,46]).aW [(47,si j)]) (fun j=>i-j) 0 (fun _ _=>none))
   | _=>none))
 | _=>none
def ID(x:Fd×List Int×Int):Nat->Option bg:=fun
 | 3=>some (.mk Nat (fun j=>j<=x.2.1.length) (fun st j=>(st.keep 7 [10,11]).aW [(7,si (il x.1.1 x.2.1 x.2.2.toNat j)),(12,si j)]) (fun j=>x.2.1.length-j) 0 (fun _ _=>none))
 | _=>none
end Go.SF
/- Contracts: polynomials as lists of coefficients. No condition. -/
namespace Go.SF
open Go.SX Go
set_option linter.unusedVariables false
def oC(l:List Int):Nat->Nat
 | 0=>0
 | n+1=>if l.getD n 0=0 then oC l n else n+1
def ka(l:List Int):Nat:=oC l l.length
def cf(l:List Int):List Int:=l.take (ka l)
def jk(l:List Int):Bool:=decide (ka l=l.length)
def aZ(f:Int)(a:List Int):Bool:=decide (a.length<=400)&&aC f a&&jk a
def gu(l:List Int)(i:Int):Int:=if 0<=i then l.getD i.toNat 0 else 0
def fC(p:Int)(a b:List Int)(n:Nat):List Int:=(List.range n).map (fun i=>eO p (a.getD i 0) (b.getD i 0))
def sU(p:Int)(a b:List Int):List Int:=cf (fC p a b (max a.length b.length))
def kD(p:Int)(a:List Int)(c:Int)(n:Nat):List Int:=(List.range n).map (fun i=>mulM p (a.getD i 0) c)
def gv(p:Int)(a:List Int)(c:Int):List Int:=cf (kD p a c a.length)
def fL(p:Int)(a b:List Int)(i:Nat):Nat->Int
 | 0=>0
 | j+1=>if i-j<b.length then (fL p a b i j+a.getD j 0*b.getD (i-j) 0)%p else fL p a b i j
def fq(p:Int)(a b:List Int)(n:Nat):List Int:=(List.range n).map (fun i=>fL p a b i (min (i+1) a.length))
def ee(p:Int)(a b:List Int):List Int:=if a.length=0\/b.length=0 then [] else cf (fq p a b (a.length+b.length-1))
def rP(f:Int)(a b:List Int):List Int:=if (aZ f a&&aZ f b)=true then sU (af f) a b else []
def lN(f:Int)(a:List Int)(c:Int):List Int:=if aZ f a=true then gv (af f) a c else []
def jw:PC:={ ts:=[aj],rs:=[aj],pre:=fun x=>x.length<=1048576,F:=fun x=>cf x }
def ij:PC:={ ts:=[ai,aj],rs:=[.bool],pre:=fun _=>True,F:=fun x=>aZ x.1 x.2 }
def Bl:PC:={ ts:=[aj,ai],rs:=[ai],pre:=fun _=>True,F:=fun x=>gu x.1 x.2 }
def xf:PC:={ ts:=[ai,aj,aj],rs:=[aj],pre:=fun _=>True,F:=fun x=>rP x.1 x.2.1 x.2.2 }
def tj:PC:={ ts:=[ai,aj,ai],rs:=[aj],pre:=fun _=>True,F:=fun x=>lN x.1 x.2.1 x.2.2 }
def tO:PC:={ ts:=[ai,aj,aj],rs:=[aj],pre:=fun x=>aC x.1 x.2.1=true/\aC x.1 x.2.2=true/\x.2.1.length<=1000/\x.2.2.length<=1000,F:=fun x=>ee (af x.1) x.2.1 x.2.2 }
def jN:CC:={ e:=ai,F:=fun l=>ka l }
def pE:PC:={ ts:=[aj,ai],rs:=[ai],pre:=fun x=>0<=x.2,F:=fun x=>gu x.1 x.2 }
def wU:PC:={ ts:=[bW,aj,aj],rs:=[aj],pre:=fun x=>au x.1.1/\aq x.1.1 x.2.1=true/\aq x.1.1 x.2.2=true/\x.2.1.length<=1000/\x.2.2.length<=1000,F:=fun x=>sU x.1.1 x.2.1 x.2.2 }
def s8:PC:={ ts:=[bW,aj,ai],rs:=[aj],pre:=fun x=>au x.1.1/\aq x.1.1 x.2.1=true/\El x.1.1 x.2.2/\x.2.1.length<=1000,F:=fun x=>gv x.1.1 x.2.1 x.2.2 }
def rV:PC:={ ts:=[bW,aj,aj],rs:=[aj],pre:=fun x=>au x.1.1/\aq x.1.1 x.2.1=true/\aq x.1.1 x.2.2=true/\x.2.1.length<=1000/\x.2.2.length<=1000,F:=fun x=>ee x.1.1 x.2.1 x.2.2 }
def qY(l:List Int)(k:Nat):Prop:=k<=l.length/\oC l k=ka l
def IK(x:List Int):Nat->Option bg:=fun
 | 2=>some (.mk Nat (fun k=>qY x k) (fun st k=>(st.keep 3 []).aW [(3,si k)]) (fun k=>k) x.length (fun _ _=>none))
 | _=>none
def Fc(x:Int×List Int×List Int):Nat->Option bg:=fun
 | 5=>some (.mk Nat (fun k=>k<=max x.2.1.length x.2.2.length) (fun st k=>((st.keep 7 []).aW [(7,.c (.own 0)),(8,si k)]).bJ [(0,.row true ai (fC (af x.1) x.2.1 x.2.2 k))]) (fun k=>max x.2.1.length x.2.2.length-k) 0 (fun _ _=>none))
 | _=>none
def A5(x:Int×List Int×Int):Nat->Option bg:=fun
 | 5=>some (.mk Nat (fun k=>k<=x.2.1.length) (fun st k=>((st.keep 7 []).aW [(7,.c (.own 0)),(8,si k)]).bJ [(0,.row true ai (kD (af x.1) x.2.1 x.2.2 k))]) (fun k=>x.2.1.length-k) 0 (fun _ _=>none))
 | _=>none
def IL(x:Int×List Int×List Int):Nat->Option bg:=fun
 | 6=>some (.mk Nat (fun k=>k<=x.2.1.length+x.2.2.length-1) (fun st k=>((st.keep 8 []).aW [(8,.c (.own 0)),(9,si k)]).bJ [(0,.row true ai (fq (af x.1) x.2.1 x.2.2 k))]) (fun k=>x.2.1.length+x.2.2.length-1-k) 0 (fun i=>fun
   | 10=>some (.mk Nat (fun j=>j<=min (i+1) x.2.1.length) (fun st j=>(st.keep 10 []).aW [(10,si (fL (af x.1) x.2.1 x.2.2 i j)),(11,si j)]) (fun j=>min (i+1) x.2.1.length-j) 0 (fun _ _=>none))
   | _=>none))
 | _=>none
def E9(x:List Int):Nat->Option bg:=fun
 | 1=>some (.mk Nat (fun k=>qY x k) (fun st k=>(st.keep 3 []).aW [(0,.c (.pre 0 k))]) (fun k=>k) x.length (fun _ _=>none))
 | _=>none
def E3(x:Fd×List Int×List Int):Nat->Option bg:=fun
 | 3=>some (.mk Nat (fun k=>k<=max x.2.1.length x.2.2.length) (fun st k=>((st.keep 7 [14]).aW [(7,.c (.own 1)),(15,si k)]).bJ [(1,.row true ai (fC x.1.1 x.2.1 x.2.2 k))]) (fun k=>max x.2.1.length x.2.2.length-k) 0 (fun _ _=>none))
 | _=>none
def AX(x:Fd×List Int×Int):Nat->Option bg:=fun
 | 3=>some (.mk Nat (fun k=>k<=x.2.1.length) (fun st k=>((st.keep 7 [11,12]).aW [(7,.c (.own 1)),(13,si k)]).bJ [(1,.row true ai (kD x.1.1 x.2.1 x.2.2 k))]) (fun k=>x.2.1.length-k) 0 (fun _ _=>none))
 | _=>none
def eU(p:Int)(a b:List Int)(x y:Nat):List Int:=(List.range (a.length+b.length-1)).map (fun t=>if x<=t/\t<x+y then fL p a b t (x+1) else fL p a b t (min x (t+1)))
def E7(x:Fd×List Int×List Int):Nat->Option bg:=fun
 | 5=>some (.mk Nat (fun k=>k<=x.2.1.length) (fun st k=>((st.keep 8 [27,28]).aW [(7,.c (.own 1)),(29,si k)]).bJ [(1,.row true ai (eU x.1.1 x.2.1 x.2.2 k 0))]) (fun k=>x.2.1.length-k) 0 (fun i=>fun
   | 8=>some (.mk Nat (fun j=>j<=x.2.2.length) (fun st j=>((st.keep 10 [27,28,29,34,35]).aW [(7,.c (.own 1)),(36,si j)]).bJ [(1,.row true ai (eU x.1.1 x.2.1 x.2.2 i j))]) (fun j=>x.2.2.length-j) 0 (fun _ _=>none))
   | _=>none))
 | _=>none
end Go.SF
/- Contracts: crews of hands. No condition. -/
namespace Go.SF
open Go.SX Go
set_option linter.unusedVariables false
abbrev Hd:=Int×Int×Int
def Bu:Hd:=(0,0,0)
end Go.SF
/- Contracts: ServedCost. No condition. -/
namespace Go.SF
open Go.SX Go
set_option linter.unusedVariables false
end Go.SF
/- Contracts: marks. No condition. -/
namespace Go.SF
open Go.SX Go
set_option linter.unusedVariables false
def HE{X:Type}:X->Int->Nat->Option bg:=fun _ _ _=>none
def rz{α:Type}(el:Int->α)(nx:Int->Int):List α->Int->List α
 | [],_=>[]
 | _::xs,k=>el k::rz el nx xs (nx k)
def jA{α:Type}(nx:Int->Int):List α->Int->Int
 | [],k=>k
 | _::xs,k=>jA nx xs (nx k)
def ve{α:Type}(ok:α->Int->Bool)(nx:Int->Int):List α->Int->Int
 | [],k=>k
 | x::xs,k=>if ok x k then ve ok nx xs (nx k) else -1
def n1(k:Int):Int:=gg (k+1)
def n2(k:Int):Int:=gg (gg (k+1)+1)
def n3(k:Int):Int:=gg (gg (gg (k+1)+1)+1)
def pA(k:Int):Int:=k
def jb(k:Int):Int×Int:=(k,gg (k+1))
def YI(x:Int)(k:Int):Bool:=decide (x=k)
def cx(xs:List Int)(k:Int):Int:=ve YI n1 xs k
def c7(xs:List Int)(k:Int):List Int:=rz pA n1 xs k
def dJ(xs:List Int)(k:Int):Int:=jA n1 xs k
def gV(k:Int):Int:=if k<0 then -1 else k
def YF{e:Ty}(mk:List e.den->Int->List e.den)(en:List e.den->Int->Int)(x:List e.den)(k:Int):Nat->Option bg:=fun
 | 2=>some (.mk (Nat×Int) (fun j=>j.1<=x.length/\j.2=en (x.take j.1) k) (fun st j=>((st.keep 1 []).aW [(5,si j.1),(1,si j.2)]).bJ [(0,.row false e (mk (x.take j.1) k++x.drop j.1))]) (fun j=>x.length-j.1) (0,k) (fun _ _=>none))
 | _=>none
def Yj{e:Ty}(he:List e.den->Int->Int)(x:List e.den×Int):Nat->Option bg:=fun
 | 2=>some (.mk (Nat×Int) (fun j=>j.1<=x.1.length/\he (x.1.drop j.1) j.2=he x.1 x.2) (fun st j=>(st.keep 1 []).aW [(5,si j.1),(1,si j.2)]) (fun j=>x.1.length-j.1) (0,x.2) (fun _ _=>none))
 | _=>none
def dn:MC:={ t:=.sl ai,pre:=fun _ _=>True,F:=fun x k=>dJ x k,G:=fun x k=>c7 x k }
def pK:PC:={ ts:=[.sl ai,ai],rs:=[ai],pre:=fun _=>True,F:=fun x=>cx x.1 x.2 }
def Dk(x:List Int)(k:Int):=YF (e:=ai) c7 dJ x k
def Dj(x:List Int×Int):=Yj (e:=ai) cx x
end Go.SF
/- Contracts: turners that are begun and done, and their marks. No condition. -/
namespace Go.SF
open Go.SX Go
set_option linter.unusedVariables false
def rev(x:Nat):Nat->Nat
 | 0=>0
 | j+1=>2*rev x j+x/2^j%2
def K4(v:List Int)(n:Nat):List Int:=(List.range n).map (fun i=>v.getD (rev i (aE v.length).toNat) 0)
def ft(v:List Int):List Int:=if 0<=aE v.length then K4 v v.length else []
def tW(v:List Int)(n:Nat):List Int:=(List.range v.length).map (fun i=>if rev i (aE v.length).toNat<n then v.getD (rev i (aE v.length).toNat) 0 else 0)
def uR:PC:={ ts:=[ai,ai],rs:=[ai],pre:=fun x=>(0<=x.2/\x.2<=9)/\0<=x.1/\x.1<2^x.2.toNat,F:=fun x=>((rev x.1.toNat x.2.toNat:Nat):Int) }
def uQ:PC:={ ts:=[aj],rs:=[aj],pre:=fun x=>0<=aE x.length,F:=fun x=>ft x }
def Df(x:List Int):Nat->Option bg:=fun
 | 4=>some (.mk Nat (fun k=>k<=x.length) (fun st k=>((st.keep 5 [13,14]).aW [(15,si k)]).bJ [(0,.row true ai (tW x k))]) (fun k=>x.length-k) 0 (fun _ _=>none))
 | _=>none
def Dg(x:Int×Int):Nat->Option bg:=fun
 | 3=>some (.mk Nat (fun j=>(j:Int)<=x.2) (fun st j=>(st.keep 5 [6]).aW [(0,si ((x.1.toNat/2^j:Nat):Int)),(5,si ((rev x.1.toNat j:Nat):Int)),(7,si j)]) (fun j=>x.2.toNat-j) 0 (fun _ _=>none))
 | _=>none
end Go.SF
/- Contracts: turners that go on. No condition. -/
namespace Go.SF
open Go.SX Go
set_option linter.unusedVariables false
def bV(f:Int):Int:=(ar f).1.2.1
def b8(f k:Int):Int:=if af f≠0/\0<=k/\k<=dP f then qi (af f) (bV f) ((af f-1)/2^k.toNat) else -1
def bc(d:Fd)(k:Int):Int:=b6 d.1 d.2.1 ((d.1-1)/2^k.toNat).toNat
def wM(d:Fd)(l j:Nat):Int:=b6 d.1 d.2.1 ((d.1-1).toNat/2^(l+1)*j)
def pt(l t:Nat):Nat:=t/(2*2^l)*2^l+t%2^l
def sf(d:Fd)(v:List Int)(l t:Nat):Int :=
 if t%(2*2^l)<2^l then eO d.1 (v.getD t 0) (mulM d.1 (v.getD (t+2^l) 0) (wM d l (t%2^l)))
 else bR d.1 (v.getD (t-2^l) 0) (mulM d.1 (v.getD t 0) (wM d l (t%2^l)))
def Ch(d:Fd)(v:List Int)(l lo B:Nat):List Int:=(List.range v.length).map (fun t=>if lo<=pt l t/\pt l t<B then sf d v l t else v.getD t 0)
def tg:PC:={ ts:=[ai],rs:=[ai],pre:=fun _=>True,F:=fun x=>bV x }
def tM:PC:={ ts:=[ai,ai],rs:=[ai],pre:=fun _=>True,F:=fun x=>b8 x.1 x.2 }
def Ef:PC:={ ts:=[bW,ai],rs:=[ai],pre:=fun x=>au x.1.1/\El x.1.1 x.1.2.1/\0<=x.2/\x.2<=30,F:=fun x=>bc x.1 x.2 }
end Go.SF
/- Contracts: the transform. No condition. -/
namespace Go.SF
open Go.SX Go
set_option linter.unusedVariables false
def bm(f:Nat->Int):Nat->Int
 | 0=>0
 | n+1=>bm f n+f n
def py(v:List Int)(w:Int)(i j:Nat):Int:=v.getD j 0*w^(i*j%v.length)
def gp(p:Int)(v:List Int)(w:Int)(i:Nat):Int:=bm (py v w i) v.length%p
def bD(p:Int)(v:List Int)(w:Int)(n:Nat):List Int:=(List.range n).map (fun i=>gp p v w i)
def mL(p w:Int)(n:Nat):List Int:=(List.range n).map (fun i=>w^i%p)
def kR(f:Int)(v:List Int):List Int:=if aH f v=true then bD (af f) v (b8 f (aE v.length)) v.length else []
def tD(d:Fd)(u:List Int):Nat->Nat->Int
 | 0,t=>u.getD t 0
 | l+1,t =>
   if t%(2*2^l)<2^l then eO d.1 (tD d u l t) (mulM d.1 (tD d u l (t+2^l)) (wM d l (t%2^l)))
   else bR d.1 (tD d u l (t-2^l)) (mulM d.1 (tD d u l t) (wM d l (t%2^l)))
def tP:PC:={ ts:=[ai,aj,ai],rs:=[aj],pre:=fun x=>aH x.1 x.2.1=true/\El (af x.1) x.2.2,F:=fun x=>bD (af x.1) x.2.1 x.2.2 x.2.1.length }
def xg:PC:={ ts:=[ai,aj],rs:=[aj],pre:=fun _=>True,F:=fun x=>kR x.1 x.2 }
def Rp(x:Int×List Int×Int)(i:Nat):Nat->Option bg:=fun
 | 16=>some (.mk Nat (fun j=>j<=x.2.1.length) (fun st j=>(st.keep 14 []).aW [(14,si (bm (py x.2.1 x.2.2 i) j%af x.1)),(15,si j)]) (fun j=>x.2.1.length-j) 0 (fun _ _=>none))
 | _=>none
def Ro(x:Int×List Int×Int):Nat->Option bg:=fun
 | 12=>some (.mk Nat (fun i=>i<=x.2.1.length) (fun st i=>((st.keep 10 []).aW [(12,.c (.own 1)),(13,si i)]).bJ [(1,.row true ai (bD (af x.1) x.2.1 x.2.2 i))]) (fun i=>x.2.1.length-i) 0 (fun i=>Rp x i))
 | _=>none
def IM(x:Int×List Int×Int):Nat->Option bg:=fun
 | 6=>some (.mk Nat (fun i=>i<=x.2.1.length) (fun st i=>((st.keep 9 []).aW [(9,.c (.own 0)),(10,si (x.2.2^i%af x.1)),(11,si i)]).bJ [(0,.row true ai (mL (af x.1) x.2.2 i))]) (fun i=>x.2.1.length-i) 0 (fun _=>Ro x))
 | _=>none
end Go.SF
/- Contracts: transforms and products of vectors. No condition. -/
namespace Go.SF
open Go.SX Go
set_option linter.unusedVariables false
def uf(f:Int)(ls:List (List Int)):Bool:=decide (∀ v∈ls,aH f v=true/\v.length=(ls.getD 0 []).length)
def aR(f:Int)(ls:List (List Int)):Fd×Bool:=if uf f ls=true then ((ar f).1,true) else ((0,0,0),false)
def eN(f:Int)(a b:List Int):Bool:=decide (a.length=b.length)&&aH f a&&aH f b
def Hi(p w r:Int)(v:List Int)(k:Nat):Int:=mulM p (gp p v w ((v.length-k)%v.length)) r
def vN(p w r:Int)(v:List Int):List Int:=(List.range v.length).map (fun k=>Hi p w r v k)
def gY(f:Int)(v:List Int):List Int:=if aH f v=true then vN (af f) (b8 f (aE v.length)) (bk (af f) v.length) v else []
def CH(p:Int)(a b:List Int)(k:Nat):Int:=bm (fun j=>a.getD j 0*b.getD ((k+a.length-j)%a.length) 0) a.length%p
def lx(p:Int)(a b:List Int):List Int:=(List.range a.length).map (fun i=>mulM p (a.getD i 0) (b.getD i 0))
def lO(f:Int)(a b:List Int):List Int:=if eN f a b=true then (List.range a.length).map (fun k=>CH (af f) a b k) else []
def jY(p:Int)(a b:List Int)(t:Nat):Nat->Int
 | 0=>0
 | x+1=>if x<=t then eO p (jY p a b t x) (mulM p (a.getD x 0) (b.getD (t-x) 0)) else bR p (jY p a b t x) (mulM p (a.getD x 0) (b.getD (t+a.length-x) 0))
def i_(f:Int)(a b:List Int):List Int:=if eN f a b=true then (List.range a.length).map (fun t=>jY (af f) a b t a.length) else []
def dN(p:Int)(a b:List Int)(x y:Nat):List Int:=(List.range a.length).map (fun t=>if (t+a.length-x)%a.length<y then jY p a b t (x+1) else jY p a b t x)
def qW(d:Fd)(v:List Int)(l B:Nat):List Int:=(List.range v.length).map (fun t=>if pt l t<B then sf d v l t else 0)
def hY(d:Fd)(u:List Int)(l:Nat):List Int:=(List.range u.length).map (fun t=>tD d u l t)
def A_(p w r:Int)(v:List Int)(i:Nat):List Int:=(List.range v.length).map (fun t=>if (v.length-t)%v.length<i then Hi p w r v t else 0)
def uX:PC:={ ts:=[ai,aj],rs:=[aj],pre:=fun _=>True,F:=fun x=>gY x.1 x.2 }
def pR:PC:={ ts:=[ai,aj,aj],rs:=[.bool],pre:=fun _=>True,F:=fun x=>eN x.1 x.2.1 x.2.2 }
def y1:PC:={ ts:=[ai,aj,aj],rs:=[aj],pre:=fun _=>True,F:=fun x=>lO x.1 x.2.1 x.2.2 }
def xi:PC:={ ts:=[ai,aj,aj],rs:=[aj],pre:=fun _=>True,F:=fun x=>i_ x.1 x.2.1 x.2.2 }
def iK:PC:={ ts:=[ai,.sl aj],rs:=[bW,.bool],pre:=fun x=>x.2.length=2,F:=fun x=>aR x.1 x.2 }
def oB(d:Fd)(v:List Int):Prop:=∃ f,aH f v=true/\d=(ar f).1
def Bg:PC:={ ts:=[bW,aj,ai],rs:=[aj],pre:=fun x=>oB x.1 x.2.1/\0<=x.2.2/\x.2.2<=aE x.2.1.length-1,F:=fun x=>Ch x.1 x.2.1 x.2.2.toNat 0 (x.2.1.length/2) }
def nJ:PC:={ ts:=[bW,aj],rs:=[aj],pre:=fun x=>oB x.1 x.2,F:=fun x=>bD x.1.1 x.2 (bc x.1 (aE x.2.length)) x.2.length }
def pD:PC:={ ts:=[bW,aj],rs:=[aj],pre:=fun x=>oB x.1 x.2,F:=fun x=>vN x.1.1 (bc x.1 (aE x.2.length)) (bk x.1.1 x.2.length) x.2 }
def s5:PC:={ ts:=[bW,aj,aj],rs:=[aj],pre:=fun x=>au x.1.1/\aq x.1.1 x.2.1=true/\aq x.1.1 x.2.2=true/\x.2.1.length=x.2.2.length/\x.2.1.length<=1048576,F:=fun x=>lx x.1.1 x.2.1 x.2.2 }
def wW:PC:={ ts:=[bW,aj,aj],rs:=[aj],pre:=fun x=>au x.1.1/\aq x.1.1 x.2.1=true/\aq x.1.1 x.2.2=true/\x.2.1.length=x.2.2.length/\x.2.1.length<=512,F:=fun x=>(List.range x.2.1.length).map (fun t=>jY x.1.1 x.2.1 x.2.2 t x.2.1.length) }
def uM:PC:={ ts:=[ai,aj],rs:=[.bool],pre:=fun _=>True,F:=fun x=>aH x.1 x.2 }
def wR:PC:={ ts:=[ai,aj],rs:=[aj],pre:=fun _=>True,F:=fun x=>kR x.1 x.2 }
def uK:PC:={ ts:=[ai,aj],rs:=[aj],pre:=fun _=>True,F:=fun x=>gY x.1 x.2 }
def yS:PC:={ ts:=[ai,aj,aj],rs:=[aj],pre:=fun _=>True,F:=fun x=>lO x.1 x.2.1 x.2.2 }
def wT:PC:={ ts:=[ai,aj,aj],rs:=[aj],pre:=fun _=>True,F:=fun x=>i_ x.1 x.2.1 x.2.2 }
def Dw(p wi r:Int)(v:List Int)(n:Nat):List Int:=(List.range n).map (fun k=>mulM p (gp p v wi k) r)
def Dn(x:Int×List Int):Nat->Option bg:=fun
 | 7=>some (.mk Nat (fun i=>i<=x.2.length) (fun st i=>((st.keep 8 []).aW [(5,.c (.own 0)),(8,si i)]).bJ [(0,.row true ai (Dw (af x.1) (bG x.1 (b8 x.1 (aE x.2.length)) (-1)) (bG x.1 x.2.length (-1)) x.2 i))]) (fun i=>x.2.length-i) 0 (fun _ _=>none))
 | _=>none
def uI(p:Int)(a b:List Int)(n:Nat):List Int:=(List.range n).map (fun k=>CH p a b k)
def Rn(x:Int×List Int×List Int)(i:Nat):Nat->Option bg:=fun
 | 11=>some (.mk Nat (fun j=>j<=x.2.1.length) (fun st j=>(st.keep 11 []).aW [(11,si (bm (fun j=>x.2.1.getD j 0*x.2.2.getD ((i+x.2.1.length-j)%x.2.1.length) 0) j%af x.1)),(12,si j)]) (fun j=>x.2.1.length-j) 0 (fun _ _=>none))
 | _=>none
def IG(x:Int×List Int×List Int):Nat->Option bg:=fun
 | 7=>some (.mk Nat (fun i=>i<=x.2.1.length) (fun st i=>((st.keep 10 []).aW [(7,.c (.own 0)),(10,si i)]).bJ [(0,.row true ai (uI (af x.1) x.2.1 x.2.2 i))]) (fun i=>x.2.1.length-i) 0 (fun i=>Rn x i))
 | _=>none
def AO(p:Int)(a b:List Int)(n:Nat):List Int:=(List.range n).map (fun t=>jY p a b t a.length)
def OU(x:Int×List Int×List Int)(i:Nat):Nat->Option bg:=fun
 | 11=>some (.mk Nat (fun j=>j<=x.2.1.length) (fun st j=>(st.keep 11 []).aW [(11,si (jY (af x.1) x.2.1 x.2.2 i j)),(12,si j)]) (fun j=>x.2.1.length-j) 0 (fun _ _=>none))
 | _=>none
def Ff(x:Int×List Int×List Int):Nat->Option bg:=fun
 | 7=>some (.mk Nat (fun i=>i<=x.2.1.length) (fun st i=>((st.keep 10 []).aW [(7,.c (.own 0)),(10,si i)]).bJ [(0,.row true ai (AO (af x.1) x.2.1 x.2.2 i))]) (fun i=>x.2.1.length-i) 0 (fun i=>OU x i))
 | _=>none
def Rm(f:Int)(ls:List (List Int))(k:Nat):Prop:=∀ i,i<k->aH f (ls.getD i [])=true/\(ls.getD i []).length=(ls.getD 0 []).length
def vL(x:Int×List (List Int)):Nat->Option bg:=fun
 | 5=>some (.mk Nat (fun k=>k<=x.2.length/\Rm x.1 x.2 k) (fun st k=>(st.keep 8 [19,20]).aW [(21,si k)]) (fun k=>x.2.length-k) 0 (fun _ _=>none))
 | _=>none
def TE(x:Fd×List Int×Int)(c:Nat):Nat->Option bg:=fun
 | 9=>some (.mk Nat (fun j=>j<=2^x.2.2.toNat) (fun st j=>((st.keep 11 [31,32]).aW [(7,.c (.own 1)),(11,si (b6 x.1.1 (bc x.1 (x.2.2+1)) j)),(33,si j)]).bJ [(1,.row true ai (qW x.1 x.2.1 x.2.2.toNat (c*2^x.2.2.toNat+j)))]) (fun j=>2^x.2.2.toNat-j) 0 (fun _ _=>none))
 | _=>none
def Le(x:Fd×List Int×Int):Nat->Option bg:=fun
 | 5=>some (.mk Nat (fun c=>c*(2*2^x.2.2.toNat)<=x.2.1.length) (fun st c=>((st.keep 10 []).aW [(7,.c (.own 1)),(10,si ((c*(2*2^x.2.2.toNat):Nat):Int))]).bJ [(1,.row true ai (qW x.1 x.2.1 x.2.2.toNat (c*2^x.2.2.toNat)))]) (fun c=>x.2.1.length-c) 0 (fun c=>TE x c))
 | _=>none
def E5(x:Fd×List Int):Nat->Option bg:=fun
 | 3=>some (.mk Nat (fun s=>(s:Int)<=aE x.2.length) (fun st s=>((st.keep 5 [11]).aW [(5,.c (.own 1)),(12,si s)]).bJ [(1,.row true ai (hY x.1 (ft x.2) s))]) (fun s=>(aE x.2.length).toNat-s) 0 (fun _ _=>none))
 | _=>none
def Dd(x:Fd×List Int):Nat->Option bg:=fun
 | 5=>some (.mk Nat (fun i=>i<=x.2.length) (fun st i=>((st.keep 8 [22,23]).aW [(7,.c (.own 1)),(24,si i)]).bJ [(1,.row true ai (A_ x.1.1 (bc x.1 (aE x.2.length)) (bk x.1.1 (zM x.1.1 x.2.length)) x.2 i))]) (fun i=>x.2.length-i) 0 (fun _ _=>none))
 | _=>none
def JA(p:Int)(a b:List Int)(n:Nat):List Int:=(List.range n).map (fun i=>mulM p (a.getD i 0) (b.getD i 0))
def AU(x:Fd×List Int×List Int):Nat->Option bg:=fun
 | 3=>some (.mk Nat (fun i=>i<=x.2.1.length) (fun st i=>((st.keep 7 [11,12]).aW [(7,.c (.own 1)),(13,si i)]).bJ [(1,.row true ai (JA x.1.1 x.2.1 x.2.2 i))]) (fun i=>x.2.1.length-i) 0 (fun _ _=>none))
 | _=>none
def E_(x:Fd×List Int×List Int):Nat->Option bg:=fun
 | 4=>some (.mk Nat (fun i=>i<=x.2.1.length) (fun st i=>((st.keep 9 [18,19]).aW [(8,.c (.own 1)),(20,si i)]).bJ [(1,.row true ai (dN x.1.1 x.2.1 x.2.2 i 0))]) (fun i=>x.2.1.length-i) 0 (fun i=>fun
   | 7=>some (.mk Nat (fun j=>j<=x.2.2.length) (fun st j=>((st.keep 11 [18,19,20,25,26]).aW [(8,.c (.own 1)),(27,si j)]).bJ [(1,.row true ai (dN x.1.1 x.2.1 x.2.2 i j))]) (fun j=>x.2.2.length-j) 0 (fun _ _=>none))
   | _=>none))
 | _=>none
end Go.SF
/- Contracts: polynomials through points, and their values. No condition. -/
namespace Go.SF
open Go.SX Go
set_option linter.unusedVariables false
def eV(p:Int)(xs:List Int):Nat->List Int
 | 0=>[1]
 | n+1=>ee p (eV p xs n) [bR p 0 (xs.getD n 0),1]
def dx(p:Int)(xs:List Int):List Int:=eV p xs xs.length
def dY(xs:List Int)(i:Nat):Nat->List Int
 | 0=>[]
 | n+1=>if n=i then dY xs i n else dY xs i n++[xs.getD n 0]
def fk(p:Int)(xs ys:List Int):Nat->List Int
 | 0=>[]
 | n+1=>sU p (fk p xs ys n) (gv p (dx p (dY xs n xs.length)) (mulM p (ys.getD n 0) (n6 p xs n)))
def gk(p:Int)(xs ys:List Int):List Int:=fk p xs ys xs.length
def ly(p r:Int)(a:List Int):Nat->Int
 | 0=>0
 | k+1=>bR p (a.getD (a.length-1-k) 0) (mulM p (ly p r a k) r)
def NN(p r:Int)(a:List Int):List Int:=(List.range (a.length-1)).map (fun i=>ly p r a (a.length-1-i))
def ra(p:Int)(a b:List Int):List Int×List Int:=(NN p (b.getD 0 0) a,cf [ly p (b.getD 0 0) a a.length])
def cK(f:Int)(xs ys:List Int):List Int×Bool:=if (bT f xs&&decide (ys.length=xs.length)&&aC f ys)=true then (gk (af f) xs ys,true) else ([],false)
def sm(p:Int)(a:List Int)(x:Int):Nat->Int
 | 0=>0
 | n+1=>eO p (sm p a x n) (mulM p (a.getD n 0) (b6 p x n))
def sn(p:Int)(a:List Int)(x:Int):Int:=sm p a x a.length
def vT(f:Int)(a:List Int)(x:Int):Int:=if aZ f a=true then sn (af f) a x else -1
def tq:PC:={ ts:=[ai,aj],rs:=[aj],pre:=fun x=>aC x.1 x.2=true/\x.2.length<=40,F:=fun x=>dx (af x.1) x.2 }
def yY:PC:={ ts:=[bW,aj],rs:=[aj],pre:=fun x=>au x.1.1/\aq x.1.1 x.2=true/\x.2.length<=40,F:=fun x=>dx x.1.1 x.2 }
def Wm(p:Int)(b:List Int):Prop:=b.length=2/\b.getD 1 0=1/\El p (b.getD 0 0)
def yW:PC:={ ts:=[bW,aj,aj],rs:=[aj,aj],pre:=fun x=>au x.1.1/\aq x.1.1 x.2.1=true/\2<=x.2.1.length/\x.2.1.length<=1000/\Wm x.1.1 x.2.2,F:=fun x=>ra x.1.1 x.2.1 x.2.2 }
def m9:PC:={ ts:=[ai,aj,aj],rs:=[aj],pre:=fun x=>bT x.1 x.2.1=true/\x.2.2.length=x.2.1.length,F:=fun x=>gk (af x.1) x.2.1 x.2.2 }
def rW:PC:={ ts:=[bW,aj,aj],rs:=[aj],pre:=fun x=>(∃ f,bT f x.2.1=true/\af f=x.1.1)/\aq x.1.1 x.2.2=true/\x.2.2.length=x.2.1.length,F:=fun x=>gk x.1.1 x.2.1 x.2.2 }
def pN:PC:={ ts:=[ai,aj,aj],rs:=[aj,.bool],pre:=fun _=>True,F:=fun x=>cK x.1 x.2.1 x.2.2 }
def pG:PC:={ ts:=[ai,aj,aj],rs:=[aj,.bool],pre:=fun _=>True,F:=fun x=>cK x.1 x.2.1 x.2.2 }
def pC:PC:={ ts:=[ai,aj,aj],rs:=[aj,.bool],pre:=fun _=>True,F:=fun x=>cK x.1 x.2.1 x.2.2 }
def pM:PC:={ ts:=[ai,aj,ai],rs:=[ai],pre:=fun _=>True,F:=fun x=>vT x.1 x.2.1 x.2.2 }
def Ee:PC:={ ts:=[bW,aj,ai],rs:=[ai],pre:=fun x=>au x.1.1/\aq x.1.1 x.2.1=true/\El x.1.1 x.2.2,F:=fun x=>sn x.1.1 x.2.1 x.2.2 }
def A8(x:Int×List Int):Nat->Option bg:=fun
 | 3=>some (.mk Nat (fun k=>k<=x.2.length) (fun st k=>((st.keep 5 []).aW [(5,.c (.own 0)),(6,si k)]).bJ [(0,.row true ai (eV (af x.1) x.2 k))]) (fun k=>x.2.length-k) 0 (fun _ _=>none))
 | _=>none
def IC(x:Fd×List Int):Nat->Option bg:=fun
 | 3=>some (.mk Nat (fun k=>k<=x.2.length) (fun st k=>((st.keep 5 [9,10]).aW [(5,.c (.own 1)),(11,si k)]).bJ [(1,.row true ai (eV x.1.1 x.2 k))]) (fun k=>x.2.length-k) 0 (fun _ _=>none))
 | _=>none
def cQ(p r:Int)(a:List Int)(k:Nat):List Int:=(List.range a.length).map (fun t=>if t+k<a.length-1 then a.getD t 0 else if t+k=a.length-1 then ly p r a (k+1) else 0)
def mn(p r:Int)(a:List Int)(k j:Nat):List Int:=if j=0 then cQ p r a k else if j=1 then (cQ p r a k).set (a.length-2-k) (ly p r a (k+2)) else cQ p r a (k+1)
def mb(p r:Int)(a:List Int)(k:Nat):List Int:=(List.range (a.length-1)).map (fun t=>if a.length-1<=t+k then ly p r a (a.length-1-t) else 0)
def IB(x:Fd×List Int×List Int):Nat->Option bg:=fun
 | 7=>some (.mk Nat (fun k=>k<=x.2.1.length-1) (fun st k=>((st.keep 11 []).aW [(11,si ((x.2.1.length:Int)-2-k))]).bJ [(1,.row true ai (cQ x.1.1 (x.2.2.getD 0 0) x.2.1 k)),(2,.row true ai (mb x.1.1 (x.2.2.getD 0 0) x.2.1 k))]) (fun k=>x.2.1.length-1-k) 0 (fun k=>fun
   | 13=>some (.mk Nat (fun j=>j<=2) (fun st j=>((st.keep 13 [63,64]).aW [(65,si j)]).bJ [(1,.row true ai (mn x.1.1 (x.2.2.getD 0 0) x.2.1 k j)),(2,.row true ai (mb x.1.1 (x.2.2.getD 0 0) x.2.1 (k+1)))]) (fun j=>2-j) 0 (fun _ _=>none))
   | _=>none))
 | _=>none
def Ap(x:Int×List Int×List Int):Nat->Option bg:=fun
 | 3=>some (.mk Nat (fun k=>k<=x.2.1.length) (fun st k=>((st.keep 7 []).aW [(7,.c (.own 0)),(8,si k)]).bJ [(0,.row true ai (fk (af x.1) x.2.1 x.2.2 k))]) (fun k=>x.2.1.length-k) 0 (fun i=>fun
   | 8=>some (.mk Nat (fun j=>j<=x.2.1.length) (fun st j=>((st.keep 9 []).aW [(9,.c (.own 1)),(10,si (il (af x.1) x.2.1 i j)),(11,si j)]).bJ [(1,.row true ai (dY x.2.1 i j))]) (fun j=>x.2.1.length-j) 0 (fun _ _=>none))
   | _=>none))
 | _=>none
def E8(x:Fd×List Int×List Int):Nat->Option bg:=fun
 | 4=>some (.mk Nat (fun k=>k<=x.2.1.length) (fun st k=>((st.keep 8 [17,18]).aW [(8,.c (.own 2)),(19,si k)]).bJ [(2,.row true ai (fk x.1.1 x.2.1 x.2.2 k))]) (fun k=>x.2.1.length-k) 0 (fun _ _=>none))
 | _=>none
def Dq(x:Int×List Int×Int):Nat->Option bg:=fun
 | 5=>some (.mk Nat (fun k=>k<=x.2.1.length) (fun st k=>(st.keep 7 []).aW [(7,si (sm (af x.1) x.2.1 x.2.2 k)),(8,si k)]) (fun k=>x.2.1.length-k) 0 (fun _ _=>none))
 | _=>none
def yH(p:Int)(a:List Int)(x:Int)(t:Nat×Int):Prop:=t.1<=a.length/\El p t.2/\(t.2*x^t.1+sm p a x t.1)%p=sn p a x
def Qa(x:Fd×List Int×Int):Nat->Option bg:=fun
 | 3=>some (.mk (Nat×Int) (fun t=>yH x.1.1 x.2.1 x.2.2 t) (fun st t=>(st.keep 7 []).aW [(7,si t.2),(8,si ((t.1:Int)-1))]) (fun t=>t.1) (x.2.1.length,0) (fun _ _=>none))
 | _=>none
end Go.SF
/- Contracts: words of a code, and what they are read as. No condition. -/
namespace Go.SF
open Go.SX Go
set_option linter.unusedVariables false
def eX(f:Int)(xs:List Int)(k:Int):Bool:=decide (xs.length<=10)&&bT f xs&&decide (1<=k/\k<=xs.length)
def bM(f:Int)(xs:List Int)(k:Int):Fd×Bool:=if eX f xs k=true then ((ar f).1,true) else ((0,0,0),false)
def fx(p:Int)(a xs:List Int)(n:Nat):List Int:=(List.range n).map (fun i=>sn p a (xs.getD i 0))
def oE(f:Int)(xs m:List Int):List Int:=if (eX f xs m.length&&aC f m)=true then fx (af f) (cf m) xs xs.length else []
def dO(a b:List Int):Nat->Nat
 | 0=>0
 | n+1=>if n<a.length/\n<b.length/\a.getD n 0=b.getD n 0 then dO a b n else dO a b n+1
def pz(a b:List Int):Int:=(dO a b (max a.length b.length):Nat)
def q_(a b:List Int):Int:=if 4096<a.length\/4096<b.length then -1 else pz a b
def bn(l:List Int)(s:Nat):Nat->List Int
 | 0=>[]
 | n+1=>if s/2^n%2=1 then bn l s n++[l.getD n 0] else bn l s n
def dL(p:Int)(xs ys:List Int)(s:Nat):List Int:=gk p (bn xs s xs.length) (bn ys s xs.length)
def wQ(p:Int)(xs ys:List Int)(s:Nat):Nat:=dO (fx p (dL p xs ys s) xs xs.length) ys xs.length
def Sk(m:List Int)(k:Nat):List Int:=m++List.replicate (k-m.length) 0
def kT(p:Int)(xs ys:List Int)(k s:Nat):Bool:=decide ((bn xs s xs.length).length=k)&&decide (wQ p xs ys s<=(xs.length-k)/2)
def findF(h:Nat->Bool):Nat->Option Nat
 | 0=>none
 | n+1=>match findF h n with|some s=>some s|none=>if h n=true then some n else none
def Wx(p:Int)(xs ys:List Int)(k:Nat):Option Nat->List Int×Int×Bool
 | some s=>(Sk (dL p xs ys s) k,((wQ p xs ys s:Nat):Int),true)
 | none=>([],0,false)
def dI(f:Int)(xs ys:List Int)(k:Int):List Int×Int×Bool:=if (eX f xs k&&decide (ys.length=xs.length)&&aC f ys)=true then Wx (af f) xs ys k.toNat (findF (kT (af f) xs ys k.toNat) (2^xs.length)) else ([],0,false)
abbrev X4:List Ty:=[aj,ai,.bool]
def r4:PC:={ ts:=[ai,aj,ai],rs:=[.bool],pre:=fun _=>True,F:=fun x=>eX x.1 x.2.1 x.2.2 }
def sZ:PC:={ ts:=[ai,aj,ai],rs:=[bW,.bool],pre:=fun _=>True,F:=fun x=>bM x.1 x.2.1 x.2.2 }
def rm:PC:={ ts:=[ai,aj,aj],rs:=[aj],pre:=fun _=>True,F:=fun x=>oE x.1 x.2.1 x.2.2 }
def y2:PC:={ ts:=[aj,aj],rs:=[ai],pre:=fun _=>True,F:=fun x=>q_ x.1 x.2 }
def yV:PC:={ ts:=[aj,aj],rs:=[ai],pre:=fun x=>x.1.length<=1048576/\x.2.length<=1048576,F:=fun x=>pz x.1 x.2 }
def pF:PC:={ ts:=[bW,aj,aj],rs:=[aj],pre:=fun x=>au x.1.1/\aq x.1.1 x.2.1=true/\aq x.1.1 x.2.2=true/\x.2.2.length<=1000,F:=fun x=>fx x.1.1 x.2.1 x.2.2 x.2.2.length }
def rl:PC:={ ts:=[ai,aj,aj,ai],rs:=X4,pre:=fun _=>True,F:=fun x=>dI x.1 x.2.1 x.2.2.1 x.2.2.2 }
def rf:PC:={ ts:=[ai,aj,aj,ai],rs:=X4,pre:=fun _=>True,F:=fun x=>dI x.1 x.2.1 x.2.2.1 x.2.2.2 }
def Ao(x:Int×List Int×List Int):Nat->Option bg:=fun
 | 5=>some (.mk Nat (fun k=>k<=x.2.1.length) (fun st k=>((st.keep 7 []).aW [(7,.c (.own 0)),(8,si k)]).bJ [(0,.row true ai (fx (af x.1) (cf x.2.2) x.2.1 k))]) (fun k=>x.2.1.length-k) 0 (fun _ _=>none))
 | _=>none
def IH(x:List Int×List Int):Nat->Option bg:=fun
 | 5=>some (.mk Nat (fun k=>k<=max x.1.length x.2.length) (fun st k=>(st.keep 5 []).aW [(5,si (dO x.1 x.2 k)),(6,si k)]) (fun k=>max x.1.length x.2.length-k) 0 (fun _ _=>none))
 | _=>none
def IA(x:List Int×List Int):Nat->Option bg:=fun
 | 3=>some (.mk Nat (fun k=>k<=min x.1.length x.2.length) (fun st k=>(st.keep 5 [22]).aW [(5,si ((max x.1.length x.2.length-min x.1.length x.2.length+dO x.1 x.2 k:Nat):Int)),(23,si k)]) (fun k=>min x.1.length x.2.length-k) 0 (fun _ _=>none))
 | _=>none
def De(x:Fd×List Int×List Int):Nat->Option bg:=fun
 | 3=>some (.mk Nat (fun k=>k<=x.2.2.length) (fun st k=>((st.keep 7 [11,12]).aW [(7,.c (.own 1)),(13,si k)]).bJ [(1,.row true ai (fx x.1.1 x.2.1 x.2.2 k))]) (fun k=>x.2.2.length-k) 0 (fun _ _=>none))
 | _=>none
def nA(p:Int)(xs ys:List Int)(k s:Nat):Prop:=s<=2^xs.length/\∀ t,t<s->kT p xs ys k t=false
def aal(x:Int×List Int×List Int×Int)(s:Nat):Nat->Option bg:=fun
 | 17=>some (.mk Nat (fun j=>(dL (af x.1) x.2.1 x.2.2.1 s).length+j<=x.2.2.2.toNat) (fun st j=>((st.keep 16 []).aW [(16,.c (.own 2))]).bJ [(2,.row true ai (dL (af x.1) x.2.1 x.2.2.1 s++List.replicate j 0))]) (fun j=>x.2.2.2.toNat-j) 0 (fun _ _=>none))
 | _=>none
def An(x:Int×List Int×List Int×Int):Nat->Option bg:=fun
 | 5=>some (.mk Nat (fun s=>nA (af x.1) x.2.1 x.2.2.1 x.2.2.2.toNat s) (fun st s=>(st.keep 12 []).aW [(12,si s)]) (fun s=>2^x.2.1.length-s) 0 (fun s=>fun
   | 10=>some (.mk Nat (fun i=>i<=x.2.1.length) (fun st i=>((st.keep 13 []).aW [(13,.c (.own 0)),(14,.c (.own 1)),(15,si i)]).bJ [(0,.row true ai (bn x.2.1 s i)),(1,.row true ai (bn x.2.2.1 s i))]) (fun i=>x.2.1.length-i) 0 (fun _=>aal x s))
   | _=>none))
 | _=>none
def aaf(x:Int×List Int×List Int×Int)(s:Nat):Nat->Option bg:=fun
 | 19=>some (.mk Nat (fun j=>(dL (af x.1) x.2.1 x.2.2.1 s).length+j<=x.2.2.2.toNat) (fun st j=>((st.keep 18 [19,44,45]).aW [(18,.c (.own 3))]).bJ [(3,.row true ai (dL (af x.1) x.2.1 x.2.2.1 s++List.replicate j 0))]) (fun j=>x.2.2.2.toNat-j) 0 (fun _ _=>none))
 | _=>none
def Ah(x:Int×List Int×List Int×Int):Nat->Option bg:=fun
 | 5=>some (.mk Nat (fun s=>nA (af x.1) x.2.1 x.2.2.1 x.2.2.2.toNat s) (fun st s=>(st.keep 13 [44]).aW [(45,si s)]) (fun s=>2^x.2.1.length-s) 0 (fun s=>fun
   | 9=>some (.mk Nat (fun i=>i<=x.2.1.length) (fun st i=>((st.keep 14 [44,45,50,51]).aW [(14,.c (.own 1)),(15,.c (.own 2)),(52,si i)]).bJ [(1,.row true ai (bn x.2.1 s i)),(2,.row true ai (bn x.2.2.1 s i))]) (fun i=>x.2.1.length-i) 0 (fun _=>aaf x s))
   | _=>none))
 | _=>none
end Go.SF
/- Contracts: draws. No condition. -/
namespace Go.SF
open Go.SX Go
set_option linter.unusedVariables false
end Go.SF
/- Contracts: a law's code. No condition. -/
namespace Go.SF
open Go.SX Go
set_option linter.unusedVariables false
end Go.SF
/- Contracts: what the laws of codes call. No condition. -/
namespace Go.SF
open Go.SX Go
set_option linter.unusedVariables false
def eJ(f:Int)(a:List Int):Fd×Bool:=if aZ f a=true then ((ar f).1,true) else ((0,0,0),false)
def mw(f:Int)(a xs:List Int):List Int:=if (aZ f a&&decide (xs.length<=40)&&aC f xs)=true then fx (af f) a xs xs.length else []
def s6:PC:={ ts:=[ai,.sl aj],rs:=[bW,.bool],pre:=fun x=>x.2.length=1,F:=fun x=>eJ x.1 (x.2.getD 0 []) }
def uL:PC:={ ts:=[ai,aj,aj],rs:=[aj],pre:=fun _=>True,F:=fun x=>mw x.1 x.2.1 x.2.2 }
def AV(x:Int×List (List Int)):Nat->Option bg:=fun
 | 5=>some (.mk Nat (fun k=>k<=1/\(k=1->aZ x.1 (x.2.getD 0 [])=true)) (fun st k=>(st.keep 8 [18,19]).aW [(20,si k)]) (fun k=>1-k) 0 (fun _ _=>none))
 | _=>none
end Go.SF
/- Contracts: division by any polynomial. No condition. -/
namespace Go.SF
open Go.SX Go
set_option linter.unusedVariables false
def dr(p:Int)(b L:List Int)(i:Nat)(c:Int)(j:Nat):List Int:=(List.range L.length).map (fun t=>if i<=t/\t<i+j then bR p (L.getD t 0) (mulM p c (b.getD (t-i) 0)) else L.getD t 0)
def cJ(p r:Int)(a b:List Int):Nat->List Int
 | 0=>a
 | k+1=>dr p b (cJ p r a b k) (a.length-b.length-k) (mulM p ((cJ p r a b k).getD (a.length-1-k) 0) r) b.length
def kc(p r:Int)(a b:List Int)(k:Nat):Int:=mulM p ((cJ p r a b k).getD (a.length-1-k) 0) r
def gb(p r:Int)(a b:List Int)(n k:Nat):List Int:=(List.range n).map (fun t=>if a.length-b.length<t+k/\t<=a.length-b.length then kc p r a b (a.length-b.length-t) else 0)
def bC(p:Int)(b:List Int):Int:=bk p (b.getD (b.length-1) 0)
def hU(p:Int)(a b:List Int):List Int×List Int:=if a.length<b.length then ([],a) else (gb p (bC p b) a b (a.length-b.length+1) (a.length-b.length+1),cf (cJ p (bC p b) a b (a.length-b.length+1)))
def cy(f:Int)(a b:List Int):List Int×List Int×Bool:=if (aZ f a&&aZ f b&&decide (b.length≠0))=true then ((hU (af f) a b).1,(hU (af f) a b).2,true) else ([],[],false)
def ef(f:Int)(a b:List Int):List Int×Bool:=if (aZ f a&&aZ f b&&decide (a.length=0\/b.length=0\/a.length+b.length-1<=400))=true then (ee (af f) a b,true) else ([],false)
end Go.SF
/- Contracts: jobs. No condition. -/
namespace Go.SF
open Go.SX Go
set_option linter.unusedVariables false
def di(l:List Int):Bool:=decide (l.length<=200)&&decide (∀ x∈l,-1000000<=x/\x<=1000000)
def ja(a b:List Int)(i:Nat):Nat->Int
 | 0=>0
 | j+1=>if i-j<b.length then ja a b i j+a.getD j 0*b.getD (i-j) 0 else ja a b i j
def oU(a b:List Int)(n:Nat):List Int:=(List.range n).map (fun i=>ja a b i (min (i+1) a.length))
def gn(a b:List Int)(x y:Nat):List Int:=(List.range (a.length+b.length-1)).map (fun t=>if x<=t/\t<x+y then ja a b t (x+1) else ja a b t (min x (t+1)))
def cW(a b:List Int):List Int×Bool:=if (di a&&di b)=true then (if a.length=0\/b.length=0 then [] else oU a b (a.length+b.length-1),true) else ([],false)
def jU(f:Int)(a:List Int):Bool:=decide (1<=a.length)&&decide (a.length<=64)&&aC f a
def jX(p:Int)(a out:List Int)(i:Nat):Nat->Int
 | 0=>if i=0 then 1 else 0
 | j+1=>bR p (jX p a out i j) (mulM p (a.getD (j+1) 0) (out.getD (i-(j+1)) 0))
def qX(p:Int)(a out:List Int)(i:Nat):Nat->Int
 | 0=>0
 | j+1=>eO p (qX p a out i j) (mulM p (a.getD (j+1) 0) (out.getD (i-(j+1)) 0))
def ck(p:Int)(a:List Int):Nat->List Int
 | 0=>[]
 | k+1=>ck p a k++[mulM p (jX p a (ck p a k) k k) (bk p (a.getD 0 0))]
def c_(f:Int)(a:List Int):List Int×Bool:=if (jU f a&&decide (a.getD 0 0≠0))=true then (ck (af f) a a.length,true) else ([],false)
abbrev eF:Ty:=.st (.pr ai (.pr ai (.pr aj (.pr aj ai))))
abbrev Jb:=Int×Int×List Int×List Int×Int
abbrev ub:Ty:=.st (.pr ai (.pr aj aj))
abbrev RsJ:=Int×List Int×List Int
def gy(k:Int):Bool:=decide (k=3\/k=4\/k=5\/k=6\/k=8\/k=9\/k=10\/k=11)
def cn(l:List Int):Bool:=decide (l.length<=400)&&decide (∀ x∈l,-1099511627776<=x/\x<=1099511627776)
def aK(j:Jb):Bool:=(decide (1<=j.1/\j.1<=11)&&decide (af j.2.1≠0)&&decide (¬(j.1=6/\j.2.1≠0)))&&cn j.2.2.1&&cn j.2.2.2.1&&decide (0<=j.2.2.2.2/\j.2.2.2.2<=400)&&(gy j.1||decide (j.2.2.2.1.length=0))&&(decide (j.1=11)||decide (j.2.2.2.2=0))
def m3(f:Int)(a xs:List Int):Bool:=aZ f a&&decide (xs.length<=40)&&aC f xs
def ez(f:Int)(a xs:List Int):List Int:=if m3 f a xs=true then fx (af f) a xs xs.length else []
def kq(k:Bool)(o m:List Int):RsJ:=if k=true then (0,o,m) else (2,[],[])
def aA(j:Jb):RsJ :=
 if aK j=true then
  (if j.1=1 then kq (aH j.2.1 j.2.2.1) (kR j.2.1 j.2.2.1) []
  else if j.1=2 then kq (aH j.2.1 j.2.2.1) (gY j.2.1 j.2.2.1) []
  else if j.1=3 then kq (eN j.2.1 j.2.2.1 j.2.2.2.1) (lO j.2.1 j.2.2.1 j.2.2.2.1) []
  else if j.1=4 then kq (eN j.2.1 j.2.2.1 j.2.2.2.1) (i_ j.2.1 j.2.2.1 j.2.2.2.1) []
  else if j.1=5 then kq (ef j.2.1 j.2.2.1 j.2.2.2.1).2 (ef j.2.1 j.2.2.1 j.2.2.2.1).1 []
  else if j.1=6 then kq (cW j.2.2.1 j.2.2.2.1).2 (cW j.2.2.1 j.2.2.2.1).1 []
  else if j.1=7 then kq (c_ j.2.1 j.2.2.1).2 (c_ j.2.1 j.2.2.1).1 []
  else if j.1=8 then kq (m3 j.2.1 j.2.2.1 j.2.2.2.1) (ez j.2.1 j.2.2.1 j.2.2.2.1) []
  else if j.1=9 then kq (cK j.2.1 j.2.2.1 j.2.2.2.1).2 (cK j.2.1 j.2.2.1 j.2.2.2.1).1 []
  else if j.1=10 then kq (cy j.2.1 j.2.2.1 j.2.2.2.1).2.2 (cy j.2.1 j.2.2.1 j.2.2.2.1).1 (cy j.2.1 j.2.2.1 j.2.2.2.1).2.1
  else kq (dI j.2.1 j.2.2.1 j.2.2.2.1 j.2.2.2.2).2.2 (dI j.2.1 j.2.2.1 j.2.2.2.1 j.2.2.2.2).1 [(dI j.2.1 j.2.2.1 j.2.2.2.1 j.2.2.2.2).2.1])
 else (1,[],[])
def jF(j:Jb)(n:Int):Int:=if dG j.2.2.1.length n<0 then -1 else dG j.2.2.2.1.length (dG j.2.2.1.length n)
def Bj:PC:={ ts:=[eF,ai],rs:=[ai],pre:=fun _=>True,F:=fun x=>jF x.1 x.2 }
def Bk:PC:={ ts:=[eF],rs:=[eF],pre:=fun x=>x.2.2.1.length<=1048576/\x.2.2.2.1.length<=1048576,F:=fun x=>x }
def Bi:PC:={ ts:=[eF,eF],rs:=[.bool],pre:=fun _=>True,F:=fun x=>decide (x.1=x.2) }
def w6:MC:={ t:=eF,pre:=fun _ _=>True,F:=fun x k=>dJ x.2.2.2.1 (dJ x.2.2.1 k),G:=fun x k=>(x.1,x.2.1,c7 x.2.2.1 k,c7 x.2.2.2.1 (dJ x.2.2.1 k),x.2.2.2.2) }
def u5:PC:={ ts:=[ai],rs:=[.bool],pre:=fun _=>True,F:=fun x=>gy x }
def u6:PC:={ ts:=[aj],rs:=[.bool],pre:=fun _=>True,F:=fun x=>cn x }
def so:PC:={ ts:=[eF],rs:=[.bool],pre:=fun _=>True,F:=fun x=>aK x }
def mU(k:Int):Bool:=decide (k≠1/\k≠2/\k≠7)
def Bh:PC:={ ts:=[ai],rs:=[.bool],pre:=fun _=>True,F:=fun x=>mU x }
def uO:PC:={ ts:=[aj],rs:=[.bool],pre:=fun _=>True,F:=fun x=>cn x }
def vU:PC:={ ts:=[eF],rs:=[.bool],pre:=fun _=>True,F:=fun x=>aK x }
def y5:PC:={ ts:=[eF],rs:=[ub],pre:=fun _=>True,F:=fun x=>aA x }
def yX:PC:={ ts:=[eF],rs:=[ub],pre:=fun _=>True,F:=fun x=>aA x }
def xh:PC:={ ts:=[ai,aj,aj],rs:=[aj,.bool],pre:=fun _=>True,F:=fun x=>ef x.1 x.2.1 x.2.2 }
def wS:PC:={ ts:=[ai,aj,aj],rs:=[aj,.bool],pre:=fun _=>True,F:=fun x=>ef x.1 x.2.1 x.2.2 }
def cG(f:Int)(ls:List (List Int)):Fd×Bool:=if decide (af f≠0)&&decide (∀ v∈ls,aZ f v=true) then ((ar f).1,true) else ((0,0,0),false)
def kf:PC:={ ts:=[ai,.sl aj],rs:=[bW,.bool],pre:=fun x=>x.2.length=1\/x.2.length=2,F:=fun x=>cG x.1 x.2 }
def yU:PC:={ ts:=[ai,aj],rs:=[.bool],pre:=fun _=>True,F:=fun x=>aZ x.1 x.2 }
def u0:PC:={ ts:=[aj],rs:=[.bool],pre:=fun _=>True,F:=fun x=>di x }
def uN:PC:={ ts:=[aj],rs:=[.bool],pre:=fun _=>True,F:=fun x=>di x }
def td:PC:={ ts:=[aj,aj],rs:=[aj,.bool],pre:=fun _=>True,F:=fun x=>cW x.1 x.2 }
def sX:PC:={ ts:=[aj,aj],rs:=[aj,.bool],pre:=fun _=>True,F:=fun x=>cW x.1 x.2 }
def uZ:PC:={ ts:=[ai,aj],rs:=[.bool],pre:=fun _=>True,F:=fun x=>jU x.1 x.2 }
def tk:PC:={ ts:=[ai,aj],rs:=[aj,.bool],pre:=fun _=>True,F:=fun x=>c_ x.1 x.2 }
def ji(f:Int)(ls:List (List Int)):Fd×Bool:=if jU f (ls.getD 0 [])=true then ((ar f).1,true) else ((0,0,0),false)
def pH:PC:={ ts:=[ai,.sl aj],rs:=[bW,.bool],pre:=fun x=>x.2.length=1,F:=fun x=>ji x.1 x.2 }
def s9:PC:={ ts:=[bW,aj],rs:=[aj],pre:=fun x=>au x.1.1/\aq x.1.1 x.2=true/\1<=x.2.length/\x.2.length<=64,F:=fun x=>ck x.1.1 x.2 x.2.length }
def sY:PC:={ ts:=[ai,aj],rs:=[aj,.bool],pre:=fun _=>True,F:=fun x=>c_ x.1 x.2 }
def uY:PC:={ ts:=[ai,aj,aj],rs:=[aj],pre:=fun _=>True,F:=fun x=>ez x.1 x.2.1 x.2.2 }
def Rj(p:Int)(a b:List Int):Prop:=∃ f,af f=p/\aZ f a=true/\aZ f b=true/\b.length≠0
def tp:PC:={ ts:=[ai,aj,aj],rs:=[aj,aj],pre:=fun x=>aZ x.1 x.2.1=true/\aZ x.1 x.2.2=true/\x.2.2.length≠0,F:=fun x=>hU (af x.1) x.2.1 x.2.2 }
def wV:PC:={ ts:=[bW,aj,aj],rs:=[aj,aj],pre:=fun x=>Rj x.1.1 x.2.1 x.2.2,F:=fun x=>hU x.1.1 x.2.1 x.2.2 }
def y3:PC:={ ts:=[ai,aj,aj],rs:=[aj,aj,.bool],pre:=fun _=>True,F:=fun x=>cy x.1 x.2.1 x.2.2 }
def yT:PC:={ ts:=[ai,aj,aj],rs:=[aj,aj,.bool],pre:=fun _=>True,F:=fun x=>cy x.1 x.2.1 x.2.2 }
def JU(x:List Int×List Int)(i:Nat):Nat->Option bg:=fun
 | 11=>some (.mk Nat (fun j=>j<=min (i+1) x.1.length) (fun st j=>(st.keep 8 []).aW [(8,si (ja x.1 x.2 i j)),(9,si j)]) (fun j=>min (i+1) x.1.length-j) 0 (fun _ _=>none))
 | _=>none
def A3(x:List Int×List Int):Nat->Option bg:=fun
 | 7=>some (.mk Nat (fun i=>i<=x.1.length+x.2.length-1) (fun st i=>((st.keep 6 []).aW [(6,.c (.own 0)),(7,si i)]).bJ [(0,.row true ai (oU x.1 x.2 i))]) (fun i=>x.1.length+x.2.length-1-i) 0 (fun i=>JU x i))
 | _=>none
def AR(x:List Int×List Int):Nat->Option bg:=fun
 | 7=>some (.mk Nat (fun i=>i<=x.1.length) (fun st i=>((st.keep 6 [34,35]).aW [(6,.c (.own 0)),(36,si i)]).bJ [(0,.row true ai (gn x.1 x.2 i 0))]) (fun i=>x.1.length-i) 0 (fun i=>fun
   | 10=>some (.mk Nat (fun j=>j<=x.2.length) (fun st j=>((st.keep 9 [34,35,36,41,42]).aW [(6,.c (.own 0)),(43,si j)]).bJ [(0,.row true ai (gn x.1 x.2 i j))]) (fun j=>x.2.length-j) 0 (fun _ _=>none))
   | _=>none))
 | _=>none
def JV(x:Int×List Int)(i:Nat):Nat->Option bg:=fun
 | 12=>some (.mk Nat (fun j=>j<=i) (fun st j=>(st.keep 9 []).aW [(9,si (jX (af x.1) x.2 (ck (af x.1) x.2 i) i j)),(10,si ((j:Int)+1))]) (fun j=>i-j) 0 (fun _ _=>none))
 | _=>none
def A6(x:Int×List Int):Nat->Option bg:=fun
 | 6=>some (.mk Nat (fun i=>i<=x.2.length) (fun st i=>((st.keep 8 []).aW [(6,.c (.own 0)),(8,si i)]).bJ [(0,.row true ai (ck (af x.1) x.2 i))]) (fun i=>x.2.length-i) 0 (fun i=>JV x i))
 | _=>none
def JT(x:Fd×List Int)(i:Nat):Nat->Option bg:=fun
 | 8=>some (.mk Nat (fun j=>j<=i) (fun st j=>(st.keep 8 []).aW [(8,si (qX x.1.1 x.2 (ck x.1.1 x.2 i) i j)),(9,si ((j:Int)+1))]) (fun j=>i-j) 0 (fun _ _=>none))
 | _=>none
def AY(x:Fd×List Int):Nat->Option bg:=fun
 | 4=>some (.mk Nat (fun i=>1<=i/\i<=x.2.length) (fun st i=>((st.keep 6 []).aW [(6,.c (.own 1)),(7,si i)]).bJ [(1,.row true ai (ck x.1.1 x.2 i))]) (fun i=>x.2.length-i) 1 (fun i=>JT x i))
 | _=>none
def JX(x:Int×List Int×List Int)(k:Nat):Nat->Option bg:=fun
 | 14=>some (.mk Nat (fun j=>j<=x.2.2.length) (fun st j=>((st.keep 14 []).aW [(14,si j)]).bJ [(0,.row true ai (dr (af x.1) x.2.2 (cJ (af x.1) (bC (af x.1) x.2.2) x.2.1 x.2.2 k) (x.2.1.length-x.2.2.length-k) (kc (af x.1) (bC (af x.1) x.2.2) x.2.1 x.2.2 k) j)),(1,.row true ai (gb (af x.1) (bC (af x.1) x.2.2) x.2.1 x.2.2 x.2.1.length (k+1)))]) (fun j=>x.2.2.length-j) 0 (fun _ _=>none))
 | _=>none
def JW(x:Int×List Int×List Int):Nat->Option bg:=fun
 | 9=>some (.mk Nat (fun k=>k<=x.2.1.length+1-x.2.2.length) (fun st k=>((st.keep 12 []).aW [(8,.c (.own 0)),(9,.c (.own 1)),(12,si ((x.2.1.length:Int)-k))]).bJ [(0,.row true ai (cJ (af x.1) (bC (af x.1) x.2.2) x.2.1 x.2.2 k)),(1,.row true ai (gb (af x.1) (bC (af x.1) x.2.2) x.2.1 x.2.2 x.2.1.length k))]) (fun k=>x.2.1.length+1-x.2.2.length-k) 0 (fun k=>JX x k))
 | _=>none
def A7(x:Int×List Int×List Int):Nat->Option bg:=fun
 | 4=>some (.mk Nat (fun i=>i<=x.2.1.length) (fun st i=>((st.keep 9 []).aW [(9,.c (.own 1)),(10,si i)]).bJ [(1,.row true ai (List.replicate i 0))]) (fun i=>x.2.1.length-i) 0 (fun _=>JW x))
 | _=>none
def OT(x:Fd×List Int×List Int)(k:Nat):Nat->Option bg:=fun
 | 13=>some (.mk Nat (fun j=>j<=x.2.2.length) (fun st j=>((st.keep 13 [63,64]).aW [(65,si j)]).bJ [(1,.row true ai (dr x.1.1 x.2.2 (cJ x.1.1 (bC x.1.1 x.2.2) x.2.1 x.2.2 k) (x.2.1.length-x.2.2.length-k) (kc x.1.1 (bC x.1.1 x.2.2) x.2.1 x.2.2 k) j)),(2,.row true ai (gb x.1.1 (bC x.1.1 x.2.2) x.2.1 x.2.2 (x.2.1.length-x.2.2.length+1) (k+1)))]) (fun j=>x.2.2.length-j) 0 (fun _ _=>none))
 | _=>none
def E4(x:Fd×List Int×List Int):Nat->Option bg:=fun
 | 7=>some (.mk Nat (fun k=>k<=x.2.1.length-x.2.2.length+1) (fun st k=>((st.keep 11 []).aW [(11,si ((x.2.1.length:Int)-x.2.2.length-k))]).bJ [(1,.row true ai (cJ x.1.1 (bC x.1.1 x.2.2) x.2.1 x.2.2 k)),(2,.row true ai (gb x.1.1 (bC x.1.1 x.2.2) x.2.1 x.2.2 (x.2.1.length-x.2.2.length+1) k))]) (fun k=>x.2.1.length-x.2.2.length+1-k) 0 (fun k=>OT x k))
 | _=>none
def j7(m:Int)(l:List Int)(k:Nat):Prop:=k<=l.length/\∀ x∈l.take k,-m<=x/\x<=m
def Dt(x:List Int):Nat->Option bg:=fun
 | 4=>some (.mk Nat (fun k=>j7 1000000 x k) (fun st k=>(st.keep 3 []).aW [(3,si k)]) (fun k=>x.length-k) 0 (fun _ _=>none))
 | _=>none
def Db(x:List Int):Nat->Option bg:=fun
 | 2=>some (.mk Nat (fun k=>j7 1000000 x k) (fun st k=>(st.keep 4 [5,6]).aW [(7,si k)]) (fun k=>x.length-k) 0 (fun _ _=>none))
 | _=>none
def Du(x:List Int):Nat->Option bg:=fun
 | 4=>some (.mk Nat (fun k=>j7 1099511627776 x k) (fun st k=>(st.keep 3 []).aW [(3,si k)]) (fun k=>x.length-k) 0 (fun _ _=>none))
 | _=>none
def Dc(x:List Int):Nat->Option bg:=fun
 | 2=>some (.mk Nat (fun k=>j7 1099511627776 x k) (fun st k=>(st.keep 4 [5,6]).aW [(7,si k)]) (fun k=>x.length-k) 0 (fun _ _=>none))
 | _=>none
def CB(f:Int)(ls:List (List Int))(k:Nat):Prop:=∀ i,i<k->aZ f (ls.getD i [])=true
def Aj(x:Int×List (List Int)):Nat->Option bg:=fun
 | 5=>some (.mk Nat (fun k=>k<=x.2.length/\CB x.1 x.2 k) (fun st k=>(st.keep 8 [18,19]).aW [(20,si k)]) (fun k=>x.2.length-k) 0 (fun _ _=>none))
 | _=>none
def xH(x:Int×List (List Int)):Nat->Option bg:=fun
 | 5=>some (.mk Nat (fun k=>k<=1/\(k=1->jU x.1 (x.2.getD 0 [])=true)) (fun st k=>(st.keep 8 [18,19]).aW [(20,si k)]) (fun k=>1-k) 0 (fun _ _=>none))
 | _=>none
def Dp(x:Int×List Int×List Int):Nat->Option bg:=fun
 | 5=>some (.mk Nat (fun k=>k<=x.2.2.length) (fun st k=>((st.keep 7 []).aW [(7,.c (.own 0)),(8,si k)]).bJ [(0,.row true ai (fx (af x.1) x.2.1 x.2.2 k))]) (fun k=>x.2.2.length-k) 0 (fun _ _=>none))
 | _=>none
end Go.SF
/- Contracts: lines that are made anew. No condition. -/
namespace Go.SF
open Go.SX Go
set_option linter.unusedVariables false
def cw(n:Int):C:=.val (.int .i64 n)
end Go.SF
/- Contracts: caches whose entries' blocks are told. No condition. -/
namespace Go.SF
open Go.SX Go
set_option linter.unusedVariables false
abbrev bA:Ty:=.st (.pr (.gs true dV) (.st (.pr (.int .i64) (.pr (.gs true ai) (.gs true ai)))))
abbrev PG:=Nat×List Int
abbrev aN:=PG×Int×PG×PG
abbrev aB:Ty:=.st (.pr (.int .i64) (.sl bA))
abbrev b7:Ty:=.st (.pr (.gs false dV) (.st (.pr (.int .i64) (.pr (.gs false ai) (.gs false ai)))))
abbrev Ba:Ty:=.st (.pr (.int .i64) (.gs false b7))
def bf(e:aN):En:=(e.1.2,e.2.1,e.2.2.1.2,e.2.2.2.2)
def jW(p:PG):List Nat:=if p.2=[] then [] else [p.1]
def cg(e:aN):List Nat:=jW e.1++(jW e.2.2.1++jW e.2.2.2)
def cq:aN:=((0,[]),0,(0,[]),(0,[]))
def n_:TC:={ ts:=[.sl dj],fg:=[.sl bA],nd:=true,pre:=fun x=>bj x,F:=fun x=>x }
def pL:TC:={ ts:=[bq],fg:=[aB],nd:=true,pre:=fun x=>bj x.2,F:=fun x=>x }
def A2(x:List En):Nat->Option bg:=fun k =>
 if k=3 then some (.mk (Nat×List aN) (fun k=>k.1<=x.length/\k.2.length=k.1/\k.2.map bf=x.take k.1/\(k.2.flatMap cg).Nodup)
  (fun st k=>((st.keep 5 []).aW [(4,si k.1),(3,.c (.own 0))]).bJ [(0,.row true bA (k.2++List.replicate (x.length-k.1) cq))]) (fun k=>x.length-k.1) (0,[]) (fun _ _=>none))
 else none
def m5:PC:={ ts:=[bd],rs:=[bd],pre:=fun x=>eP x,F:=fun x=>x }
def n9:PC:={ ts:=[dj],rs:=[dj],pre:=fun x=>mr x,F:=fun x=>x }
def gC:TC:={ ts:=[bq],fg:=[aB],nd:=true,pre:=fun x=>bj x.2,F:=fun x=>x }
def AS(x:Ca):Nat->Option bg:=fun
 | 3=>some (.mk (Nat×List aN) (fun k=>k.1<=x.2.length/\k.2.map bf=x.2.take k.1/\(k.2.flatMap cg).Nodup)
   (fun st k=>((st.keep 12 []).aW [(12,si k.1)]).bJ [(2,.bx [cw x.1,.own 3]),(3,.row true bA k.2)]) (fun k=>x.2.length-k.1) (0,[]) (fun _ _=>none))
 | _=>none
def pQ:PC:={ ts:=[bp],rs:=[bp],pre:=fun x=>x.length<=1048576,F:=fun x=>x,fz:=true }
def rO(x:List Int):Nat->Option bg:=fun
 | 3=>some (.mk Nat (fun k=>k<=x.length) (fun st k=>((st.keep 3 []).aW [(4,si k),(3,.c (.own 0))]).bJ [(0,.row true dV (x.take k))]) (fun k=>x.length-k) 0 (fun _ _=>none))
 | _=>none
def m_:PC:={ ts:=[bd],rs:=[bd],pre:=fun x=>eP x,F:=fun x=>x,fz:=true }
abbrev fN:Ty:=.st (.pr (.int .i64) (.sl b7))
def Bm:TC:={ ts:=[bq],fg:=[fN],nd:=false,pre:=fun x=>bj x.2,F:=fun x=>x }
def lH:PC:={ ts:=[bq],rs:=[bq],pre:=fun x=>bj x.2,F:=fun x=>x }
def Fj(x:Ca):Nat->Option bg:=fun
 | 3=>some (.mk Nat (fun k=>k<=x.2.length)
   (fun st k=>((st.keep 4 []).aW [(4,si k)]).bJ [(2,.bx [cw x.1,.own 3]),(3,.row true dj (x.2.take k))]) (fun k=>x.2.length-k) 0 (fun _ _=>none))
 | _=>none
def w8(k:Int):Int:=u8.wrap k
def YJ(x:Int)(k:Int):Bool:=decide (x=w8 k)
def eQ(xs:List Int)(k:Int):List Int:=rz w8 n1 xs k
def nB(xs:List Int)(k:Int):Int:=jA n1 xs k
def dM(xs:List Int)(k:Int):Int:=ve YJ n1 xs k
def dU:MC:={ t:=.sl dV,pre:=fun _ _=>True,F:=fun x k=>nB x k,G:=fun x k=>eQ x k }
def A0(x:List Int)(k:Int):=YF (e:=dV) eQ nB x k
def ta:PC:={ ts:=[.sl dV,ai],rs:=[ai],pre:=fun _=>True,F:=fun x=>dM x.1 x.2 }
def AZ(x:List Int×Int):=Yj (e:=dV) dM x
def xS:PC:=FB dV dU.pre dU.F
def Al(x:List Int×Int):Nat->Option bg:=fun
 | 2=>some (.mk Unit (fun _=>True) (fun st _=>(st.keep 1 []).aW [(5,si 0),(1,si x.2)]) (fun _=>0) () (fun _ _=>none))
 | _=>none
def Av:PC:=FB ai dn.pre dn.F
def A1(x:List Int×Int):Nat->Option bg:=fun
 | 2=>some (.mk Unit (fun _=>True) (fun st _=>(st.keep 1 []).aW [(5,si 0),(1,si x.2)]) (fun _=>0) () (fun _ _=>none))
 | _=>none
def sk(e:aN)(k:Int):Int:=nB e.1.2 k
def Fy(e:aN)(k:Int):Int:=gg (sk e k+1)
def vQ(e:aN)(k:Int):Int:=dJ e.2.2.1.2 (Fy e k)
def qD(e:aN)(k:Int):Int:=dJ e.2.2.2.2 (vQ e k)
def MR(e:aN)(k:Int):aN:=((e.1.1,eQ e.1.2 k),e.2)
def qB(e:aN)(k:Int):aN:=((e.1.1,eQ e.1.2 k),sk e k,e.2.2)
def qC(e:aN)(k:Int):aN:=((e.1.1,eQ e.1.2 k),sk e k,(e.2.2.1.1,c7 e.2.2.1.2 (Fy e k)),e.2.2.2)
def xQ(e:aN)(k:Int):aN:=((e.1.1,eQ e.1.2 k),sk e k,(e.2.2.1.1,c7 e.2.2.1.2 (Fy e k)),(e.2.2.2.1,c7 e.2.2.2.2 (vQ e k)))
def bt:List aN->Int->List aN
 | [],_=>[]
 | e::es,k=>xQ e k::bt es (qD e k)
def cP:List aN->Int->Int
 | [],k=>k
 | e::es,k=>cP es (qD e k)
def cH:List En->Int->Int
 | [],k=>k
 | e::es,k =>
   if dM e.1 k<0 then -1 else if e.2.1=dM e.1 k then
    (if cx e.2.2.1 (gg (dM e.1 k+1))<0 then -1 else if cx e.2.2.2 (cx e.2.2.1 (gg (dM e.1 k+1)))<0 then -1 else cH es (cx e.2.2.2 (cx e.2.2.1 (gg (dM e.1 k+1)))))
   else -1
def rj:MT:={ t:=.sl bA,pre:=fun _ _=>True,F:=fun x k=>cP x k,G:=fun x k=>bt x k }
def tc:MT:={ t:=aB,pre:=fun _ _=>True,F:=fun x k=>cP x.2 k,G:=fun x k=>(x.1,bt x.2 k) }
def eg(x:List aN)(k:Int)(j:Nat)(e:aN):List aN:=bt (x.take j) k++e::x.drop (j+1)
def Hb(x:List aN)(k:Int)(j:Nat×Int):Nat->Option bg:=fun
 | 100008=>some (.mk Unit (fun _=>True) (fun st _=>((st.keep 1 []).aW [(5,si j.1),(1,si (vQ (x.getD j.1 cq) j.2))]).bJ [(0,.row false bA (eg x k j.1 (qC (x.getD j.1 cq) j.2)))]) (fun _=>0) () (fun _ _=>none))
 | _=>none
def Ha(x:List aN)(k:Int)(j:Nat×Int):Nat->Option bg:=fun
 | 100006=>some (.mk Unit (fun _=>True) (fun st _=>((st.keep 1 []).aW [(5,si j.1),(1,si (sk (x.getD j.1 cq) j.2))]).bJ [(0,.row false bA (eg x k j.1 (qB (x.getD j.1 cq) j.2)))]) (fun _=>0) () (fun _=>Hb x k j))
 | _=>none
def G_(x:List aN)(k:Int)(j:Nat×Int):Nat->Option bg:=fun
 | 100005=>some (.mk Unit (fun _=>True) (fun st _=>((st.keep 1 []).aW [(5,si j.1),(1,si (sk (x.getD j.1 cq) j.2))]).bJ [(0,.row false bA (eg x k j.1 (MR (x.getD j.1 cq) j.2)))]) (fun _=>0) () (fun _=>Ha x k j))
 | _=>none
def Am(x:List aN)(k:Int):Nat->Option bg:=fun
 | 2=>some (.mk (Nat×Int) (fun j=>j.1<=x.length/\j.2=cP (x.take j.1) k) (fun st j=>((st.keep 1 []).aW [(5,si j.1),(1,si j.2)]).bJ [(0,.row false bA (bt (x.take j.1) k++x.drop j.1))]) (fun j=>x.length-j.1) (0,k) (fun j=>G_ x k j))
 | _=>none
def rh:PC:={ ts:=[.sl dj,ai],rs:=[ai],pre:=fun _=>True,F:=fun x=>cH x.1 x.2 }
def tb:PC:={ ts:=[bq,ai],rs:=[ai],pre:=fun _=>True,F:=fun x=>gV (cH x.1.2 x.2) }
def Ak(x:List En×Int):Nat->Option bg:=fun
 | 2=>some (.mk (Nat×Int) (fun j=>j.1<=x.1.length/\cH (x.1.drop j.1) j.2=cH x.1 x.2) (fun st j=>(st.keep 1 []).aW [(5,si j.1),(1,si j.2)]) (fun j=>x.1.length-j.1) (0,x.2) (fun _ _=>none))
 | _=>none
def cB(c:Int)(es:List En):Nat->Nat
 | 0=>0
 | n+1=>if 30<n+1\/c<(c9 (es.take (n+1)):Int) then cB c es n else n+1
def Oa(c:Ca):Ca:=(c.1,c.2.take (cB c.1 c.2 c.2.length))
def s_:CT:={ e:=bA,pre:=fun c xs=>bj (xs.map bf)/\0<=c,F:=fun c xs=>cB c (xs.map bf) xs.length }
def uF(x:Int×List aN):Nat->Option bg:=fun
 | 1=>some (.mk Nat (fun k=>k<=x.2.length/\cB x.1 (x.2.map bf) k=cB x.1 (x.2.map bf) x.2.length) (fun st k=>(st.keep 3 []).bJ [(1,.bx [cw x.1,.pre 0 k])]) (fun k=>k) x.2.length (fun _ _=>none))
 | _=>none
def xj:CT:={ e:=b7,pre:=fun c xs=>bj (xs.map bf)/\0<=c,F:=fun c xs=>cB c (xs.map bf) xs.length }
def Fk(x:Int×List aN):Nat->Option bg:=uF x
end Go.SF
/- Contracts: codes of jobs. No condition. -/
namespace Go.SF
open Go.SX Go
set_option linter.unusedVariables false
def n7(x:Int):Nat:=if x<0 then (-2*x-1).toNat else (2*x).toNat
def e7(u:Nat):List Int:=if h:u<128 then [(u:Int)] else ((u%128+128:Nat):Int)::e7 (u/128)
termination_by u
decreasing_by omega
def cM(x:Int):Prop := -1099511627776<=x/\x<=1099511627776
instance (x:Int):Decidable (cM x):=by unfold cM;infer_instance
def bw(x:Int):List Int:=if cM x then e7 (n7 x) else []
def kZ(l:List Int):List Int:=bw l.length++l.flatMap bw
def gB(j:Jb):List Int:=[j.1,j.2.1]++bw j.2.2.2.2++kZ j.2.2.1++kZ j.2.2.2.1
def oa:PC:={ ts:=[ai],rs:=[bp],pre:=fun _=>True,F:=fun x=>bw x }
def s7:PC:={ ts:=[ai],rs:=[bp],pre:=fun x=>cM x,F:=fun x=>bw x }
def tm:PC:={ ts:=[bp],rs:=[bp],pre:=fun x=>x.length<=1048576,F:=fun x=>x }
def rZ:PC:={ ts:=[bp,bp],rs:=[bp],pre:=fun x=>x.1.length<=1048576/\x.2.length<=1048576,F:=fun x=>x.1++x.2 }
def rn:PC:={ ts:=[bp,aj],rs:=[bp],pre:=fun x=>x.1.length<=524288/\x.2.length<=400,F:=fun x=>x.1++kZ x.2 }
def fm(j:Jb):List Int:=if aK j=true then gB j else []
def tf:PC:={ ts:=[eF],rs:=[bp],pre:=fun _=>True,F:=fun x=>fm x }
def s4:PC:={ ts:=[eF],rs:=[bp],pre:=fun x=>aK x=true,F:=fun x=>gB x }
def iI(x:Int)(k:List Int×Nat):Prop:=k.1++e7 k.2=e7 (n7 x)/\k.2<=4398046511104/\k.1.length<=100
def A4(x:Int):Nat->Option bg:=fun
 | 7=>some (.mk (List Int×Nat) (fun k=>iI x k/\cM x) (fun st k=>((st.keep 3 []).aW [(3,.c (.own 0)),(4,si k.2)]).bJ [(0,.row true dV k.1)]) (fun k=>k.2) ([],n7 x) (fun _ _=>none))
 | _=>none
def AW(x:Int):Nat->Option bg:=fun
 | 5=>some (.mk (List Int×Nat) (fun k=>iI x k/\cM x) (fun st k=>((st.keep 3 []).aW [(4,.c (.own 0)),(3,si k.2)]).bJ [(0,.row true dV k.1)]) (fun k=>k.2) ([],n7 x) (fun _ _=>none))
 | _=>none
def Fh(x:List Int×List Int):Nat->Option bg:=fun
 | 3=>some (.mk Nat (fun k=>k<=x.2.length) (fun st k=>((st.keep 5 []).aW [(6,si k),(5,.c (.own 0))]).bJ [(0,.row true dV (x.1++x.2.take k))]) (fun k=>x.2.length-k) 0 (fun _ _=>none))
 | _=>none
def qV(x:List Int×List Int)(k:Nat):List Int:=x.1++bw x.2.length++(x.2.take k).flatMap bw
def Hc(x:List Int×List Int)(k:Nat):Nat->Option bg:=fun
 | 6=>some (.mk Nat (fun i=>i<=(bw (x.2.getD k 0)).length) (fun st i=>((st.keep 25 [7]).aW [(0,.c (.own 1)),(25,si i)]).bJ [(1,.row true dV (qV x k++(bw (x.2.getD k 0)).take i))]) (fun i=>(bw (x.2.getD k 0)).length-i) 0 (fun _ _=>none))
 | _=>none
def Aq(x:List Int×List Int):Nat->Option bg:=fun
 | 3=>some (.mk Nat (fun k=>k<=x.2.length) (fun st k=>((st.keep 5 []).aW [(5,si k),(0,.c (.own 1))]).bJ [(1,.row true dV (qV x k))]) (fun k=>x.2.length-k) 0 (fun k=>Hc x k))
 | _=>none
def oV(j:Jb)(k:Nat):List Int:=[j.1,j.2.1]++bw j.2.2.2.2++([j.2.2.1,j.2.2.2.1].take k).flatMap kZ
def kd(j:Jb)(k:Nat):List Int:=if k=0 then j.2.2.1 else j.2.2.2.1
def JS(j:Jb)(k:Nat):Nat->Option bg:=fun
 | 7=>some (.mk Nat (fun i=>i<=(kd j k).length) (fun st i=>((st.keep 8 [23,24,25,34,35]).aW [(3,.c (.own 1)),(36,si i)]).bJ [(1,.row true dV (oV j k++bw (kd j k).length++((kd j k).take i).flatMap bw))]) (fun i=>(kd j k).length-i) 0 (fun _ _=>none))
 | _=>none
def AT(j:Jb):Nat->Option bg:=fun
 | 3=>some (.mk Nat (fun k=>k<=2) (fun st k=>((st.keep 8 [23,24]).aW [(25,si k),(3,.c (.own 1))]).bJ [(1,.row true dV (oV j k))]) (fun k=>2-k) 0 (fun k=>JS j k))
 | _=>none
end Go.SF
/- Contracts: the laws of caches, where their code is cut. No condition. -/
namespace Go.SF
open Go.SX Go
set_option linter.unusedVariables false
abbrev CA:=Int×Nat×List aN
def bB(a:CA):Ca:=(a.1,a.2.2.map bf)
def ed(x:List aN):List Nat:=x.flatMap cg
def idC(a:CA):List Nat:=ids (.gs false b7) a.2
def dp:List En->Nat
 | []=>0
 | e::es=>e.1.length+1+e.2.2.1.length+e.2.2.2.length+dp es
def Ag(w:Ca)(a:CA)(x:List aN×List aN):Prop:=dp (bB a).2<=1048576/\x.1.map bf=w.2/\x.2.map bf=(bB a).2/\(ed x.2).Nodup/\bz (ed x.2) (ed x.1)/\bz (ed x.2) (idC a)
def P8(w:Ca)(a:CA)(x:List aN×List aN)(g:List aN):Prop:=g.map bf=w.2/\(ed g).Nodup/\bz (ed g) (ed x.1)/\bz (ed g) (ed x.2)/\bz (ed g) (idC a)
def YO(x:List aN):az:=.row true b7 x
def SS(x:List aN):az:=.row true bA x
def Qf(n:Nat)(c:Int):az:=.bx [cw c,.own n]
def aam(n:Nat)(c:Int):S:=.agg [cw c,.own n]
def cbo(n:Bool):C:=.val (.bool n)
end Go.SF
/- Contracts: results looked up and stored. No condition. -/
namespace Go.SF
open Go.SX Go
set_option linter.unusedVariables false
def cX(c:Ca)(e:En):Ca:=(c.1,e::c.2.filter (fun o=>decide (o.1≠e.1)))
def pT:PC:={ ts:=[bq,dj],rs:=[bq],pre:=fun x=>bj x.1.2/\mr x.2,F:=fun x=>cX x.1 x.2 }
def Aw:TC:={ ts:=[bq,dj],fg:=[fN],nd:=false,pre:=fun x=>bj x.1.2/\mr x.2,F:=fun x=>cX x.1 x.2 }
def Dv(x:Ca×En):Nat->Option bg:=fun
 | 4=>some (.mk Nat (fun k=>k<=x.1.2.length)
   (fun st k=>((st.keep 7 []).aW [(7,si k)]).bJ [(3,.row true dj (cX (x.1.1,x.1.2.take k) x.2).2),(4,.bx [cw x.1.1,.own 3])]) (fun k=>x.1.2.length-k) 0 (fun _ _=>none))
 | _=>none
def pS:PC:={ ts:=[bd],rs:=[bd],pre:=fun x=>eP x,F:=fun x=>x }
def cZ(c:Ca)(key:List Int):Ca×Rs×Bool :=
 if bK c=true/\0<=aL key c.2 0 then (cX c (c.2.getD (aL key c.2 0).toNat gQ),(c.2.getD (aL key c.2 0).toNat gQ).2,true) else (c,(0,[],[]),false)
def y4:PC:={ ts:=[bq,bp],rs:=[bq,bd,.bool],pre:=fun x=>bj x.1.2/\x.2.length<=1048576,F:=fun x=>cZ x.1 x.2 }
def II(x:Ca×List Int):Nat->Option bg:=fun
 | 4=>some (.mk Nat (fun k=>k<=x.1.2.length/\aL x.2 (x.1.2.drop k) k=aL x.2 x.1.2 0) (fun st k=>(st.keep 7 []).aW [(7,si k)]) (fun k=>x.1.2.length-k) 0 (fun _ _=>none))
 | _=>none
def rU:TC:={ ts:=[bq,bp],fg:=[aB,bd,.bool],nd:=true,pre:=fun x=>bj x.1.2/\x.2.length<=1048576,F:=fun x=>cZ x.1 x.2 }
def ew(c:Ca)(key:List Int)(r:Rs):Ca×Bool :=
 if bK c=true/\key.length<=5000/\(hO r:Int)<=c.1 then (Oa (cX c (key,r)),true) else (c,false)
def FG:TC:={ ts:=[bq,bp,bd],fg:=[fN,.bool],nd:=false,pre:=fun x=>bj x.1.2/\x.2.1.length<=1048576/\eP x.2.2,F:=fun x=>ew x.1 x.2.1 x.2.2 }
def I2:PC:={ ts:=[bq,bp,bd],rs:=[bq,.bool],pre:=fun x=>bj x.1.2/\x.2.1.length<=1048576/\eP x.2.2,F:=fun x=>ew x.1 x.2.1 x.2.2 }
def tI:TC:={ ts:=[bq,bp,bd],fg:=[aB,.bool],nd:=true,pre:=fun x=>bj x.1.2/\x.2.1.length<=1048576/\eP x.2.2,F:=fun x=>ew x.1 x.2.1 x.2.2 }
def TF(x:Ca×List Int×Rs):Nat->Option bg:=fun
 | 100009=>some (.mk (List aN) (fun g=>g.map bf=(cX x.1 (x.2.1,x.2.2)).2/\(ed g).Nodup/\bK x.1=true/\x.2.1.length<=5000/\(hO x.2.2:Int)<=x.1.1)
   (fun st g=>(st.keep 9 []).bJ [(3,.row true bA g),(4,.bx [cw x.1.1,.own 3]),(5,.dead),(6,.dead),(7,.dead),(8,.dead)]) (fun _=>0) [] (fun _ _=>none))
 | _=>none
def Lf(x:Ca×List Int×Rs):Nat->Option bg:=fun
 | 100008=>some (.mk (List aN) (fun g=>g.map bf=x.1.2.filter (fun o=>decide (o.1≠x.2.1))/\(ed g).Nodup/\bK x.1=true/\x.2.1.length<=5000/\(hO x.2.2:Int)<=x.1.1)
   (fun st g=>(st.keep 10 []).bJ [(3,.row true bA g),(4,.bx [cw x.1.1,.own 3])]) (fun _=>0) [] (fun _=>TF x))
 | _=>none
def fp(r:Rs)(k:Int):Rs:=(r.1,c7 r.2.1 k,c7 r.2.2 (dJ r.2.1 k))
def rb(r:Rs)(k:Int):Int:=dJ r.2.2 (dJ r.2.1 k)
def rk:MC:={ t:=bd,pre:=fun _ _=>True,F:=fun x k=>rb x k,G:=fun x k=>fp x k }
def gM(r:Rs)(k:Int):Int:=if cx r.2.1 k<0 then -1 else if cx r.2.2 (cx r.2.1 k)<0 then -1 else cx r.2.2 (cx r.2.1 k)
def ri:PC:={ ts:=[bd,ai],rs:=[ai],pre:=fun _=>True,F:=fun x=>gM x.1 x.2 }
end Go.SF
/- Contracts: the laws of results looked up and stored, where their code is cut. No condition. -/
namespace Go.SF
open Go.SX Go
set_option linter.unusedVariables false
abbrev Hz:Ty:=.gs false ai
abbrev P_:=Ca×Rs×Bool
def jn(xs:List Int):az:=.row true ai xs
def xJ(c:Int)(n m:Nat):az:=.bx [cw c,.own n,.own m]
def Qb(c:Int)(n m:Nat):S:=.agg [cw c,.own n,.own m]
end Go.SF
/- Contracts: jobs answered through a cache. No condition. -/
namespace Go.SF
open Go.SX Go
set_option linter.unusedVariables false
def aM(c:Ca)(j:Jb):Ca×Rs×Bool :=
 if bK c=true then
  (if aK j=true then (if (cZ c (gB j)).2.2=true then cZ c (gB j) else ((ew c (gB j) (aA j)).1,aA j,false))
  else (c,aA j,false))
 else (c,(0,[],[]),false)
def th:PC:={ ts:=[bq,eF],rs:=[bq,bd,.bool],pre:=fun x=>bj x.1.2,F:=fun x=>aM x.1 x.2 }
def m7:TC:={ ts:=[bq,eF],fg:=[aB,bd,.bool],nd:=true,pre:=fun x=>bj x.1.2/\bK x.1=true,F:=fun x=>aM x.1 x.2 }
def Au:PC:={ ts:=[bq,eF],rs:=[bq,bd,.bool],pre:=fun x=>bj x.1.2,F:=fun x=>aM x.1 x.2 }
def m4:TC:={ ts:=[bq,eF],fg:=[aB,bd,.bool],nd:=true,pre:=fun x=>bj x.1.2,F:=fun x=>aM x.1 x.2 }
abbrev R7:Ty:=.st (.pr (.int .i64) (.pr (.int .i64) (.pr Hz (.pr Hz (.int .i64)))))
abbrev Iz:=Int×Int×PG×PG×Int
def bE(j:Iz):Jb:=(j.1,j.2.1,j.2.2.1.2,j.2.2.2.1.2,j.2.2.2.2)
def me(w:Ca)(a:CA)(j:Iz)(x:List aN×List aN):Prop:=Ag w a x/\(j.2.2.1.2.length<=1048576/\j.2.2.2.1.2.length<=1048576)/\bz (ed x.2) (ids Hz j.2.2.1)/\bz (ed x.2) (ids Hz j.2.2.2.1)
def mf(w:Ca)(a:CA)(j:Iz)(x:List aN×List aN)(g:List aN):Prop:=P8 w a x g/\bz (ed g) (ids Hz j.2.2.1)/\bz (ed g) (ids Hz j.2.2.2.1)
def aak(k f c:Int)(n m:Nat):az:=.bx [cw k,cw f,.own n,.own m,cw c]
def aaj(w:P_):Nat->Option bg:=fun
 | 100036=>some (.mk Unit (fun _=>True) (fun st _=>((st.keep 6 [6,7,8,11,12,13,15]).aW [(17,.c (.box 26 0)),(18,.c (.box 27 0)),(19,.c (cbo w.2.2)),(125,aam 23 w.1.1),(126,Qb w.2.1.1 24 25)]).bJ
    [(20,.dead),(21,.dead),(22,.dead),(23,.row true dj w.1.2),(24,jn w.2.1.2.1),(25,jn w.2.1.2.2),(26,Qf 23 w.1.1),(27,xJ w.2.1.1 24 25)]) (fun _=>0) () (fun _ _=>none))
 | _=>none
def aai(d:CA×Iz)(w:P_)(x:List aN×List aN)(g:List aN):Nat->Option bg:=fun
 | 100035=>some (.mk Unit (fun _=>me w.1 d.1 d.2 x/\mf w.1 d.1 d.2 x g) (fun st _=>{ ts:=((st.keep 6 [6,7,8,11,12,13]).aW [(15,si (rb w.2.1 (cP g 1)))]).ts,hp:=[st.an 0,st.an 1,.dead,.dead,.dead,YO x.1,jn w.2.1.2.1,jn w.2.1.2.2,Qf 5 w.1.1,xJ w.2.1.1 6 7,.dead,.dead,.dead,.dead,.dead,SS (bt g 1),jn (fp w.2.1 (cP g 1)).2.1,jn (fp w.2.1 (cP g 1)).2.2,Qf 15 w.1.1,xJ w.2.1.1 16 17] }) (fun _=>0) () (fun _=>aaj w))
 | _=>none
def aah(d:CA×Iz)(w:P_)(x:List aN×List aN):Nat->Option bg:=fun
 | 100012=>some (.mk (List aN) (fun g=>mf w.1 d.1 d.2 x g) (fun st g=>((st.keep 6 [6,7,8,9,10]).aW [(11,.c (.box 18 0)),(12,.c (.box 19 0)),(13,.c (cbo w.2.2)),(47,aam 15 w.1.1),(48,Qb w.2.1.1 16 17)]).bJ
    [(15,SS g),(16,jn w.2.1.2.1),(17,jn w.2.1.2.2),(18,Qf 15 w.1.1),(19,xJ w.2.1.1 16 17)]) (fun _=>0) [] (fun g=>aai d w x g))
 | _=>none
def aag(d:CA×Iz)(w:P_):Nat->Option bg:=fun
 | 100011=>some (.mk (List aN×List aN) (fun x=>me w.1 d.1 d.2 x) (fun st x=>((st.keep 6 [6,7,8,9]).aW [(10,.c (.box 14 0))]).bJ
    [(2,.dead),(3,.dead),(4,.dead),(5,YO x.1),(6,jn w.2.1.2.1),(7,jn w.2.1.2.2),(8,Qf 5 w.1.1),(9,xJ w.2.1.1 6 7),(10,SS x.2),(11,Qf 10 d.1.1),(12,jn d.2.2.2.1.2),(13,jn d.2.2.2.2.1.2),(14,aak d.2.1 d.2.2.1 d.2.2.2.2.2 12 13)]) (fun _=>0) ([],[]) (fun x=>aah d w x))
 | _=>none
def XW(d:CA×Iz):Nat->Option bg:=aag d (aM (bB d.1) (bE d.2))
end Go.SF
