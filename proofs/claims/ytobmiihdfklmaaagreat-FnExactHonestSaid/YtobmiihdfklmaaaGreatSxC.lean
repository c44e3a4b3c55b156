/- A verified symbolic executor and its contracts (part SxC). No condition. -/
import Derived.Test.YtobmiihdfklmaaaGreatSxG
import Derived.IntWalk
set_option linter.unusedVariables false
set_option linter.unusedSimpArgs false
open Go.IntKind (i64 u8)
/- Contracts: what all share. No condition. -/
namespace Go.SF
open Go.SX Go
set_option linter.unusedVariables false
abbrev ae{α:Type}(x:α):Prop:=x=x
abbrev aQ:Prop:=Value.slice none 0 0=Value.slice none 0 0
theorem sxS:(∀ n:Nat,Int.toNat (n:Int)=n)/\(∀ p:Prop,(p/\True)=p)/\(∀ p:Prop,(True/\p)=p)/\(∀ {α:Sort 1},(α->True)=True)/\(∀ {p:Prop},(p->True)=True)/\(∀ b:Bool,((!b)=true)=(b=false))/\(∀ b:Bool,((!b)=false)=(b=true)):=⟨Int.toNat_natCast,and_true,true_and,fun {α}=>implies_true α,fun {p}=>implies_true p,fun b=>Bool.not_eq_true' b,fun b=>Bool.not_eq_false' b⟩
def aM:List (Nat×PC)->FuncId->Option PC
 | [],_=>none
 | (k,c)::r,f=>if f=k then some c else aM r f
def wT:List (Nat×dk)->FuncId->Option dk
 | [],_=>none
 | (k,c)::r,f=>if f=k then some c else wT r f
def R0:FuncId->Option dk:=fun _=>none
def aV{X:Type}:X->Nat->Option bk:=fun _ _=>none
def si(n:Int):S:=.c (.val (.int .i64 n))
abbrev ah:Ty:=.int .i64
def il(n:Int):Int:=i64.wrap n
def dV(n:Nat)(left:Int):Int:=if il (left-n)<0 then -1 else il (left-n)
def Ir{e:Ty}(x:List e.den)(key i out m:Nat):Nat->Option bk:=fun k =>
 if k=key then some (.mk Nat (fun k=>k<=x.length) (fun st k=>((st.keep m []).aU [(i,si k),(out,.c (.own 0))]).bE [(0,.row true e (x.take k++List.replicate (x.length-k) e.en))]) (fun k=>x.length-k) 0 (fun _ _=>none))
 else none
def Kp{e:Ty}(x:List e.den×List e.den)(key i m:Nat):Nat->Option bk:=fun k =>
 if k=key then some (.mk Nat (fun k=>k<=x.1.length/\x.1.length=x.2.length/\x.1.take k=x.2.take k) (fun st k=>(st.keep m []).aU [(i,si k)]) (fun k=>x.1.length-k) 0 (fun _ _=>none))
 else none
def dS:PC:={ ts:=[ah,ah,ah],rs:=[.bool],pre:=fun _=>True,F:=fun x=>decide (x.2.1<=x.1)&&decide (x.1<=x.2.2) }
theorem jv{α:Type}{l:List α}{i:Nat}{x:α}(h:i<l.length):l.drop i=l.getD i x::l.drop (i+1):=by
 rw[List.drop_eq_getElem_cons h];simp[h]
theorem wrap_small{n:Int}(h : -9223372036854775808<=n/\n<=9223372036854775807):i64.wrap n=n:=by
 rw[IntKind.wrap_i64];omega
theorem aC{n:Nat}(h:n<9223372036854775807):i64.wrap ((n:Int)+1)=((n+1:Nat):Int):=by
 rw[wrap_small (by omega)];rfl
theorem uj{α:Type}(l:List α)(z:α){i:Nat}(h:i<l.length):(l.take i++List.replicate (l.length-i) z).set i (l.getD i z)=l.take (i+1)++List.replicate (l.length-(i+1)) z:=by
 apply List.ext_getElem?
 intro j
 simp only[List.getElem?_set,List.getElem?_append,List.getElem?_take,List.getElem?_replicate,List.length_take,List.length_append,List.length_replicate,List.getD_eq_getElem?_getD]
 grind
theorem tg{α:Type}{a b:List α}{z:α}{i:Nat}(hl:a.length=b.length)(hi:i<a.length)(h:a.take i=b.take i):(a.take (i+1)=b.take (i+1)↔a.getD i z=b.getD i z)/\(a=b->a.getD i z=b.getD i z):=by
 refine⟨?_,fun e=>by rw[e]⟩
 rw[List.take_add_one,List.take_add_one,h,List.append_cancel_left_eq]
 rw[List.getElem?_eq_getElem hi,List.getElem?_eq_getElem (show i<b.length by omega)]
 simp[hi,show i<b.length by omega]
end Go.SF
/- Contracts: fields, and lists of their elements. No condition. -/
namespace Go.SF
open Go.SX Go
set_option linter.unusedVariables false
abbrev bm:Ty:=.st (.pr (.int .i64) (.pr (.int .i64) (.int .i64)))
abbrev ai:Ty:=.sl (.int .i64)
abbrev Fd:=Int×Int×Int
def Dl:List Fd:=[(17,3,4),(97,5,5),(193,5,6),(257,3,8),(7681,17,9),(12289,11,12),(998244353,3,23),(469762049,3,26),(1004535809,3,21)]
def al(f:Int):Fd×Bool:=if 0<=f/\f<9 then (Dl.getD f.toNat (0,0,0),true) else ((0,0,0),false)
def ab(f:Int):Int:=(al f).1.1
def cE(f:Int):Int:=if (al f).2=true then (al f).1.2.2 else -1
def mT(n:Int):Nat->Int
 | 0 => -1
 | k+1=>if n=2^(9-k) then ((9-k:Nat):Int) else mT n k
def ax(n:Int):Int:=mT n 10
def ak(p:Int)(xs:List Int):Bool:=decide (∀ x∈xs,0<=x/\x<=p-1)
def aw(f:Int)(xs:List Int):Bool:=decide (ab f≠0)&&ak (ab f) xs
def aA(f:Int)(xs:List Int):Bool:=decide (0<=ax xs.length)&&decide (ax xs.length<=cE f)&&aw f xs
def b_(f:Int)(xs:List Int):Fd×Bool:=if aA f xs=true then ((al f).1,true) else ((0,0,0),false)
def ew:PC:={ ts:=[ah],rs:=[bm,.bool],pre:=fun _=>True,F:=fun x=>al x }
def cv:PC:={ ts:=[ah],rs:=[ah],pre:=fun _=>True,F:=fun x=>ab x }
def lj:PC:={ ts:=[ah],rs:=[ah],pre:=fun _=>True,F:=fun x=>cE x }
def m8:PC:={ ts:=[ah],rs:=[ah],pre:=fun _=>True,F:=fun x=>ax x }
def kA:PC:={ ts:=[ah],rs:=[ah],pre:=fun _=>True,F:=fun x=>ax x }
def cu:PC:={ ts:=[ah,ai],rs:=[.bool],pre:=fun _=>True,F:=fun x=>aw x.1 x.2 }
def ct:PC:={ ts:=[bm,ai],rs:=[.bool],pre:=fun _=>True,F:=fun x=>ak x.1.1 x.2 }
def gE:PC:={ ts:=[ah,ai],rs:=[.bool],pre:=fun _=>True,F:=fun x=>aA x.1 x.2 }
def fJ:PC:={ ts:=[ah,.sl ai],rs:=[bm,.bool],pre:=fun x=>x.2.length=1,F:=fun x=>b_ x.1 (x.2.getD 0 []) }
def wm(x:Int):Nat->Option bk:=fun
 | 6=>some (.mk Nat (fun t=>(t:Int)<=cE x) (fun st t=>(st.keep 4 []).aU [(4,si t),(5,si ((ab x-1)/2^t))]) (fun t=>(cE x).toNat-t) 0 (fun _ _=>none))
 | _=>none
def nv(n:Int)(k:Nat):Prop:=k<=10/\∀ j,j<k->n≠2^j
def CT(x:Int):Nat->Option bk:=fun
 | 2=>some (.mk Nat (fun k=>nv x k) (fun st k=>(st.keep 3 []).aU [(3,si k)]) (fun k=>10-k) 0 (fun _ _=>none))
 | _=>none
def CQ(x:Int):Nat->Option bk:=fun
 | 2=>some (.mk Nat (fun k=>nv x k) (fun st k=>(st.keep 3 []).aU [(4,si k)]) (fun k=>10-k) 0 (fun _ _=>none))
 | _=>none
def xP(p:Int)(xs:List Int)(k:Nat):Prop:=k<=xs.length/\ak p (xs.take k)=true
def qY(x:Int×List Int):Nat->Option bk:=fun
 | 5=>some (.mk Nat (fun k=>xP (ab x.1) x.2 k) (fun st k=>(st.keep 6 []).aU [(6,si k)]) (fun k=>x.2.length-k) 0 (fun _ _=>none))
 | _=>none
def qV(x:Fd×List Int):Nat->Option bk:=fun
 | 2=>some (.mk Nat (fun k=>xP x.1.1 x.2 k) (fun st k=>(st.keep 5 [7,8]).aU [(9,si k)]) (fun k=>x.2.length-k) 0 (fun _ _=>none))
 | _=>none
def qX(x:Int×List (List Int)):Nat->Option bk:=fun
 | 5=>some (.mk Nat (fun k=>k<=1/\(k=1->aA x.1 (x.2.getD 0 [])=true)) (fun st k=>(st.keep 8 [19,20]).aU [(21,si k)]) (fun k=>1-k) 0 (fun _ _=>none))
 | _=>none
end Go.SF
/- Contracts: lists of numbers. No condition. -/
namespace Go.SF
open Go.SX Go
set_option linter.unusedVariables false
def so:PC:={ ts:=[.sl ah,.sl ah],rs:=[.bool],pre:=fun _=>True,F:=fun x=>decide (x.1=x.2) }
def AO(x:List Int×List Int):=Kp (e:=ah) x 4 5 6
end Go.SF
/- Contracts: plans and turners. No condition. -/
namespace Go.SF
open Go.SX Go
set_option linter.unusedVariables false
def mP:PC:={ ts:=[ai],rs:=[ai],pre:=fun x=>x.length<=1048576,F:=fun x=>x }
def sq:PC:={ ts:=[ai,ah],rs:=[ah],pre:=fun _=>True,F:=fun x=>dV x.1.length x.2 }
def su:PC:={ ts:=[ai],rs:=[ai],pre:=fun x=>x.length<=1048576,F:=fun x=>x }
def AP(x:List Int):=Ir (e:=ah) x 3 4 3 5
def yc(x:List Int):Nat->Option bk:=fun
 | 3=>some (.mk Nat (fun k=>k<=x.length) (fun st k=>((st.keep 3 []).aU [(4,si k),(3,.c (.own 0))]).bE [(0,.row true ah (x.take k))]) (fun k=>x.length-k) 0 (fun _ _=>none))
 | _=>none
end Go.SF
/- Contracts: caches, as they are read. No condition. -/
namespace Go.SF
open Go.SX Go
set_option linter.unusedVariables false
abbrev Kd:Ty:=.int .u8
abbrev bG:Ty:=.sl Kd
abbrev gh:Ty:=.st (.pr (.int .i64) (.pr ai ai))
abbrev Rs:=Int×List Int×List Int
abbrev dK:Ty:=.st (.pr bG gh)
abbrev En:=List Int×Rs
abbrev cA:Ty:=.st (.pr (.int .i64) (.sl dK))
abbrev Ca:=Int×List En
instance C8:DecidableEq Rs:=inferInstance
instance NF:DecidableEq En := @instDecidableEqProd (List Int) Rs inferInstance C8
instance Kh:DecidableEq (List En) := @instDecidableEqList En NF
instance Rr:DecidableEq Ca := @instDecidableEqProd Int (List En) inferInstance Kh
def dL(a b:Rs):Bool := @decide (a=b) (C8 a b)
def r9(a b:En):Bool := @decide (a=b) (NF a b)
def n8(a b:List En):Bool := @decide (a=b) (Kh a b)
def r7(a b:Ca):Bool := @decide (a=b) (Rr a b)
def kc(r:Rs)(l:Int):Int:=if dV r.2.1.length l<0 then -1 else dV r.2.2.length (dV r.2.1.length l)
def gp(e:En)(l:Int):Int:=if dV e.1.length l<0 then -1 else kc e.2 (dV e.1.length l)
def eO:List En->Int->Int
 | [],l=>l
 | e::es,l=>if gp e l<0 then -1 else eO es (gp e l)
def fT(es:List En)(l:Int):Int:=if il (l-es.length)<0 then -1 else eO es (il (l-es.length))
def oB(c:Ca)(l:Int):Int:=if fT c.2 l<0 then -1 else fT c.2 l
def vT(r:Rs):Prop:=r.2.1.length<=1048576/\r.2.2.length<=1048576
def tU(e:En):Prop:=e.1.length<=1048576/\vT e.2
def dw(es:List En):Prop:=es.length<=1048576/\∀ e∈es,tU e
def n7(r:Rs):Nat:=1+r.2.1.length+r.2.2.length
def dE:List En->Nat
 | []=>0
 | e::es=>n7 e.2+dE es
def gW(es:List En)(k:Nat):Prop:=∀ i,i<k->(es.getD i ([],0,[],[])).1.length<=5000/\∀ j,j<i->(es.getD j ([],0,[],[])).1≠(es.getD i ([],0,[],[])).1
instance SK (es:List En) (k:Nat):Decidable (gW es k):=by unfold gW;infer_instance
def bV(c:Ca):Bool:=decide (0<=c.1/\c.1<=5000)&&decide (c.2.length<=30)&&decide (gW c.2 c.2.length)&&decide ((dE c.2:Int)<=c.1)
def dZ(key:List Int):List En->Int->Int
 | [],_ => -1
 | e::es,k=>if e.1=key then k else dZ key es (k+1)
def qC:PC:={ ts:=[bG,ah],rs:=[ah],pre:=fun _=>True,F:=fun x=>dV x.1.length x.2 }
def qF:PC:={ ts:=[bG],rs:=[bG],pre:=fun x=>x.length<=1048576,F:=fun x=>x }
def qz:PC:={ ts:=[bG,bG],rs:=[.bool],pre:=fun _=>True,F:=fun x=>decide (x.1=x.2) }
def pa:PC:={ ts:=[gh,ah],rs:=[ah],pre:=fun _=>True,F:=fun x=>kc x.1 x.2 }
def qE:PC:={ ts:=[dK,ah],rs:=[ah],pre:=fun _=>True,F:=fun x=>gp x.1 x.2 }
def o_:PC:={ ts:=[.sl dK,ah],rs:=[ah],pre:=fun _=>True,F:=fun x=>fT x.1 x.2 }
def qD:PC:={ ts:=[cA,ah],rs:=[ah],pre:=fun _=>True,F:=fun x=>oB x.1 x.2 }
def pd:PC:={ ts:=[gh],rs:=[gh],pre:=fun x=>vT x,F:=fun x=>x }
def qH:PC:={ ts:=[dK],rs:=[dK],pre:=fun x=>tU x,F:=fun x=>x }
def pb:PC:={ ts:=[.sl dK],rs:=[.sl dK],pre:=fun x=>dw x,F:=fun x=>x }
def qG:PC:={ ts:=[cA],rs:=[cA],pre:=fun x=>dw x.2,F:=fun x=>x }
def o9:PC:={ ts:=[gh,gh],rs:=[.bool],pre:=fun _=>True,F:=fun x=>dL x.1 x.2 }
def qB:PC:={ ts:=[dK,dK],rs:=[.bool],pre:=fun _=>True,F:=fun x=>r9 x.1 x.2 }
def o8:PC:={ ts:=[.sl dK,.sl dK],rs:=[.bool],pre:=fun _=>True,F:=fun x=>n8 x.1 x.2 }
def qA:PC:={ ts:=[cA,cA],rs:=[.bool],pre:=fun _=>True,F:=fun x=>r7 x.1 x.2 }
def mQ:PC:={ ts:=[bG,bG],rs:=[.bool],pre:=fun _=>True,F:=fun x=>decide (x.1=x.2) }
def me:PC:={ ts:=[bG,bG],rs:=[.bool],pre:=fun _=>True,F:=fun x=>decide (x.1=x.2) }
def nQ:PC:={ ts:=[gh],rs:=[ah],pre:=fun x=>vT x,F:=fun x=>((n7 x:Nat):Int) }
def qy:PC:={ ts:=[dK],rs:=[ah],pre:=fun x=>tU x,F:=fun x=>((n7 x.2:Nat):Int) }
def o7:PC:={ ts:=[cA],rs:=[ah],pre:=fun x=>dw x.2,F:=fun x=>((dE x.2:Nat):Int) }
def o4:PC:={ ts:=[dK,.ptr bG],rs:=[.bool],pre:=fun _=>True,F:=fun x=>decide (x.1.1=x.2) }
def kX(g:Nat):PC:={ ts:=[.sl dK,.bS g (.ptr bG)],rs:=[ah],pre:=fun _=>True,F:=fun x=>dZ x.2 x.1 0 }
def qv:PC:={ ts:=[.sl dK,bG],rs:=[ah],pre:=fun _=>True,F:=fun x=>dZ x.2 x.1 0 }
def qJ:PC:={ ts:=[cA],rs:=[.bool],pre:=fun x=>dw x.2,F:=fun x=>bV x }
def qw:PC:={ ts:=[cA],rs:=[.bool],pre:=fun x=>dw x.2,F:=fun x=>bV x }
def x9(x:List Int):=Ir (e:=Kd) x 3 4 3 5
def x8(x:List Int×List Int):=Kp (e:=Kd) x 4 5 6
def yd(x:List Int×List Int):=Kp (e:=Kd) x 4 5 5
def wc(x:List En):=Ir (e:=dK) x 3 4 3 5
def v9(x:List En×List En):=Kp (e:=dK) x 4 5 6
def v_(x:List En×Int):Nat->Option bk:=fun
 | 5=>some (.mk (Nat×Int) (fun k=>k.1<=x.1.length/\eO (x.1.drop k.1) k.2=eO x.1 (il (x.2-x.1.length))) (fun st k=>(st.keep 6 []).aU [(5,si k.1),(1,si k.2)]) (fun k=>x.1.length-k.1) (0,il (x.2-x.1.length)) (fun _ _=>none))
 | _=>none
def v8(x:Ca):Nat->Option bk:=fun
 | 3=>some (.mk Nat (fun k=>k<=x.2.length) (fun st k=>(st.keep 3 [7,8]).aU [(3,si (dE (x.2.take k))),(9,si k)]) (fun k=>x.2.length-k) 0 (fun _ _=>none))
 | _=>none
def qU(x:List En×List Int):Nat->Option bk:=fun
 | 2=>some (.mk Nat (fun k=>k<=x.1.length/\dZ x.2 (x.1.drop k) k=dZ x.2 x.1 0) (fun st k=>(st.keep 6 [7]).aU [(8,si k)]) (fun k=>x.1.length-k) 0 (fun _ _=>none))
 | _=>none
def ya(x:Ca):Nat->Option bk:=fun
 | 5=>some (.mk Nat (fun k=>k<=x.2.length/\gW x.2 k) (fun st k=>(st.keep 3 []).aU [(3,si (dE (x.2.take k))),(4,si k)]) (fun k=>x.2.length-k) 0 (fun i=>fun
   | 10=>some (.mk Nat (fun j=>j<=i/\∀ t,t<j->(x.2.getD t ([],0,[],[])).1≠(x.2.getD i ([],0,[],[])).1) (fun st j=>(st.keep 5 []).aU [(5,si j)]) (fun j=>i-j) 0 (fun _ _=>none))
   | _=>none))
 | _=>none
def xX(x:Ca):Nat->Option bk:=fun
 | 4=>some (.mk Nat (fun k=>k<=x.2.length/\gW x.2 k) (fun st k=>(st.keep 3 [27,28]).aU [(29,si k)]) (fun k=>x.2.length-k) 0 (fun _ _=>none))
 | _=>none
end Go.SF
/- Contracts: lines of tickets. No condition. -/
namespace Go.SF
open Go.SX Go
set_option linter.unusedVariables false
end Go.SF
/- Contracts: arithmetic modulo a number. No condition. -/
namespace Go.SF
open Go.SX Go
set_option linter.unusedVariables false
def c_(p a b:Int):Int:=(a+b)%p
def bd(p a b:Int):Int:=(a-b)%p
def mulM(p a b:Int):Int:=a*b%p
def bq(p a:Int)(e:Nat):Int:=a^e%p
def s4(p a:Int):Int:=a%p
def cR(f x:Int):Int:=if ab f=0 then -1 else x%ab f
def kO(f a b:Int):Int:=if ab f=0 then -1 else c_ (ab f) a b
def fA(f a b:Int):Int:=if ab f=0 then -1 else bd (ab f) a b
def b7(f a b:Int):Int:=if ab f=0 then -1 else mulM (ab f) a b
def lE(p a e:Int):Int:=if a%p=0 then (if e=0 then 1 else if e<0 then -1 else 0) else bq p a (e%(p-1)).toNat
def a_(f a e:Int):Int:=if ab f=0 then -1 else lE (ab f) a e
def an(p:Int):Prop:=17<=p/\p<=1004535809
def El(p x:Int):Prop:=0<=x/\x<p
def aR(p a:Int):Int:=bq p a (p-2).toNat
def js:PC:={ ts:=[ah,ah],rs:=[ah],pre:=fun _=>True,F:=fun x=>cR x.1 x.2 }
def vE:PC:={ ts:=[ah,ah,ah],rs:=[ah],pre:=fun _=>True,F:=fun x=>kO x.1 x.2.1 x.2.2 }
def oI:PC:={ ts:=[ah,ah,ah],rs:=[ah],pre:=fun _=>True,F:=fun x=>fA x.1 x.2.1 x.2.2 }
def kB:PC:={ ts:=[ah,ah,ah],rs:=[ah],pre:=fun _=>True,F:=fun x=>b7 x.1 x.2.1 x.2.2 }
def m9:PC:={ ts:=[ah,ah,ah],rs:=[ah],pre:=fun _=>True,F:=fun x=>a_ x.1 x.2.1 x.2.2 }
def iu:PC:={ ts:=[ah,ah],rs:=[ah],pre:=fun _=>True,F:=fun x=>a_ x.1 x.2 (-1) }
def oH:PC:={ ts:=[bm,ah,ah],rs:=[ah],pre:=fun x=>an x.1.1/\El x.1.1 x.2.1/\El x.1.1 x.2.2,F:=fun x=>c_ x.1.1 x.2.1 x.2.2 }
def ir:PC:={ ts:=[bm,ah,ah],rs:=[ah],pre:=fun x=>an x.1.1/\El x.1.1 x.2.1/\El x.1.1 x.2.2,F:=fun x=>bd x.1.1 x.2.1 x.2.2 }
def e_:PC:={ ts:=[bm,ah,ah],rs:=[ah],pre:=fun x=>an x.1.1/\El x.1.1 x.2.1/\El x.1.1 x.2.2,F:=fun x=>mulM x.1.1 x.2.1 x.2.2 }
def pR:PC:={ ts:=[bm,ah,ah],rs:=[ah],pre:=fun x=>an x.1.1/\El x.1.1 x.2.1/\0<=x.2.2,F:=fun x=>bq x.1.1 x.2.1 x.2.2.toNat }
def f_:PC:={ ts:=[bm,ah],rs:=[ah],pre:=fun x=>an x.1.1/\El x.1.1 x.2,F:=fun x=>aR x.1.1 x.2 }
def kf(p r:Int)(x:Int×Int×Nat):Prop:=El p x.1/\El p x.2.1/\x.2.1*x.1^x.2.2%p=r/\(x.2.2:Int)<=9223372036854775807
def CU(x:Int×Int×Int):Nat->Option bk:=fun
 | 100014=>some (.mk Unit (fun _=>True) (fun st _=>(st.keep 9 []).aU [(9,si (x.2.2%(ab x.1-1)).toNat)]) (fun _=>0) () (fun _=>fun
   | 15=>some (.mk (Int×Int×Nat) (fun t=>kf (ab x.1) (bq (ab x.1) x.2.1 (x.2.2%(ab x.1-1)).toNat) t) (fun st t=>(st.keep 8 []).aU [(8,si t.1),(9,si t.2.2),(10,si t.2.1)]) (fun t=>t.2.2) (x.2.1%ab x.1,1,(x.2.2%(ab x.1-1)).toNat) (fun _ _=>none))
   | _=>none))
 | _=>none
def CR(x:Fd×Int×Int):Nat->Option bk:=fun
 | 2=>some (.mk (Int×Int×Nat) (fun t=>kf x.1.1 (bq x.1.1 x.2.1 x.2.2.toNat) t) (fun st t=>(st.keep 8 []).aU [(1,si t.1),(2,si t.2.2),(7,si t.2.1)]) (fun t=>t.2.2) (x.2.1,1,x.2.2.toNat) (fun _ _=>none))
 | _=>none
end Go.SF
/- Contracts: points, and their weights. No condition. -/
namespace Go.SF
open Go.SX Go
set_option linter.unusedVariables false
def sF(l:List Int)(x:Int):Bool:=decide (x∈l)
def bn(f:Int)(xs:List Int):Bool:=decide (1<=xs.length)&&decide (xs.length<=40)&&aw f xs&&decide xs.Nodup
def fj(f:Int)(xs:List Int):Fd×Bool:=if bn f xs=true then ((al f).1,true) else ((0,0,0),false)
def eU(p:Int)(xs:List Int)(i:Nat):Nat->Int
 | 0=>1
 | n+1=>if n=i then eU p xs i n else mulM p (eU p xs i n) (bd p (xs.getD i 0) (xs.getD n 0))
def j8(p:Int)(xs:List Int)(i:Nat):Int:=aR p (eU p xs i xs.length)
def oa:PC:={ ts:=[ai,ah],rs:=[.bool],pre:=fun _=>True,F:=fun x=>sF x.1 x.2 }
def lh:PC:={ ts:=[ah,ai],rs:=[.bool],pre:=fun _=>True,F:=fun x=>bn x.1 x.2 }
def jr:PC:={ ts:=[ah,ai],rs:=[bm,.bool],pre:=fun _=>True,F:=fun x=>fj x.1 x.2 }
def sn:PC:={ ts:=[bm,ai,ah],rs:=[ah],pre:=fun x=>an x.1.1/\ak x.1.1 x.2.1=true/\0<=x.2.2/\x.2.2<x.2.1.length,F:=fun x=>j8 x.1.1 x.2.1 x.2.2.toNat }
def AT(x:List Int×Int):Nat->Option bk:=fun
 | 2=>some (.mk Nat (fun k=>k<=x.1.length/\x.2 ∉ x.1.take k) (fun st k=>(st.keep 5 []).aU [(5,si k)]) (fun k=>x.1.length-k) 0 (fun _ _=>none))
 | _=>none
def wk(x:Int×List Int):Nat->Option bk:=fun
 | 4=>some (.mk Nat (fun k=>k<=x.2.length/\(x.2.take k).Nodup) (fun st k=>(st.keep 5 []).aU [(5,si k)]) (fun k=>x.2.length-k) 0 (fun _ _=>none))
 | _=>none
def tx(x:Int×List Int):Nat->Option bk:=fun
 | 5=>some (.mk Nat (fun k=>k<=x.2.length/\(x.2.take k).Nodup) (fun st k=>(st.keep 8 [36,37]).aU [(38,si k)]) (fun k=>x.2.length-k) 0 (fun i=>fun
   | 8=>some (.mk Nat (fun j=>j<=i/\x.2.getD i 0 ∉ x.2.take j) (fun st j=>(st.keep 11 [36,37,38,45,46]).aU [(47,si j)]) (fun j=>i-j) 0 (fun _ _=>none))
   | _=>none))
 | _=>none
def AN(x:Fd×List Int×Int):Nat->Option bk:=fun
 | 3=>some (.mk Nat (fun j=>j<=x.2.1.length) (fun st j=>(st.keep 7 [10,11]).aU [(7,si (eU x.1.1 x.2.1 x.2.2.toNat j)),(12,si j)]) (fun j=>x.2.1.length-j) 0 (fun _ _=>none))
 | _=>none
end Go.SF
/- Contracts: polynomials as lists of coefficients. No condition. -/
namespace Go.SF
open Go.SX Go
set_option linter.unusedVariables false
def kh(l:List Int):Nat->Nat
 | 0=>0
 | n+1=>if l.getD n 0=0 then kh l n else n+1
def gA(l:List Int):Nat:=kh l l.length
def bz(l:List Int):List Int:=l.take (gA l)
def fB(l:List Int):Bool:=decide (gA l=l.length)
def aL(f:Int)(a:List Int):Bool:=decide (a.length<=400)&&aw f a&&fB a
def eg(l:List Int)(i:Int):Int:=if 0<=i then l.getD i.toNat 0 else 0
def dF(p:Int)(a b:List Int)(n:Nat):List Int:=(List.range n).map (fun i=>c_ p (a.getD i 0) (b.getD i 0))
def nw(p:Int)(a b:List Int):List Int:=bz (dF p a b (max a.length b.length))
def gO(p:Int)(a:List Int)(c:Int)(n:Nat):List Int:=(List.range n).map (fun i=>mulM p (a.getD i 0) c)
def ei(p:Int)(a:List Int)(c:Int):List Int:=bz (gO p a c a.length)
def dO(p:Int)(a b:List Int)(i:Nat):Nat->Int
 | 0=>0
 | j+1=>if i-j<b.length then (dO p a b i j+a.getD j 0*b.getD (i-j) 0)%p else dO p a b i j
def dH(p:Int)(a b:List Int)(n:Nat):List Int:=(List.range n).map (fun i=>dO p a b i (min (i+1) a.length))
def cY(p:Int)(a b:List Int):List Int:=if a.length=0\/b.length=0 then [] else bz (dH p a b (a.length+b.length-1))
def mH(f:Int)(a b:List Int):List Int:=if (aL f a&&aL f b)=true then nw (ab f) a b else []
def iy(f:Int)(a:List Int)(c:Int):List Int:=if aL f a=true then ei (ab f) a c else []
def fK:PC:={ ts:=[ai],rs:=[ai],pre:=fun x=>x.length<=1048576,F:=fun x=>bz x }
def eS:PC:={ ts:=[ah,ai],rs:=[.bool],pre:=fun _=>True,F:=fun x=>aL x.1 x.2 }
def ur:PC:={ ts:=[ai,ah],rs:=[ah],pre:=fun _=>True,F:=fun x=>eg x.1 x.2 }
def qI:PC:={ ts:=[ah,ai,ai],rs:=[ai],pre:=fun _=>True,F:=fun x=>mH x.1 x.2.1 x.2.2 }
def nM:PC:={ ts:=[ah,ai,ah],rs:=[ai],pre:=fun _=>True,F:=fun x=>iy x.1 x.2.1 x.2.2 }
def oc:PC:={ ts:=[ah,ai,ai],rs:=[ai],pre:=fun x=>aw x.1 x.2.1=true/\aw x.1 x.2.2=true/\x.2.1.length<=1000/\x.2.2.length<=1000,F:=fun x=>cY (ab x.1) x.2.1 x.2.2 }
def ga:CC:={ e:=ah,F:=fun l=>gA l }
def k8:PC:={ ts:=[ai,ah],rs:=[ah],pre:=fun x=>0<=x.2,F:=fun x=>eg x.1 x.2 }
def qt:PC:={ ts:=[bm,ai,ai],rs:=[ai],pre:=fun x=>an x.1.1/\ak x.1.1 x.2.1=true/\ak x.1.1 x.2.2=true/\x.2.1.length<=1000/\x.2.2.length<=1000,F:=fun x=>nw x.1.1 x.2.1 x.2.2 }
def nG:PC:={ ts:=[bm,ai,ah],rs:=[ai],pre:=fun x=>an x.1.1/\ak x.1.1 x.2.1=true/\El x.1.1 x.2.2/\x.2.1.length<=1000,F:=fun x=>ei x.1.1 x.2.1 x.2.2 }
def mN:PC:={ ts:=[bm,ai,ai],rs:=[ai],pre:=fun x=>an x.1.1/\ak x.1.1 x.2.1=true/\ak x.1.1 x.2.2=true/\x.2.1.length<=1000/\x.2.2.length<=1000,F:=fun x=>cY x.1.1 x.2.1 x.2.2 }
def lZ(l:List Int)(k:Nat):Prop:=k<=l.length/\kh l k=gA l
def AU(x:List Int):Nat->Option bk:=fun
 | 2=>some (.mk Nat (fun k=>lZ x k) (fun st k=>(st.keep 3 []).aU [(3,si k)]) (fun k=>k) x.length (fun _ _=>none))
 | _=>none
def x_(x:Int×List Int×List Int):Nat->Option bk:=fun
 | 5=>some (.mk Nat (fun k=>k<=max x.2.1.length x.2.2.length) (fun st k=>((st.keep 7 []).aU [(7,.c (.own 0)),(8,si k)]).bE [(0,.row true ah (dF (ab x.1) x.2.1 x.2.2 k))]) (fun k=>max x.2.1.length x.2.2.length-k) 0 (fun _ _=>none))
 | _=>none
def ud(x:Int×List Int×Int):Nat->Option bk:=fun
 | 5=>some (.mk Nat (fun k=>k<=x.2.1.length) (fun st k=>((st.keep 7 []).aU [(7,.c (.own 0)),(8,si k)]).bE [(0,.row true ah (gO (ab x.1) x.2.1 x.2.2 k))]) (fun k=>x.2.1.length-k) 0 (fun _ _=>none))
 | _=>none
def AV(x:Int×List Int×List Int):Nat->Option bk:=fun
 | 6=>some (.mk Nat (fun k=>k<=x.2.1.length+x.2.2.length-1) (fun st k=>((st.keep 8 []).aU [(8,.c (.own 0)),(9,si k)]).bE [(0,.row true ah (dH (ab x.1) x.2.1 x.2.2 k))]) (fun k=>x.2.1.length+x.2.2.length-1-k) 0 (fun i=>fun
   | 10=>some (.mk Nat (fun j=>j<=min (i+1) x.2.1.length) (fun st j=>(st.keep 10 []).aU [(10,si (dO (ab x.1) x.2.1 x.2.2 i j)),(11,si j)]) (fun j=>min (i+1) x.2.1.length-j) 0 (fun _ _=>none))
   | _=>none))
 | _=>none
def x6(x:List Int):Nat->Option bk:=fun
 | 1=>some (.mk Nat (fun k=>lZ x k) (fun st k=>(st.keep 3 []).aU [(0,.c (.pre 0 k))]) (fun k=>k) x.length (fun _ _=>none))
 | _=>none
def xU(x:Fd×List Int×List Int):Nat->Option bk:=fun
 | 3=>some (.mk Nat (fun k=>k<=max x.2.1.length x.2.2.length) (fun st k=>((st.keep 7 [14]).aU [(7,.c (.own 1)),(15,si k)]).bE [(1,.row true ah (dF x.1.1 x.2.1 x.2.2 k))]) (fun k=>max x.2.1.length x.2.2.length-k) 0 (fun _ _=>none))
 | _=>none
def t_(x:Fd×List Int×Int):Nat->Option bk:=fun
 | 3=>some (.mk Nat (fun k=>k<=x.2.1.length) (fun st k=>((st.keep 7 [11,12]).aU [(7,.c (.own 1)),(13,si k)]).bE [(1,.row true ah (gO x.1.1 x.2.1 x.2.2 k))]) (fun k=>x.2.1.length-k) 0 (fun _ _=>none))
 | _=>none
def dh(p:Int)(a b:List Int)(x y:Nat):List Int:=(List.range (a.length+b.length-1)).map (fun t=>if x<=t/\t<x+y then dO p a b t (x+1) else dO p a b t (min x (t+1)))
def xY(x:Fd×List Int×List Int):Nat->Option bk:=fun
 | 5=>some (.mk Nat (fun k=>k<=x.2.1.length) (fun st k=>((st.keep 8 [27,28]).aU [(7,.c (.own 1)),(29,si k)]).bE [(1,.row true ah (dh x.1.1 x.2.1 x.2.2 k 0))]) (fun k=>x.2.1.length-k) 0 (fun i=>fun
   | 8=>some (.mk Nat (fun j=>j<=x.2.2.length) (fun st j=>((st.keep 10 [27,28,29,34,35]).aU [(7,.c (.own 1)),(36,si j)]).bE [(1,.row true ah (dh x.1.1 x.2.1 x.2.2 i j))]) (fun j=>x.2.2.length-j) 0 (fun _ _=>none))
   | _=>none))
 | _=>none
end Go.SF
/- Contracts: crews of hands. No condition. -/
namespace Go.SF
open Go.SX Go
set_option linter.unusedVariables false
abbrev Hd:=Int×Int×Int
def uC:Hd:=(0,0,0)
end Go.SF
/- Contracts: ServedCost. No condition. -/
namespace Go.SF
open Go.SX Go
set_option linter.unusedVariables false
end Go.SF
/- Contracts: marks. No condition. -/
namespace Go.SF
open Go.SX Go
set_option linter.unusedVariables false
def n1(k:Int):Int:=il (k+1)
def n2(k:Int):Int:=il (il (k+1)+1)
def n3(k:Int):Int:=il (il (il (k+1)+1)+1)
def Hr(k:Int):Int:=k
def re(k:Int):Int×Int:=(k,il (k+1))
end Go.SF
/- Contracts: turners that are begun and done, and their marks. No condition. -/
namespace Go.SF
open Go.SX Go
set_option linter.unusedVariables false
def rev(x:Nat):Nat->Nat
 | 0=>0
 | j+1=>2*rev x j+x/2^j%2
def CD(v:List Int)(n:Nat):List Int:=(List.range n).map (fun i=>v.getD (rev i (ax v.length).toNat) 0)
def dA(v:List Int):List Int:=if 0<=ax v.length then CD v v.length else []
def oq(v:List Int)(n:Nat):List Int:=(List.range v.length).map (fun i=>if rev i (ax v.length).toNat<n then v.getD (rev i (ax v.length).toNat) 0 else 0)
def o6:PC:={ ts:=[ah,ah],rs:=[ah],pre:=fun x=>(0<=x.2/\x.2<=9)/\0<=x.1/\x.1<2^x.2.toNat,F:=fun x=>((rev x.1.toNat x.2.toNat:Nat):Int) }
def o5:PC:={ ts:=[ai],rs:=[ai],pre:=fun x=>0<=ax x.length,F:=fun x=>dA x }
def v5(x:List Int):Nat->Option bk:=fun
 | 4=>some (.mk Nat (fun k=>k<=x.length) (fun st k=>((st.keep 5 [13,14]).aU [(15,si k)]).bE [(0,.row true ah (oq x k))]) (fun k=>x.length-k) 0 (fun _ _=>none))
 | _=>none
def v7(x:Int×Int):Nat->Option bk:=fun
 | 3=>some (.mk Nat (fun j=>(j:Int)<=x.2) (fun st j=>(st.keep 5 [6]).aU [(0,si ((x.1.toNat/2^j:Nat):Int)),(5,si ((rev x.1.toNat j:Nat):Int)),(7,si j)]) (fun j=>x.2.toNat-j) 0 (fun _ _=>none))
 | _=>none
end Go.SF
/- Contracts: turners that go on. No condition. -/
namespace Go.SF
open Go.SX Go
set_option linter.unusedVariables false
def bj(f:Int):Int:=(al f).1.2.1
def bt(f k:Int):Int:=if ab f≠0/\0<=k/\k<=cE f then lE (ab f) (bj f) ((ab f-1)/2^k.toNat) else -1
def aO(d:Fd)(k:Int):Int:=bq d.1 d.2.1 ((d.1-1)/2^k.toNat).toNat
def qj(d:Fd)(l j:Nat):Int:=bq d.1 d.2.1 ((d.1-1).toNat/2^(l+1)*j)
def kQ(l t:Nat):Nat:=t/(2*2^l)*2^l+t%2^l
def mZ(d:Fd)(v:List Int)(l t:Nat):Int :=
 if t%(2*2^l)<2^l then c_ d.1 (v.getD t 0) (mulM d.1 (v.getD (t+2^l) 0) (qj d l (t%2^l)))
 else bd d.1 (v.getD (t-2^l) 0) (mulM d.1 (v.getD t 0) (qj d l (t%2^l)))
def u7(d:Fd)(v:List Int)(l lo B:Nat):List Int:=(List.range v.length).map (fun t=>if lo<=kQ l t/\kQ l t<B then mZ d v l t else v.getD t 0)
def nK:PC:={ ts:=[ah],rs:=[ah],pre:=fun _=>True,F:=fun x=>bj x }
def n_:PC:={ ts:=[ah,ah],rs:=[ah],pre:=fun _=>True,F:=fun x=>bt x.1 x.2 }
def xm:PC:={ ts:=[bm,ah],rs:=[ah],pre:=fun x=>an x.1.1/\El x.1.1 x.1.2.1/\0<=x.2/\x.2<=30,F:=fun x=>aO x.1 x.2 }
end Go.SF
/- Contracts: the transform. No condition. -/
namespace Go.SF
open Go.SX Go
set_option linter.unusedVariables false
def aS(f:Nat->Int):Nat->Int
 | 0=>0
 | n+1=>aS f n+f n
def kT(v:List Int)(w:Int)(i j:Nat):Int:=v.getD j 0*w^(i*j%v.length)
def ef(p:Int)(v:List Int)(w:Int)(i:Nat):Int:=aS (kT v w i) v.length%p
def aZ(p:Int)(v:List Int)(w:Int)(n:Nat):List Int:=(List.range n).map (fun i=>ef p v w i)
def jb(p w:Int)(n:Nat):List Int:=(List.range n).map (fun i=>w^i%p)
def iS(f:Int)(v:List Int):List Int:=if aA f v=true then aZ (ab f) v (bt f (ax v.length)) v.length else []
def n5(d:Fd)(u:List Int):Nat->Nat->Int
 | 0,t=>u.getD t 0
 | l+1,t =>
   if t%(2*2^l)<2^l then c_ d.1 (n5 d u l t) (mulM d.1 (n5 d u l (t+2^l)) (qj d l (t%2^l)))
   else bd d.1 (n5 d u l (t-2^l)) (mulM d.1 (n5 d u l t) (qj d l (t%2^l)))
def oe:PC:={ ts:=[ah,ai,ah],rs:=[ai],pre:=fun x=>aA x.1 x.2.1=true/\El (ab x.1) x.2.2,F:=fun x=>aZ (ab x.1) x.2.1 x.2.2 x.2.1.length }
def qK:PC:={ ts:=[ah,ai],rs:=[ai],pre:=fun _=>True,F:=fun x=>iS x.1 x.2 }
def Il(x:Int×List Int×Int)(i:Nat):Nat->Option bk:=fun
 | 16=>some (.mk Nat (fun j=>j<=x.2.1.length) (fun st j=>(st.keep 14 []).aU [(14,si (aS (kT x.2.1 x.2.2 i) j%ab x.1)),(15,si j)]) (fun j=>x.2.1.length-j) 0 (fun _ _=>none))
 | _=>none
def Ik(x:Int×List Int×Int):Nat->Option bk:=fun
 | 12=>some (.mk Nat (fun i=>i<=x.2.1.length) (fun st i=>((st.keep 10 []).aU [(12,.c (.own 1)),(13,si i)]).bE [(1,.row true ah (aZ (ab x.1) x.2.1 x.2.2 i))]) (fun i=>x.2.1.length-i) 0 (fun i=>Il x i))
 | _=>none
def AW(x:Int×List Int×Int):Nat->Option bk:=fun
 | 6=>some (.mk Nat (fun i=>i<=x.2.1.length) (fun st i=>((st.keep 9 []).aU [(9,.c (.own 0)),(10,si (x.2.2^i%ab x.1)),(11,si i)]).bE [(0,.row true ah (jb (ab x.1) x.2.2 i))]) (fun i=>x.2.1.length-i) 0 (fun _=>Ik x))
 | _=>none
end Go.SF
/- Contracts: transforms and products of vectors. No condition. -/
namespace Go.SF
open Go.SX Go
set_option linter.unusedVariables false
def oC(f:Int)(ls:List (List Int)):Bool:=decide (∀ v∈ls,aA f v=true/\v.length=(ls.getD 0 []).length)
def aE(f:Int)(ls:List (List Int)):Fd×Bool:=if oC f ls=true then ((al f).1,true) else ((0,0,0),false)
def c9(f:Int)(a b:List Int):Bool:=decide (a.length=b.length)&&aA f a&&aA f b
def zO(p w r:Int)(v:List Int)(k:Nat):Int:=mulM p (ef p v w ((v.length-k)%v.length)) r
def q8(p w r:Int)(v:List Int):List Int:=(List.range v.length).map (fun k=>zO p w r v k)
def fo(f:Int)(v:List Int):List Int:=if aA f v=true then q8 (ab f) (bt f (ax v.length)) (aR (ab f) v.length) v else []
def vz(p:Int)(a b:List Int)(k:Nat):Int:=aS (fun j=>a.getD j 0*b.getD ((k+a.length-j)%a.length) 0) a.length%p
def ig(p:Int)(a b:List Int):List Int:=(List.range a.length).map (fun i=>mulM p (a.getD i 0) (b.getD i 0))
def jM(f:Int)(a b:List Int):List Int:=if c9 f a b=true then (List.range a.length).map (fun k=>vz (ab f) a b k) else []
def gl(p:Int)(a b:List Int)(t:Nat):Nat->Int
 | 0=>0
 | x+1=>if x<=t then c_ p (gl p a b t x) (mulM p (a.getD x 0) (b.getD (t-x) 0)) else bd p (gl p a b t x) (mulM p (a.getD x 0) (b.getD (t+a.length-x) 0))
def gq(f:Int)(a b:List Int):List Int:=if c9 f a b=true then (List.range a.length).map (fun t=>gl (ab f) a b t a.length) else []
def cz(p:Int)(a b:List Int)(x y:Nat):List Int:=(List.range a.length).map (fun t=>if (t+a.length-x)%a.length<y then gl p a b t (x+1) else gl p a b t x)
def lV(d:Fd)(v:List Int)(l B:Nat):List Int:=(List.range v.length).map (fun t=>if kQ l t<B then mZ d v l t else 0)
def eJ(d:Fd)(u:List Int)(l:Nat):List Int:=(List.range u.length).map (fun t=>n5 d u l t)
def ui(p w r:Int)(v:List Int)(i:Nat):List Int:=(List.range v.length).map (fun t=>if (v.length-t)%v.length<i then zO p w r v t else 0)
def pe:PC:={ ts:=[ah,ai],rs:=[ai],pre:=fun _=>True,F:=fun x=>fo x.1 x.2 }
def ll:PC:={ ts:=[ah,ai,ai],rs:=[.bool],pre:=fun _=>True,F:=fun x=>c9 x.1 x.2.1 x.2.2 }
def sv:PC:={ ts:=[ah,ai,ai],rs:=[ai],pre:=fun _=>True,F:=fun x=>jM x.1 x.2.1 x.2.2 }
def qM:PC:={ ts:=[ah,ai,ai],rs:=[ai],pre:=fun _=>True,F:=fun x=>gq x.1 x.2.1 x.2.2 }
def fc:PC:={ ts:=[ah,.sl ai],rs:=[bm,.bool],pre:=fun x=>x.2.length=2,F:=fun x=>aE x.1 x.2 }
def kg(d:Fd)(v:List Int):Prop:=∃ f,aA f v=true/\d=(al f).1
def uo:PC:={ ts:=[bm,ai,ah],rs:=[ai],pre:=fun x=>kg x.1 x.2.1/\0<=x.2.2/\x.2.2<=ax x.2.1.length-1,F:=fun x=>u7 x.1 x.2.1 x.2.2.toNat 0 (x.2.1.length/2) }
def jS:PC:={ ts:=[bm,ai],rs:=[ai],pre:=fun x=>kg x.1 x.2,F:=fun x=>aZ x.1.1 x.2 (aO x.1 (ax x.2.length)) x.2.length }
def kZ:PC:={ ts:=[bm,ai],rs:=[ai],pre:=fun x=>kg x.1 x.2,F:=fun x=>q8 x.1.1 (aO x.1 (ax x.2.length)) (aR x.1.1 x.2.length) x.2 }
def nE:PC:={ ts:=[bm,ai,ai],rs:=[ai],pre:=fun x=>an x.1.1/\ak x.1.1 x.2.1=true/\ak x.1.1 x.2.2=true/\x.2.1.length=x.2.2.length/\x.2.1.length<=1048576,F:=fun x=>ig x.1.1 x.2.1 x.2.2 }
def qx:PC:={ ts:=[bm,ai,ai],rs:=[ai],pre:=fun x=>an x.1.1/\ak x.1.1 x.2.1=true/\ak x.1.1 x.2.2=true/\x.2.1.length=x.2.2.length/\x.2.1.length<=512,F:=fun x=>(List.range x.2.1.length).map (fun t=>gl x.1.1 x.2.1 x.2.2 t x.2.1.length) }
def oY:PC:={ ts:=[ah,ai],rs:=[.bool],pre:=fun _=>True,F:=fun x=>aA x.1 x.2 }
def qo:PC:={ ts:=[ah,ai],rs:=[ai],pre:=fun _=>True,F:=fun x=>iS x.1 x.2 }
def oW:PC:={ ts:=[ah,ai],rs:=[ai],pre:=fun _=>True,F:=fun x=>fo x.1 x.2 }
def sd:PC:={ ts:=[ah,ai,ai],rs:=[ai],pre:=fun _=>True,F:=fun x=>jM x.1 x.2.1 x.2.2 }
def qq:PC:={ ts:=[ah,ai,ai],rs:=[ai],pre:=fun _=>True,F:=fun x=>gq x.1 x.2.1 x.2.2 }
def wu(p wi r:Int)(v:List Int)(n:Nat):List Int:=(List.range n).map (fun k=>mulM p (ef p v wi k) r)
def we(x:Int×List Int):Nat->Option bk:=fun
 | 7=>some (.mk Nat (fun i=>i<=x.2.length) (fun st i=>((st.keep 8 []).aU [(5,.c (.own 0)),(8,si i)]).bE [(0,.row true ah (wu (ab x.1) (a_ x.1 (bt x.1 (ax x.2.length)) (-1)) (a_ x.1 x.2.length (-1)) x.2 i))]) (fun i=>x.2.length-i) 0 (fun _ _=>none))
 | _=>none
def oU(p:Int)(a b:List Int)(n:Nat):List Int:=(List.range n).map (fun k=>vz p a b k)
def Ij(x:Int×List Int×List Int)(i:Nat):Nat->Option bk:=fun
 | 11=>some (.mk Nat (fun j=>j<=x.2.1.length) (fun st j=>(st.keep 11 []).aU [(11,si (aS (fun j=>x.2.1.getD j 0*x.2.2.getD ((i+x.2.1.length-j)%x.2.1.length) 0) j%ab x.1)),(12,si j)]) (fun j=>x.2.1.length-j) 0 (fun _ _=>none))
 | _=>none
def AQ(x:Int×List Int×List Int):Nat->Option bk:=fun
 | 7=>some (.mk Nat (fun i=>i<=x.2.1.length) (fun st i=>((st.keep 10 []).aU [(7,.c (.own 0)),(10,si i)]).bE [(0,.row true ah (oU (ab x.1) x.2.1 x.2.2 i))]) (fun i=>x.2.1.length-i) 0 (fun i=>Ij x i))
 | _=>none
def tT(p:Int)(a b:List Int)(n:Nat):List Int:=(List.range n).map (fun t=>gl p a b t a.length)
def FT(x:Int×List Int×List Int)(i:Nat):Nat->Option bk:=fun
 | 11=>some (.mk Nat (fun j=>j<=x.2.1.length) (fun st j=>(st.keep 11 []).aU [(11,si (gl (ab x.1) x.2.1 x.2.2 i j)),(12,si j)]) (fun j=>x.2.1.length-j) 0 (fun _ _=>none))
 | _=>none
def yb(x:Int×List Int×List Int):Nat->Option bk:=fun
 | 7=>some (.mk Nat (fun i=>i<=x.2.1.length) (fun st i=>((st.keep 10 []).aU [(7,.c (.own 0)),(10,si i)]).bE [(0,.row true ah (tT (ab x.1) x.2.1 x.2.2 i))]) (fun i=>x.2.1.length-i) 0 (fun i=>FT x i))
 | _=>none
def Ii(f:Int)(ls:List (List Int))(k:Nat):Prop:=∀ i,i<k->aA f (ls.getD i [])=true/\(ls.getD i []).length=(ls.getD 0 []).length
def pK(x:Int×List (List Int)):Nat->Option bk:=fun
 | 5=>some (.mk Nat (fun k=>k<=x.2.length/\Ii x.1 x.2 k) (fun st k=>(st.keep 8 [19,20]).aU [(21,si k)]) (fun k=>x.2.length-k) 0 (fun _ _=>none))
 | _=>none
def J6(x:Fd×List Int×Int)(c:Nat):Nat->Option bk:=fun
 | 9=>some (.mk Nat (fun j=>j<=2^x.2.2.toNat) (fun st j=>((st.keep 11 [31,32]).aU [(7,.c (.own 1)),(11,si (bq x.1.1 (aO x.1 (x.2.2+1)) j)),(33,si j)]).bE [(1,.row true ah (lV x.1 x.2.1 x.2.2.toNat (c*2^x.2.2.toNat+j)))]) (fun j=>2^x.2.2.toNat-j) 0 (fun _ _=>none))
 | _=>none
def CS(x:Fd×List Int×Int):Nat->Option bk:=fun
 | 5=>some (.mk Nat (fun c=>c*(2*2^x.2.2.toNat)<=x.2.1.length) (fun st c=>((st.keep 10 []).aU [(7,.c (.own 1)),(10,si ((c*(2*2^x.2.2.toNat):Nat):Int))]).bE [(1,.row true ah (lV x.1 x.2.1 x.2.2.toNat (c*2^x.2.2.toNat)))]) (fun c=>x.2.1.length-c) 0 (fun c=>J6 x c))
 | _=>none
def xW(x:Fd×List Int):Nat->Option bk:=fun
 | 3=>some (.mk Nat (fun s=>(s:Int)<=ax x.2.length) (fun st s=>((st.keep 5 [11]).aU [(5,.c (.own 1)),(12,si s)]).bE [(1,.row true ah (eJ x.1 (dA x.2) s))]) (fun s=>(ax x.2.length).toNat-s) 0 (fun _ _=>none))
 | _=>none
def vY(x:Fd×List Int):Nat->Option bk:=fun
 | 5=>some (.mk Nat (fun i=>i<=x.2.length) (fun st i=>((st.keep 8 [22,23]).aU [(7,.c (.own 1)),(24,si i)]).bE [(1,.row true ah (ui x.1.1 (aO x.1 (ax x.2.length)) (aR x.1.1 (s4 x.1.1 x.2.length)) x.2 i))]) (fun i=>x.2.length-i) 0 (fun _ _=>none))
 | _=>none
def Bu(p:Int)(a b:List Int)(n:Nat):List Int:=(List.range n).map (fun i=>mulM p (a.getD i 0) (b.getD i 0))
def tY(x:Fd×List Int×List Int):Nat->Option bk:=fun
 | 3=>some (.mk Nat (fun i=>i<=x.2.1.length) (fun st i=>((st.keep 7 [11,12]).aU [(7,.c (.own 1)),(13,si i)]).bE [(1,.row true ah (Bu x.1.1 x.2.1 x.2.2 i))]) (fun i=>x.2.1.length-i) 0 (fun _ _=>none))
 | _=>none
def x7(x:Fd×List Int×List Int):Nat->Option bk:=fun
 | 4=>some (.mk Nat (fun i=>i<=x.2.1.length) (fun st i=>((st.keep 9 [18,19]).aU [(8,.c (.own 1)),(20,si i)]).bE [(1,.row true ah (cz x.1.1 x.2.1 x.2.2 i 0))]) (fun i=>x.2.1.length-i) 0 (fun i=>fun
   | 7=>some (.mk Nat (fun j=>j<=x.2.2.length) (fun st j=>((st.keep 11 [18,19,20,25,26]).aU [(8,.c (.own 1)),(27,si j)]).bE [(1,.row true ah (cz x.1.1 x.2.1 x.2.2 i j))]) (fun j=>x.2.2.length-j) 0 (fun _ _=>none))
   | _=>none))
 | _=>none
end Go.SF
/- Contracts: polynomials through points, and their values. No condition. -/
namespace Go.SF
open Go.SX Go
set_option linter.unusedVariables false
def di(p:Int)(xs:List Int):Nat->List Int
 | 0=>[1]
 | n+1=>cY p (di p xs n) [bd p 0 (xs.getD n 0),1]
def cp(p:Int)(xs:List Int):List Int:=di p xs xs.length
def cI(xs:List Int)(i:Nat):Nat->List Int
 | 0=>[]
 | n+1=>if n=i then cI xs i n else cI xs i n++[xs.getD n 0]
def dy(p:Int)(xs ys:List Int):Nat->List Int
 | 0=>[]
 | n+1=>nw p (dy p xs ys n) (ei p (cp p (cI xs n xs.length)) (mulM p (ys.getD n 0) (j8 p xs n)))
def eu(p:Int)(xs ys:List Int):List Int:=dy p xs ys xs.length
def ij(p r:Int)(a:List Int):Nat->Int
 | 0=>0
 | k+1=>bd p (a.getD (a.length-1-k) 0) (mulM p (ij p r a k) r)
def EW(p r:Int)(a:List Int):List Int:=(List.range (a.length-1)).map (fun i=>ij p r a (a.length-1-i))
def mc(p:Int)(a b:List Int):List Int×List Int:=(EW p (b.getD 0 0) a,bz [ij p (b.getD 0 0) a a.length])
def b5(f:Int)(xs ys:List Int):List Int×Bool:=if (bn f xs&&decide (ys.length=xs.length)&&aw f ys)=true then (eu (ab f) xs ys,true) else ([],false)
def m6(p:Int)(a:List Int)(x:Int):Nat->Int
 | 0=>0
 | n+1=>c_ p (m6 p a x n) (mulM p (a.getD n 0) (bq p x n))
def m7(p:Int)(a:List Int)(x:Int):Int:=m6 p a x a.length
def pP(f:Int)(a:List Int)(x:Int):Int:=if aL f a=true then m7 (ab f) a x else -1
def nP:PC:={ ts:=[ah,ai],rs:=[ai],pre:=fun x=>aw x.1 x.2=true/\x.2.length<=40,F:=fun x=>cp (ab x.1) x.2 }
def sm:PC:={ ts:=[bm,ai],rs:=[ai],pre:=fun x=>an x.1.1/\ak x.1.1 x.2=true/\x.2.length<=40,F:=fun x=>cp x.1.1 x.2 }
def Mq(p:Int)(b:List Int):Prop:=b.length=2/\b.getD 1 0=1/\El p (b.getD 0 0)
def sj:PC:={ ts:=[bm,ai,ai],rs:=[ai,ai],pre:=fun x=>an x.1.1/\ak x.1.1 x.2.1=true/\2<=x.2.1.length/\x.2.1.length<=1000/\Mq x.1.1 x.2.2,F:=fun x=>mc x.1.1 x.2.1 x.2.2 }
def ju:PC:={ ts:=[ah,ai,ai],rs:=[ai],pre:=fun x=>bn x.1 x.2.1=true/\x.2.2.length=x.2.1.length,F:=fun x=>eu (ab x.1) x.2.1 x.2.2 }
def mO:PC:={ ts:=[bm,ai,ai],rs:=[ai],pre:=fun x=>(∃ f,bn f x.2.1=true/\ab f=x.1.1)/\ak x.1.1 x.2.2=true/\x.2.2.length=x.2.1.length,F:=fun x=>eu x.1.1 x.2.1 x.2.2 }
def lg:PC:={ ts:=[ah,ai,ai],rs:=[ai,.bool],pre:=fun _=>True,F:=fun x=>b5 x.1 x.2.1 x.2.2 }
def la:PC:={ ts:=[ah,ai,ai],rs:=[ai,.bool],pre:=fun _=>True,F:=fun x=>b5 x.1 x.2.1 x.2.2 }
def kY:PC:={ ts:=[ah,ai,ai],rs:=[ai,.bool],pre:=fun _=>True,F:=fun x=>b5 x.1 x.2.1 x.2.2 }
def lf:PC:={ ts:=[ah,ai,ah],rs:=[ah],pre:=fun _=>True,F:=fun x=>pP x.1 x.2.1 x.2.2 }
def xl:PC:={ ts:=[bm,ai,ah],rs:=[ah],pre:=fun x=>an x.1.1/\ak x.1.1 x.2.1=true/\El x.1.1 x.2.2,F:=fun x=>m7 x.1.1 x.2.1 x.2.2 }
def ug(x:Int×List Int):Nat->Option bk:=fun
 | 3=>some (.mk Nat (fun k=>k<=x.2.length) (fun st k=>((st.keep 5 []).aU [(5,.c (.own 0)),(6,si k)]).bE [(0,.row true ah (di (ab x.1) x.2 k))]) (fun k=>x.2.length-k) 0 (fun _ _=>none))
 | _=>none
def AM(x:Fd×List Int):Nat->Option bk:=fun
 | 3=>some (.mk Nat (fun k=>k<=x.2.length) (fun st k=>((st.keep 5 [9,10]).aU [(5,.c (.own 1)),(11,si k)]).bE [(1,.row true ah (di x.1.1 x.2 k))]) (fun k=>x.2.length-k) 0 (fun _ _=>none))
 | _=>none
def bR(p r:Int)(a:List Int)(k:Nat):List Int:=(List.range a.length).map (fun t=>if t+k<a.length-1 then a.getD t 0 else if t+k=a.length-1 then ij p r a (k+1) else 0)
def iJ(p r:Int)(a:List Int)(k j:Nat):List Int:=if j=0 then bR p r a k else if j=1 then (bR p r a k).set (a.length-2-k) (ij p r a (k+2)) else bR p r a (k+1)
def iE(p r:Int)(a:List Int)(k:Nat):List Int:=(List.range (a.length-1)).map (fun t=>if a.length-1<=t+k then ij p r a (a.length-1-t) else 0)
def AL(x:Fd×List Int×List Int):Nat->Option bk:=fun
 | 7=>some (.mk Nat (fun k=>k<=x.2.1.length-1) (fun st k=>((st.keep 11 []).aU [(11,si ((x.2.1.length:Int)-2-k))]).bE [(1,.row true ah (bR x.1.1 (x.2.2.getD 0 0) x.2.1 k)),(2,.row true ah (iE x.1.1 (x.2.2.getD 0 0) x.2.1 k))]) (fun k=>x.2.1.length-1-k) 0 (fun k=>fun
   | 13=>some (.mk Nat (fun j=>j<=2) (fun st j=>((st.keep 13 [63,64]).aU [(65,si j)]).bE [(1,.row true ah (iJ x.1.1 (x.2.2.getD 0 0) x.2.1 k j)),(2,.row true ah (iE x.1.1 (x.2.2.getD 0 0) x.2.1 (k+1)))]) (fun j=>2-j) 0 (fun _ _=>none))
   | _=>none))
 | _=>none
def tE(x:Int×List Int×List Int):Nat->Option bk:=fun
 | 3=>some (.mk Nat (fun k=>k<=x.2.1.length) (fun st k=>((st.keep 7 []).aU [(7,.c (.own 0)),(8,si k)]).bE [(0,.row true ah (dy (ab x.1) x.2.1 x.2.2 k))]) (fun k=>x.2.1.length-k) 0 (fun i=>fun
   | 8=>some (.mk Nat (fun j=>j<=x.2.1.length) (fun st j=>((st.keep 9 []).aU [(9,.c (.own 1)),(10,si (eU (ab x.1) x.2.1 i j)),(11,si j)]).bE [(1,.row true ah (cI x.2.1 i j))]) (fun j=>x.2.1.length-j) 0 (fun _ _=>none))
   | _=>none))
 | _=>none
def xZ(x:Fd×List Int×List Int):Nat->Option bk:=fun
 | 4=>some (.mk Nat (fun k=>k<=x.2.1.length) (fun st k=>((st.keep 8 [17,18]).aU [(8,.c (.own 2)),(19,si k)]).bE [(2,.row true ah (dy x.1.1 x.2.1 x.2.2 k))]) (fun k=>x.2.1.length-k) 0 (fun _ _=>none))
 | _=>none
def wj(x:Int×List Int×Int):Nat->Option bk:=fun
 | 5=>some (.mk Nat (fun k=>k<=x.2.1.length) (fun st k=>(st.keep 7 []).aU [(7,si (m6 (ab x.1) x.2.1 x.2.2 k)),(8,si k)]) (fun k=>x.2.1.length-k) 0 (fun _ _=>none))
 | _=>none
def rX(p:Int)(a:List Int)(x:Int)(t:Nat×Int):Prop:=t.1<=a.length/\El p t.2/\(t.2*x^t.1+m6 p a x t.1)%p=m7 p a x
def G9(x:Fd×List Int×Int):Nat->Option bk:=fun
 | 3=>some (.mk (Nat×Int) (fun t=>rX x.1.1 x.2.1 x.2.2 t) (fun st t=>(st.keep 7 []).aU [(7,si t.2),(8,si ((t.1:Int)-1))]) (fun t=>t.1) (x.2.1.length,0) (fun _ _=>none))
 | _=>none
end Go.SF
/- Contracts: words of a code, and what they are read as. No condition. -/
namespace Go.SF
open Go.SX Go
set_option linter.unusedVariables false
def dG(f:Int)(xs:List Int)(k:Int):Bool:=decide (xs.length<=10)&&bn f xs&&decide (1<=k/\k<=xs.length)
def ba(f:Int)(xs:List Int)(k:Int):Fd×Bool:=if dG f xs k=true then ((al f).1,true) else ((0,0,0),false)
def dC(p:Int)(a xs:List Int)(n:Nat):List Int:=(List.range n).map (fun i=>m7 p a (xs.getD i 0))
def ki(f:Int)(xs m:List Int):List Int:=if (dG f xs m.length&&aw f m)=true then dC (ab f) (bz m) xs xs.length else []
def cC(a b:List Int):Nat->Nat
 | 0=>0
 | n+1=>if n<a.length/\n<b.length/\a.getD n 0=b.getD n 0 then cC a b n else cC a b n+1
def kU(a b:List Int):Int:=(cC a b (max a.length b.length):Nat)
def mb(a b:List Int):Int:=if 4096<a.length\/4096<b.length then -1 else kU a b
def aT(l:List Int)(s:Nat):Nat->List Int
 | 0=>[]
 | n+1=>if s/2^n%2=1 then aT l s n++[l.getD n 0] else aT l s n
def cD(p:Int)(xs ys:List Int)(s:Nat):List Int:=eu p (aT xs s xs.length) (aT ys s xs.length)
def r_(p:Int)(xs ys:List Int)(s:Nat):Nat:=cC (dC p (cD p xs ys s) xs xs.length) ys xs.length
def Q2(m:List Int)(k:Nat):List Int:=m++List.replicate (k-m.length) 0
def kl(p:Int)(xs ys:List Int)(k s:Nat):Bool:=decide ((aT xs s xs.length).length=k)&&decide (r_ p xs ys s<=(xs.length-k)/2)
def findF(h:Nat->Bool):Nat->Option Nat
 | 0=>none
 | n+1=>match findF h n with|some s=>some s|none=>if h n=true then some n else none
def PM(p:Int)(xs ys:List Int)(k:Nat):Option Nat->List Int×Int×Bool
 | some s=>(Q2 (cD p xs ys s) k,((r_ p xs ys s:Nat):Int),true)
 | none=>([],0,false)
def cM(f:Int)(xs ys:List Int)(k:Int):List Int×Int×Bool:=if (dG f xs k&&decide (ys.length=xs.length)&&aw f ys)=true then PM (ab f) xs ys k.toNat (findF (kl (ab f) xs ys k.toNat) (2^xs.length)) else ([],0,false)
abbrev NG:List Ty:=[ai,ah,.bool]
def mR:PC:={ ts:=[ah,ai,ah],rs:=[.bool],pre:=fun _=>True,F:=fun x=>dG x.1 x.2.1 x.2.2 }
def nD:PC:={ ts:=[ah,ai,ah],rs:=[bm,.bool],pre:=fun _=>True,F:=fun x=>ba x.1 x.2.1 x.2.2 }
def mj:PC:={ ts:=[ah,ai,ai],rs:=[ai],pre:=fun _=>True,F:=fun x=>ki x.1 x.2.1 x.2.2 }
def sw:PC:={ ts:=[ai,ai],rs:=[ah],pre:=fun _=>True,F:=fun x=>mb x.1 x.2 }
def sh:PC:={ ts:=[ai,ai],rs:=[ah],pre:=fun x=>x.1.length<=1048576/\x.2.length<=1048576,F:=fun x=>kU x.1 x.2 }
def k_:PC:={ ts:=[bm,ai,ai],rs:=[ai],pre:=fun x=>an x.1.1/\ak x.1.1 x.2.1=true/\ak x.1.1 x.2.2=true/\x.2.2.length<=1000,F:=fun x=>dC x.1.1 x.2.1 x.2.2 x.2.2.length }
def mi:PC:={ ts:=[ah,ai,ai,ah],rs:=NG,pre:=fun _=>True,F:=fun x=>cM x.1 x.2.1 x.2.2.1 x.2.2.2 }
def mf:PC:={ ts:=[ah,ai,ai,ah],rs:=NG,pre:=fun _=>True,F:=fun x=>cM x.1 x.2.1 x.2.2.1 x.2.2.2 }
def tC(x:Int×List Int×List Int):Nat->Option bk:=fun
 | 5=>some (.mk Nat (fun k=>k<=x.2.1.length) (fun st k=>((st.keep 7 []).aU [(7,.c (.own 0)),(8,si k)]).bE [(0,.row true ah (dC (ab x.1) (bz x.2.2) x.2.1 k))]) (fun k=>x.2.1.length-k) 0 (fun _ _=>none))
 | _=>none
def AR(x:List Int×List Int):Nat->Option bk:=fun
 | 5=>some (.mk Nat (fun k=>k<=max x.1.length x.2.length) (fun st k=>(st.keep 5 []).aU [(5,si (cC x.1 x.2 k)),(6,si k)]) (fun k=>max x.1.length x.2.length-k) 0 (fun _ _=>none))
 | _=>none
def AK(x:List Int×List Int):Nat->Option bk:=fun
 | 3=>some (.mk Nat (fun k=>k<=min x.1.length x.2.length) (fun st k=>(st.keep 5 [22]).aU [(5,si ((max x.1.length x.2.length-min x.1.length x.2.length+cC x.1 x.2 k:Nat):Int)),(23,si k)]) (fun k=>min x.1.length x.2.length-k) 0 (fun _ _=>none))
 | _=>none
def vZ(x:Fd×List Int×List Int):Nat->Option bk:=fun
 | 3=>some (.mk Nat (fun k=>k<=x.2.2.length) (fun st k=>((st.keep 7 [11,12]).aU [(7,.c (.own 1)),(13,si k)]).bE [(1,.row true ah (dC x.1.1 x.2.1 x.2.2 k))]) (fun k=>x.2.2.length-k) 0 (fun _ _=>none))
 | _=>none
def jK(p:Int)(xs ys:List Int)(k s:Nat):Prop:=s<=2^xs.length/\∀ t,t<s->kl p xs ys k t=false
def Pz(x:Int×List Int×List Int×Int)(s:Nat):Nat->Option bk:=fun
 | 17=>some (.mk Nat (fun j=>(cD (ab x.1) x.2.1 x.2.2.1 s).length+j<=x.2.2.2.toNat) (fun st j=>((st.keep 16 []).aU [(16,.c (.own 2))]).bE [(2,.row true ah (cD (ab x.1) x.2.1 x.2.2.1 s++List.replicate j 0))]) (fun j=>x.2.2.2.toNat-j) 0 (fun _ _=>none))
 | _=>none
def tB(x:Int×List Int×List Int×Int):Nat->Option bk:=fun
 | 5=>some (.mk Nat (fun s=>jK (ab x.1) x.2.1 x.2.2.1 x.2.2.2.toNat s) (fun st s=>(st.keep 12 []).aU [(12,si s)]) (fun s=>2^x.2.1.length-s) 0 (fun s=>fun
   | 10=>some (.mk Nat (fun i=>i<=x.2.1.length) (fun st i=>((st.keep 13 []).aU [(13,.c (.own 0)),(14,.c (.own 1)),(15,si i)]).bE [(0,.row true ah (aT x.2.1 s i)),(1,.row true ah (aT x.2.2.1 s i))]) (fun i=>x.2.1.length-i) 0 (fun _=>Pz x s))
   | _=>none))
 | _=>none
def Py(x:Int×List Int×List Int×Int)(s:Nat):Nat->Option bk:=fun
 | 19=>some (.mk Nat (fun j=>(cD (ab x.1) x.2.1 x.2.2.1 s).length+j<=x.2.2.2.toNat) (fun st j=>((st.keep 18 [19,44,45]).aU [(18,.c (.own 3))]).bE [(3,.row true ah (cD (ab x.1) x.2.1 x.2.2.1 s++List.replicate j 0))]) (fun j=>x.2.2.2.toNat-j) 0 (fun _ _=>none))
 | _=>none
def tw(x:Int×List Int×List Int×Int):Nat->Option bk:=fun
 | 5=>some (.mk Nat (fun s=>jK (ab x.1) x.2.1 x.2.2.1 x.2.2.2.toNat s) (fun st s=>(st.keep 13 [44]).aU [(45,si s)]) (fun s=>2^x.2.1.length-s) 0 (fun s=>fun
   | 9=>some (.mk Nat (fun i=>i<=x.2.1.length) (fun st i=>((st.keep 14 [44,45,50,51]).aU [(14,.c (.own 1)),(15,.c (.own 2)),(52,si i)]).bE [(1,.row true ah (aT x.2.1 s i)),(2,.row true ah (aT x.2.2.1 s i))]) (fun i=>x.2.1.length-i) 0 (fun _=>Py x s))
   | _=>none))
 | _=>none
end Go.SF
/- Contracts: draws. No condition. -/
namespace Go.SF
open Go.SX Go
set_option linter.unusedVariables false
end Go.SF
/- Contracts: a law's code. No condition. -/
namespace Go.SF
open Go.SX Go
set_option linter.unusedVariables false
end Go.SF
/- Contracts: what the laws of codes call. No condition. -/
namespace Go.SF
open Go.SX Go
set_option linter.unusedVariables false
def c6(f:Int)(a:List Int):Fd×Bool:=if aL f a=true then ((al f).1,true) else ((0,0,0),false)
def iR(f:Int)(a xs:List Int):List Int:=if (aL f a&&decide (xs.length<=40)&&aw f xs)=true then dC (ab f) a xs xs.length else []
def nF:PC:={ ts:=[ah,.sl ai],rs:=[bm,.bool],pre:=fun x=>x.2.length=1,F:=fun x=>c6 x.1 (x.2.getD 0 []) }
def oX:PC:={ ts:=[ah,ai,ai],rs:=[ai],pre:=fun _=>True,F:=fun x=>iR x.1 x.2.1 x.2.2 }
def tZ(x:Int×List (List Int)):Nat->Option bk:=fun
 | 5=>some (.mk Nat (fun k=>k<=1/\(k=1->aL x.1 (x.2.getD 0 [])=true)) (fun st k=>(st.keep 8 [18,19]).aU [(20,si k)]) (fun k=>1-k) 0 (fun _ _=>none))
 | _=>none
end Go.SF
/- Contracts: division by any polynomial. No condition. -/
namespace Go.SF
open Go.SX Go
set_option linter.unusedVariables false
def cn(p:Int)(b L:List Int)(i:Nat)(c:Int)(j:Nat):List Int:=(List.range L.length).map (fun t=>if i<=t/\t<i+j then bd p (L.getD t 0) (mulM p c (b.getD (t-i) 0)) else L.getD t 0)
def bL(p r:Int)(a b:List Int):Nat->List Int
 | 0=>a
 | k+1=>cn p b (bL p r a b k) (a.length-b.length-k) (mulM p ((bL p r a b k).getD (a.length-1-k) 0) r) b.length
def gB(p r:Int)(a b:List Int)(k:Nat):Int:=mulM p ((bL p r a b k).getD (a.length-1-k) 0) r
def eh(p r:Int)(a b:List Int)(n k:Nat):List Int:=(List.range n).map (fun t=>if a.length-b.length<t+k/\t<=a.length-b.length then gB p r a b (a.length-b.length-t) else 0)
def aY(p:Int)(b:List Int):Int:=aR p (b.getD (b.length-1) 0)
def fx(p:Int)(a b:List Int):List Int×List Int:=if a.length<b.length then ([],a) else (eh p (aY p b) a b (a.length-b.length+1) (a.length-b.length+1),bz (bL p (aY p b) a b (a.length-b.length+1)))
def bK(f:Int)(a b:List Int):List Int×List Int×Bool:=if (aL f a&&aL f b&&decide (b.length≠0))=true then ((fx (ab f) a b).1,(fx (ab f) a b).2,true) else ([],[],false)
def c5(f:Int)(a b:List Int):List Int×Bool:=if (aL f a&&aL f b&&decide (a.length=0\/b.length=0\/a.length+b.length-1<=400))=true then (cY (ab f) a b,true) else ([],false)
end Go.SF
/- Contracts: jobs. No condition. -/
namespace Go.SF
open Go.SX Go
set_option linter.unusedVariables false
def cd(l:List Int):Bool:=decide (l.length<=200)&&decide (∀ x∈l,-1000000<=x/\x<=1000000)
def ft(a b:List Int)(i:Nat):Nat->Int
 | 0=>0
 | j+1=>if i-j<b.length then ft a b i j+a.getD j 0*b.getD (i-j) 0 else ft a b i j
def kv(a b:List Int)(n:Nat):List Int:=(List.range n).map (fun i=>ft a b i (min (i+1) a.length))
def ee(a b:List Int)(x y:Nat):List Int:=(List.range (a.length+b.length-1)).map (fun t=>if x<=t/\t<x+y then ft a b t (x+1) else ft a b t (min x (t+1)))
def ca(a b:List Int):List Int×Bool:=if (cd a&&cd b)=true then (if a.length=0\/b.length=0 then [] else kv a b (a.length+b.length-1),true) else ([],false)
def gi(f:Int)(a:List Int):Bool:=decide (1<=a.length)&&decide (a.length<=64)&&aw f a
def gk(p:Int)(a out:List Int)(i:Nat):Nat->Int
 | 0=>if i=0 then 1 else 0
 | j+1=>bd p (gk p a out i j) (mulM p (a.getD (j+1) 0) (out.getD (i-(j+1)) 0))
def lW(p:Int)(a out:List Int)(i:Nat):Nat->Int
 | 0=>0
 | j+1=>c_ p (lW p a out i j) (mulM p (a.getD (j+1) 0) (out.getD (i-(j+1)) 0))
def bB(p:Int)(a:List Int):Nat->List Int
 | 0=>[]
 | k+1=>bB p a k++[mulM p (gk p a (bB p a k) k k) (aR p (a.getD 0 0))]
def cm(f:Int)(a:List Int):List Int×Bool:=if (gi f a&&decide (a.getD 0 0≠0))=true then (bB (ab f) a a.length,true) else ([],false)
abbrev nS:Ty:=.st (.pr ah (.pr ah (.pr ai (.pr ai ah))))
abbrev Jb:=Int×Int×List Int×List Int×Int
abbrev CH:Ty:=.st (.pr ah (.pr ai ai))
abbrev RU:=Int×List Int×List Int
def ek(k:Int):Bool:=decide (k=3\/k=4\/k=5\/k=6\/k=8\/k=9\/k=10\/k=11)
def bD(l:List Int):Bool:=decide (l.length<=400)&&decide (∀ x∈l,-1099511627776<=x/\x<=1099511627776)
def aF(j:Jb):Bool:=(decide (1<=j.1/\j.1<=11)&&decide (ab j.2.1≠0)&&decide (¬(j.1=6/\j.2.1≠0)))&&bD j.2.2.1&&bD j.2.2.2.1&&decide (0<=j.2.2.2.2/\j.2.2.2.2<=400)&&(ek j.1||decide (j.2.2.2.1.length=0))&&(decide (j.1=11)||decide (j.2.2.2.2=0))
def jq(f:Int)(a xs:List Int):Bool:=aL f a&&decide (xs.length<=40)&&aw f xs
def dn(f:Int)(a xs:List Int):List Int:=if jq f a xs=true then dC (ab f) a xs xs.length else []
def iK(k:Bool)(o m:List Int):RU:=if k=true then (0,o,m) else (2,[],[])
def aD(j:Jb):RU :=
 if aF j=true then
  (if j.1=1 then iK (aA j.2.1 j.2.2.1) (iS j.2.1 j.2.2.1) []
  else if j.1=2 then iK (aA j.2.1 j.2.2.1) (fo j.2.1 j.2.2.1) []
  else if j.1=3 then iK (c9 j.2.1 j.2.2.1 j.2.2.2.1) (jM j.2.1 j.2.2.1 j.2.2.2.1) []
  else if j.1=4 then iK (c9 j.2.1 j.2.2.1 j.2.2.2.1) (gq j.2.1 j.2.2.1 j.2.2.2.1) []
  else if j.1=5 then iK (c5 j.2.1 j.2.2.1 j.2.2.2.1).2 (c5 j.2.1 j.2.2.1 j.2.2.2.1).1 []
  else if j.1=6 then iK (ca j.2.2.1 j.2.2.2.1).2 (ca j.2.2.1 j.2.2.2.1).1 []
  else if j.1=7 then iK (cm j.2.1 j.2.2.1).2 (cm j.2.1 j.2.2.1).1 []
  else if j.1=8 then iK (jq j.2.1 j.2.2.1 j.2.2.2.1) (dn j.2.1 j.2.2.1 j.2.2.2.1) []
  else if j.1=9 then iK (b5 j.2.1 j.2.2.1 j.2.2.2.1).2 (b5 j.2.1 j.2.2.1 j.2.2.2.1).1 []
  else if j.1=10 then iK (bK j.2.1 j.2.2.1 j.2.2.2.1).2.2 (bK j.2.1 j.2.2.1 j.2.2.2.1).1 (bK j.2.1 j.2.2.1 j.2.2.2.1).2.1
  else iK (cM j.2.1 j.2.2.1 j.2.2.2.1 j.2.2.2.2).2.2 (cM j.2.1 j.2.2.1 j.2.2.2.1 j.2.2.2.2).1 [(cM j.2.1 j.2.2.1 j.2.2.2.1 j.2.2.2.2).2.1])
 else (1,[],[])
def pj:PC:={ ts:=[ah],rs:=[.bool],pre:=fun _=>True,F:=fun x=>ek x }
def pk:PC:={ ts:=[ai],rs:=[.bool],pre:=fun _=>True,F:=fun x=>bD x }
def pS:PC:={ ts:=[nS],rs:=[.bool],pre:=fun _=>True,F:=fun x=>aF x }
def jj(k:Int):Bool:=decide (k≠1/\k≠2/\k≠7)
def uq:PC:={ ts:=[ah],rs:=[.bool],pre:=fun _=>True,F:=fun x=>jj x }
def o0:PC:={ ts:=[ai],rs:=[.bool],pre:=fun _=>True,F:=fun x=>bD x }
def pQ:PC:={ ts:=[nS],rs:=[.bool],pre:=fun _=>True,F:=fun x=>aF x }
def sA:PC:={ ts:=[nS],rs:=[CH],pre:=fun _=>True,F:=fun x=>aD x }
def sk:PC:={ ts:=[nS],rs:=[CH],pre:=fun _=>True,F:=fun x=>aD x }
def qL:PC:={ ts:=[ah,ai,ai],rs:=[ai,.bool],pre:=fun _=>True,F:=fun x=>c5 x.1 x.2.1 x.2.2 }
def qp:PC:={ ts:=[ah,ai,ai],rs:=[ai,.bool],pre:=fun _=>True,F:=fun x=>c5 x.1 x.2.1 x.2.2 }
def bH(f:Int)(ls:List (List Int)):Fd×Bool:=if decide (ab f≠0)&&decide (∀ v∈ls,aL f v=true) then ((al f).1,true) else ((0,0,0),false)
def gD:PC:={ ts:=[ah,.sl ai],rs:=[bm,.bool],pre:=fun x=>x.2.length=1\/x.2.length=2,F:=fun x=>bH x.1 x.2 }
def sg:PC:={ ts:=[ah,ai],rs:=[.bool],pre:=fun _=>True,F:=fun x=>aL x.1 x.2 }
def ph:PC:={ ts:=[ai],rs:=[.bool],pre:=fun _=>True,F:=fun x=>cd x }
def oZ:PC:={ ts:=[ai],rs:=[.bool],pre:=fun _=>True,F:=fun x=>cd x }
def nI:PC:={ ts:=[ai,ai],rs:=[ai,.bool],pre:=fun _=>True,F:=fun x=>ca x.1 x.2 }
def nA:PC:={ ts:=[ai,ai],rs:=[ai,.bool],pre:=fun _=>True,F:=fun x=>ca x.1 x.2 }
def pg:PC:={ ts:=[ah,ai],rs:=[.bool],pre:=fun _=>True,F:=fun x=>gi x.1 x.2 }
def nN:PC:={ ts:=[ah,ai],rs:=[ai,.bool],pre:=fun _=>True,F:=fun x=>cm x.1 x.2 }
def fy(f:Int)(ls:List (List Int)):Fd×Bool:=if gi f (ls.getD 0 [])=true then ((al f).1,true) else ((0,0,0),false)
def ld:PC:={ ts:=[ah,.sl ai],rs:=[bm,.bool],pre:=fun x=>x.2.length=1,F:=fun x=>fy x.1 x.2 }
def nH:PC:={ ts:=[bm,ai],rs:=[ai],pre:=fun x=>an x.1.1/\ak x.1.1 x.2=true/\1<=x.2.length/\x.2.length<=64,F:=fun x=>bB x.1.1 x.2 x.2.length }
def nC:PC:={ ts:=[ah,ai],rs:=[ai,.bool],pre:=fun _=>True,F:=fun x=>cm x.1 x.2 }
def pf:PC:={ ts:=[ah,ai,ai],rs:=[ai],pre:=fun _=>True,F:=fun x=>dn x.1 x.2.1 x.2.2 }
def Ig(p:Int)(a b:List Int):Prop:=∃ f,ab f=p/\aL f a=true/\aL f b=true/\b.length≠0
def nO:PC:={ ts:=[ah,ai,ai],rs:=[ai,ai],pre:=fun x=>aL x.1 x.2.1=true/\aL x.1 x.2.2=true/\x.2.2.length≠0,F:=fun x=>fx (ab x.1) x.2.1 x.2.2 }
def qu:PC:={ ts:=[bm,ai,ai],rs:=[ai,ai],pre:=fun x=>Ig x.1.1 x.2.1 x.2.2,F:=fun x=>fx x.1.1 x.2.1 x.2.2 }
def sx:PC:={ ts:=[ah,ai,ai],rs:=[ai,ai,.bool],pre:=fun _=>True,F:=fun x=>bK x.1 x.2.1 x.2.2 }
def se:PC:={ ts:=[ah,ai,ai],rs:=[ai,ai,.bool],pre:=fun _=>True,F:=fun x=>bK x.1 x.2.1 x.2.2 }
def BM(x:List Int×List Int)(i:Nat):Nat->Option bk:=fun
 | 11=>some (.mk Nat (fun j=>j<=min (i+1) x.1.length) (fun st j=>(st.keep 8 []).aU [(8,si (ft x.1 x.2 i j)),(9,si j)]) (fun j=>min (i+1) x.1.length-j) 0 (fun _ _=>none))
 | _=>none
def ub(x:List Int×List Int):Nat->Option bk:=fun
 | 7=>some (.mk Nat (fun i=>i<=x.1.length+x.2.length-1) (fun st i=>((st.keep 6 []).aU [(6,.c (.own 0)),(7,si i)]).bE [(0,.row true ah (kv x.1 x.2 i))]) (fun i=>x.1.length+x.2.length-1-i) 0 (fun i=>BM x i))
 | _=>none
def tW(x:List Int×List Int):Nat->Option bk:=fun
 | 7=>some (.mk Nat (fun i=>i<=x.1.length) (fun st i=>((st.keep 6 [34,35]).aU [(6,.c (.own 0)),(36,si i)]).bE [(0,.row true ah (ee x.1 x.2 i 0))]) (fun i=>x.1.length-i) 0 (fun i=>fun
   | 10=>some (.mk Nat (fun j=>j<=x.2.length) (fun st j=>((st.keep 9 [34,35,36,41,42]).aU [(6,.c (.own 0)),(43,si j)]).bE [(0,.row true ah (ee x.1 x.2 i j))]) (fun j=>x.2.length-j) 0 (fun _ _=>none))
   | _=>none))
 | _=>none
def BN(x:Int×List Int)(i:Nat):Nat->Option bk:=fun
 | 12=>some (.mk Nat (fun j=>j<=i) (fun st j=>(st.keep 9 []).aU [(9,si (gk (ab x.1) x.2 (bB (ab x.1) x.2 i) i j)),(10,si ((j:Int)+1))]) (fun j=>i-j) 0 (fun _ _=>none))
 | _=>none
def ue(x:Int×List Int):Nat->Option bk:=fun
 | 6=>some (.mk Nat (fun i=>i<=x.2.length) (fun st i=>((st.keep 8 []).aU [(6,.c (.own 0)),(8,si i)]).bE [(0,.row true ah (bB (ab x.1) x.2 i))]) (fun i=>x.2.length-i) 0 (fun i=>BN x i))
 | _=>none
def BL(x:Fd×List Int)(i:Nat):Nat->Option bk:=fun
 | 8=>some (.mk Nat (fun j=>j<=i) (fun st j=>(st.keep 8 []).aU [(8,si (lW x.1.1 x.2 (bB x.1.1 x.2 i) i j)),(9,si ((j:Int)+1))]) (fun j=>i-j) 0 (fun _ _=>none))
 | _=>none
def ua(x:Fd×List Int):Nat->Option bk:=fun
 | 4=>some (.mk Nat (fun i=>1<=i/\i<=x.2.length) (fun st i=>((st.keep 6 []).aU [(6,.c (.own 1)),(7,si i)]).bE [(1,.row true ah (bB x.1.1 x.2 i))]) (fun i=>x.2.length-i) 1 (fun i=>BL x i))
 | _=>none
def BP(x:Int×List Int×List Int)(k:Nat):Nat->Option bk:=fun
 | 14=>some (.mk Nat (fun j=>j<=x.2.2.length) (fun st j=>((st.keep 14 []).aU [(14,si j)]).bE [(0,.row true ah (cn (ab x.1) x.2.2 (bL (ab x.1) (aY (ab x.1) x.2.2) x.2.1 x.2.2 k) (x.2.1.length-x.2.2.length-k) (gB (ab x.1) (aY (ab x.1) x.2.2) x.2.1 x.2.2 k) j)),(1,.row true ah (eh (ab x.1) (aY (ab x.1) x.2.2) x.2.1 x.2.2 x.2.1.length (k+1)))]) (fun j=>x.2.2.length-j) 0 (fun _ _=>none))
 | _=>none
def BO(x:Int×List Int×List Int):Nat->Option bk:=fun
 | 9=>some (.mk Nat (fun k=>k<=x.2.1.length+1-x.2.2.length) (fun st k=>((st.keep 12 []).aU [(8,.c (.own 0)),(9,.c (.own 1)),(12,si ((x.2.1.length:Int)-k))]).bE [(0,.row true ah (bL (ab x.1) (aY (ab x.1) x.2.2) x.2.1 x.2.2 k)),(1,.row true ah (eh (ab x.1) (aY (ab x.1) x.2.2) x.2.1 x.2.2 x.2.1.length k))]) (fun k=>x.2.1.length+1-x.2.2.length-k) 0 (fun k=>BP x k))
 | _=>none
def uf(x:Int×List Int×List Int):Nat->Option bk:=fun
 | 4=>some (.mk Nat (fun i=>i<=x.2.1.length) (fun st i=>((st.keep 9 []).aU [(9,.c (.own 1)),(10,si i)]).bE [(1,.row true ah (List.replicate i 0))]) (fun i=>x.2.1.length-i) 0 (fun _=>BO x))
 | _=>none
def FR(x:Fd×List Int×List Int)(k:Nat):Nat->Option bk:=fun
 | 13=>some (.mk Nat (fun j=>j<=x.2.2.length) (fun st j=>((st.keep 13 [63,64]).aU [(65,si j)]).bE [(1,.row true ah (cn x.1.1 x.2.2 (bL x.1.1 (aY x.1.1 x.2.2) x.2.1 x.2.2 k) (x.2.1.length-x.2.2.length-k) (gB x.1.1 (aY x.1.1 x.2.2) x.2.1 x.2.2 k) j)),(2,.row true ah (eh x.1.1 (aY x.1.1 x.2.2) x.2.1 x.2.2 (x.2.1.length-x.2.2.length+1) (k+1)))]) (fun j=>x.2.2.length-j) 0 (fun _ _=>none))
 | _=>none
def xV(x:Fd×List Int×List Int):Nat->Option bk:=fun
 | 7=>some (.mk Nat (fun k=>k<=x.2.1.length-x.2.2.length+1) (fun st k=>((st.keep 11 []).aU [(11,si ((x.2.1.length:Int)-x.2.2.length-k))]).bE [(1,.row true ah (bL x.1.1 (aY x.1.1 x.2.2) x.2.1 x.2.2 k)),(2,.row true ah (eh x.1.1 (aY x.1.1 x.2.2) x.2.1 x.2.2 (x.2.1.length-x.2.2.length+1) k))]) (fun k=>x.2.1.length-x.2.2.length+1-k) 0 (fun k=>FR x k))
 | _=>none
def gv(m:Int)(l:List Int)(k:Nat):Prop:=k<=l.length/\∀ x∈l.take k,-m<=x/\x<=m
def wo(x:List Int):Nat->Option bk:=fun
 | 4=>some (.mk Nat (fun k=>gv 1000000 x k) (fun st k=>(st.keep 3 []).aU [(3,si k)]) (fun k=>x.length-k) 0 (fun _ _=>none))
 | _=>none
def vW(x:List Int):Nat->Option bk:=fun
 | 2=>some (.mk Nat (fun k=>gv 1000000 x k) (fun st k=>(st.keep 4 [5,6]).aU [(7,si k)]) (fun k=>x.length-k) 0 (fun _ _=>none))
 | _=>none
def wq(x:List Int):Nat->Option bk:=fun
 | 4=>some (.mk Nat (fun k=>gv 1099511627776 x k) (fun st k=>(st.keep 3 []).aU [(3,si k)]) (fun k=>x.length-k) 0 (fun _ _=>none))
 | _=>none
def vX(x:List Int):Nat->Option bk:=fun
 | 2=>some (.mk Nat (fun k=>gv 1099511627776 x k) (fun st k=>(st.keep 4 [5,6]).aU [(7,si k)]) (fun k=>x.length-k) 0 (fun _ _=>none))
 | _=>none
def vp(f:Int)(ls:List (List Int))(k:Nat):Prop:=∀ i,i<k->aL f (ls.getD i [])=true
def tz(x:Int×List (List Int)):Nat->Option bk:=fun
 | 5=>some (.mk Nat (fun k=>k<=x.2.length/\vp x.1 x.2 k) (fun st k=>(st.keep 8 [18,19]).aU [(20,si k)]) (fun k=>x.2.length-k) 0 (fun _ _=>none))
 | _=>none
def qW(x:Int×List (List Int)):Nat->Option bk:=fun
 | 5=>some (.mk Nat (fun k=>k<=1/\(k=1->gi x.1 (x.2.getD 0 [])=true)) (fun st k=>(st.keep 8 [18,19]).aU [(20,si k)]) (fun k=>1-k) 0 (fun _ _=>none))
 | _=>none
def wg(x:Int×List Int×List Int):Nat->Option bk:=fun
 | 5=>some (.mk Nat (fun k=>k<=x.2.2.length) (fun st k=>((st.keep 7 []).aU [(7,.c (.own 0)),(8,si k)]).bE [(0,.row true ah (dC (ab x.1) x.2.1 x.2.2 k))]) (fun k=>x.2.2.length-k) 0 (fun _ _=>none))
 | _=>none
end Go.SF
/- Contracts: codes of jobs. No condition. -/
namespace Go.SF
open Go.SX Go
set_option linter.unusedVariables false
def lY(x:Int):Nat:=if x<0 then (-2*x-1).toNat else (2*x).toNat
def e7(u:Nat):List Int:=if h:u<128 then [(u:Int)] else ((u%128+128:Nat):Int)::e7 (u/128)
termination_by u
decreasing_by omega
def ch(x:Int):Prop := -1099511627776<=x/\x<=1099511627776
instance (x:Int):Decidable (ch x):=by unfold ch;infer_instance
def jO(x:Int):List Int:=if ch x then e7 (lY x) else []
def nL:PC:={ ts:=[ah],rs:=[bG],pre:=fun _=>True,F:=fun x=>jO x }
def kN(x:Int)(k:List Int×Nat):Prop:=k.1++e7 k.2=e7 (lY x)/\k.2<=4398046511104/\k.1.length<=100
def uc(x:Int):Nat->Option bk:=fun
 | 7=>some (.mk (List Int×Nat) (fun k=>kN x k/\ch x) (fun st k=>((st.keep 3 []).aU [(3,.c (.own 0)),(4,si k.2)]).bE [(0,.row true Kd k.1)]) (fun k=>k.2) ([],lY x) (fun _ _=>none))
 | _=>none
end Go.SF
/- Contracts: jobs from their codes. No condition. -/
namespace Go.SF
open Go.SX Go
set_option linter.unusedVariables false
def bM(b:List Int)(p:Nat):Nat->Nat
 | 0=>0
 | k+1=>bM b p k+(b.getD (p+k) 0).toNat%128*128^k
def lX(u:Nat):Int:=if u%2=1 then -((u/2:Nat):Int)-1 else ((u/2:Nat):Int)
abbrev CP:=Int×Int×Bool
def n6(b:List Int)(p:Nat):Nat->Nat->CP
 | 0,_=>(0,0,false)
 | f+1,k =>
   if p+k<b.length then
    (if 128<=b.getD (p+k) 0 then n6 b p f (k+1)
    else if (b.getD (p+k) 0=0/\0<k)\/¬ch (lX (bM b p (k+1))) then (0,0,false)
    else (lX (bM b p (k+1)),((p+k+1:Nat):Int),true))
   else (0,0,false)
def aj(b:List Int)(p:Int):CP:=if p<0 then (0,0,false) else n6 b p.toNat 7 0
def jL(b:List Int)(p:Int):Prop:=b.length<=1048576/\p<=4611686018427387904
def mh:PC:={ ts:=[bG,ah],rs:=[ah,ah,.bool],pre:=fun x=>jL x.1 x.2,F:=fun x=>aj x.1 x.2 }
def jt:PC:={ ts:=[bG,ah],rs:=[ah,ah,.bool],pre:=fun x=>jL x.1 x.2,F:=fun x=>aj x.1 x.2 }
def vU(x:List Int×Int)(k:Nat):Prop:=0<=x.2/\k<=7/\n6 x.1 x.2.toNat (7-k) k=n6 x.1 x.2.toNat 7 0/\∀ j,j<k->x.2.toNat+j<x.1.length/\128<=x.1.getD (x.2.toNat+j) 0
def tA(x:List Int×Int):Nat->Option bk:=fun
 | 5=>some (.mk Nat (fun k=>vU x k) (fun st k=>(st.keep 7 []).aU [(7,si (bM x.1 x.2.toNat k)),(8,si k)]) (fun k=>7-k) 0 (fun _ _=>none))
 | _=>none
def tD(x:List Int×Int):Nat->Option bk:=fun
 | 5=>some (.mk Nat (fun k=>vU x k/\k<=6) (fun st k=>(st.keep 7 []).aU [(7,si (bM x.1 x.2.toNat k)),(8,si k)]) (fun k=>7-k) 0 (fun _ _=>none))
 | _=>none
abbrev J5:=List Int×Int×Bool
def ji(b:List Int):Nat->Int->J5
 | 0,p=>([],p,true)
 | n+1,p=>if (aj b p).2.2=true then (if (ji b n (aj b p).2.1).2.2=true then ((aj b p).1::(ji b n (aj b p).2.1).1,(ji b n (aj b p).2.1).2.1,true) else ([],0,false)) else ([],0,false)
def fO(m:CP):Bool:=m.2.2&&decide (0<=m.1/\m.1<=400)
def bO(b:List Int)(p:Int):J5:=if fO (aj b p)=true then ji b (aj b p).1.toNat (aj b p).2.1 else ([],0,false)
def kP(l:List Int)(r:J5):J5:=if r.2.2=true then (l++r.1,r.2.1,true) else ([],0,false)
def ln:PC:={ ts:=[bG,ah],rs:=[ai,ah,.bool],pre:=fun x=>jL x.1 x.2,F:=fun x=>bO x.1 x.2 }
def Ny(x:List Int×Int)(y:Nat×Int×List Int):Prop:=fO (aj x.1 x.2)=true/\(y.1:Int)<=(aj x.1 x.2).1/\y.2.2.length=y.1/\y.2.1<=2000000/\kP y.2.2 (ji x.1 ((aj x.1 x.2).1.toNat-y.1) y.2.1)=bO x.1 x.2
def qZ(x:List Int×Int):Nat->Option bk:=fun
 | 6=>some (.mk (Nat×Int×List Int) (fun y=>Ny x y) (fun st y=>((st.keep 7 [8]).aU [(1,si y.2.1),(7,.c (.own 0)),(10,si y.1)]).bE [(0,.row true ah y.2.2)]) (fun y=>(aj x.1 x.2).1.toNat-y.1) (0,(aj x.1 x.2).2.1,[]) (fun _ _=>none))
 | _=>none
def wH:Jb:=(0,0,[],[],0)
def Bg(b l m:List Int):Jb:=(b.getD 0 0,b.getD 1 0,l,m,(aj b 2).1)
def bZ(b:List Int):Jb×Bool :=
 if b.length<2\/(aj b 2).2.2=false then (wH,false)
 else if (bO b (aj b 2).2.1).2.2=false then (wH,false)
 else if (bO b (bO b (aj b 2).2.1).2.1).2.2=false then (wH,false)
 else if (bO b (bO b (aj b 2).2.1).2.1).2.1=(b.length:Int)/\aF (Bg b (bO b (aj b 2).2.1).1 (bO b (bO b (aj b 2).2.1).2.1).1)=true then (Bg b (bO b (aj b 2).2.1).1 (bO b (bO b (aj b 2).2.1).2.1).1,true)
 else (wH,false)
def nJ:PC:={ ts:=[bG],rs:=[nS,.bool],pre:=fun x=>x.length<=1048576,F:=fun x=>bZ x }
def nB:PC:={ ts:=[bG],rs:=[nS,.bool],pre:=fun x=>x.length<=1048576,F:=fun x=>bZ x }
abbrev lP:=Nat×Int×Bool×List Int×List Int
def tv(b:List Int)(y:lP):Prop :=
 2<=b.length/\y.1<=2/\y.2.1<=2000000 ∧
 (y.1=0->y.2.1=(aj b 2).2.1/\y.2.2.1=(aj b 2).2.2/\y.2.2.2.1=[]/\y.2.2.2.2=[]) ∧
 (y.1=1->y.2.2.1=true/\(aj b 2).2.2=true/\bO b (aj b 2).2.1=(y.2.2.2.1,y.2.1,true)/\y.2.2.2.2=[]) ∧
 (y.1=2->y.2.2.1=true/\(aj b 2).2.2=true/\∃ a,bO b (aj b 2).2.1=(y.2.2.2.1,a,true)/\bO b a=(y.2.2.2.2,y.2.1,true))
def hG(k:Nat)(a l:List Int):List Int:=if k=0 then l else a
def hH(k:Nat)(c l:List Int):List Int:=if k=0 then c else l
abbrev vS:=Nat×Int×Bool×List Int
def fR(b:List Int)(y:lP):Bool:=y.2.2.1&&fO (aj b y.2.1)
def fH(b:List Int)(y:lP)(z:vS):Prop :=
 tv b y/\y.1<2/\z.2.2.2.length=z.1/\z.1<=401/\z.2.1<=2000000/\(z.1=0->z.2.2.1=fR b y) ∧
 (z.2.2.1=true->fR b y=true/\(z.1:Int)<=(aj b y.2.1).1/\kP z.2.2.2 (ji b ((aj b y.2.1).1.toNat-z.1) z.2.1)=bO b y.2.1) ∧
 (z.2.2.1=false->fR b y=false\/(bO b y.2.1).2.2=false)
def NJ(b l m:List Int):az:=.bx [.val (.int .i64 (b.getD 0 0)),.val (.int .i64 (b.getD 1 0)),.own 3,.own 4,.val (.int .i64 (aj b 2).1)]
def BK(b:List Int)(y:lP):Nat->Option bk:=fun
 | 13=>some (.mk vS (fun z=>fH b y z) (fun st z=>((st.keep 5 [9,10,37,38,39]).aU [(6,si z.2.1),(7,.c (.val (.bool z.2.2.1))),(13,si z.1)]).bE [(1,NJ b [] []),(3,.row true ah (hG y.1 y.2.2.2.1 z.2.2.2)),(4,.row true ah (hH y.1 y.2.2.2.2 z.2.2.2))]) (fun z=>401-z.1) (0,(aj b y.2.1).2.1,fR b y,[]) (fun _ _=>none))
 | _=>none
def tX(b:List Int):Nat->Option bk:=fun
 | 7=>some (.mk lP (fun y=>tv b y) (fun st y=>((st.keep 5 [37,38]).aU [(6,si y.2.1),(7,.c (.val (.bool y.2.2.1))),(39,si y.1)]).bE [(1,NJ b [] []),(3,.row true ah y.2.2.2.1),(4,.row true ah y.2.2.2.2)]) (fun y=>2-y.1) (0,(aj b 2).2.1,(aj b 2).2.2,[],[]) (fun y=>BK b y))
 | _=>none
end Go.SF
/- Contracts: caches that hold what jobs give. No condition. -/
namespace Go.SF
open Go.SX Go
set_option linter.unusedVariables false
def lp:PC:={ ts:=[ai,ai],rs:=[.bool],pre:=fun _=>True,F:=fun x=>decide (x.1=x.2) }
def oV:PC:={ ts:=[ai,ai],rs:=[.bool],pre:=fun _=>True,F:=fun x=>decide (x.1=x.2) }
def ml:PC:={ ts:=[gh,gh],rs:=[.bool],pre:=fun _=>True,F:=fun x=>dL x.1 x.2 }
def mg:PC:={ ts:=[gh,gh],rs:=[.bool],pre:=fun _=>True,F:=fun x=>dL x.1 x.2 }
def CN(e:En):Prop:=(bZ e.1).2=true/\dL (aD (bZ e.1).1) e.2=true
instance (e:En):Decidable (CN e):=by unfold CN;infer_instance
def l5(es:List En)(k:Nat):Prop:=∀ i,i<k->CN (es.getD i ([],0,[],[]))
instance (es:List En) (k:Nat):Decidable (l5 es k):=by unfold l5;infer_instance
def gI(c:Ca):Bool:=bV c&&decide (l5 c.2 c.2.length)
def sy:PC:={ ts:=[cA],rs:=[.bool],pre:=fun x=>dw x.2,F:=fun x=>gI x }
def sf:PC:={ ts:=[cA],rs:=[.bool],pre:=fun x=>dw x.2,F:=fun x=>gI x }
def q7(x:List Int×List Int):=Kp (e:=ah) x 4 5 5
def vV(x:List Int×List Int):Nat->Option bk:=fun
 | 4=>some (.mk Nat (fun k=>k<=x.1.length/\x.1.length=x.2.length/\x.1.take k=x.2.take k) (fun st k=>(st.keep 5 [11,12]).aU [(13,si k)]) (fun k=>x.1.length-k) 0 (fun _ _=>none))
 | _=>none
def AS(x:Ca):Nat->Option bk:=fun
 | 4=>some (.mk Nat (fun k=>k<=x.2.length/\l5 x.2 k/\bV x=true) (fun st k=>(st.keep 3 []).aU [(3,si k)]) (fun k=>x.2.length-k) 0 (fun _ _=>none))
 | _=>none
def AJ(x:Ca):Nat->Option bk:=fun
 | 4=>some (.mk Nat (fun k=>k<=x.2.length/\l5 x.2 k/\bV x=true) (fun st k=>(st.keep 3 [11,12]).aU [(13,si k)]) (fun k=>x.2.length-k) 0 (fun _ _=>none))
 | _=>none
end Go.SF
