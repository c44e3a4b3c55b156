/- A verified symbolic executor and its contracts (part SxC). No condition. -/
import Derived.Test.YtbnplfhajafhmaaGreatSxH
import Derived.IntWalk
import Derived.Test.YtbnplfhajafhmaaGreatSxG
set_option linter.unusedVariables false
set_option linter.unusedSimpArgs false
open Go.IntKind (i64 u8)
/- Contracts: what all share. No condition. -/
namespace Go.SF
open Go.SX Go
set_option linter.unusedVariables false
abbrev ah{α:Type}(x:α):Prop:=x=x
abbrev an:Prop:=Value.slice none 0 0=Value.slice none 0 0
theorem sxS:(∀ n:Nat,Int.toNat (n:Int)=n)/\(∀ p:Prop,(p/\True)=p)/\(∀ p:Prop,(True/\p)=p)/\(∀ {α:Sort 1},(α->True)=True)/\(∀ {p:Prop},(p->True)=True)/\(∀ b:Bool,((!b)=true)=(b=false))/\(∀ b:Bool,((!b)=false)=(b=true)):=⟨Int.toNat_natCast,and_true,true_and,fun {α}=>implies_true α,fun {p}=>implies_true p,fun b=>Bool.not_eq_true' b,fun b=>Bool.not_eq_false' b⟩
def br:List (Nat×PC)->FuncId->Option PC
 | [],_=>none
 | (k,c)::r,f=>if f=k then some c else br r f
def fP:List (Nat×bW)->FuncId->Option bW
 | [],_=>none
 | (k,c)::r,f=>if f=k then some c else fP r f
def uV:bW:=fun _ _ _=>False
def R0:FuncId->Option bW:=fun _=>none
def pT{X Y:Type}:X->Y->Nat->Option bq:=fun _ _ _=>none
def b_{X:Type}:X->Nat->Option bq:=fun _ _=>none
def si(n:Int):S:=.c (.val (.int .i64 n))
abbrev ai:Ty:=.int .i64
def G5(n:Int):Int:=i64.wrap n
def QL{e:Ty}(x:List e.den×List e.den)(key i m:Nat):Nat->Option bq:=fun k =>
 if k=key then some (.mk Nat (fun k=>k<=x.1.length/\x.1.length=x.2.length/\x.1.take k=x.2.take k) (fun st k=>(st.keep m []).bM [(i,si k)]) (fun k=>x.1.length-k) 0 (fun _ _=>none))
 else none
def eA:PC:={ ts:=[ai,ai,ai],rs:=[.bool],pre:=fun _=>True,F:=fun x=>decide (x.2.1<=x.1)&&decide (x.1<=x.2.2) }
theorem BA{α:Type}{l:List α}{i:Nat}{x:α}(h:i<l.length):l.drop i=l.getD i x::l.drop (i+1):=by
 rw[List.drop_eq_getElem_cons h];simp[h]
theorem wrap_small{n:Int}(h : -9223372036854775808<=n/\n<=9223372036854775807):i64.wrap n=n:=by
 rw[IntKind.wrap_i64];omega
theorem bp{n:Nat}(h:n<9223372036854775807):i64.wrap ((n:Int)+1)=((n+1:Nat):Int):=by
 rw[wrap_small (by omega)];rfl
theorem Gx{α:Type}{a b:List α}{z:α}{i:Nat}(hl:a.length=b.length)(hi:i<a.length)(h:a.take i=b.take i):(a.take (i+1)=b.take (i+1)↔a.getD i z=b.getD i z)/\(a=b->a.getD i z=b.getD i z):=by
 refine⟨?_,fun e=>by rw[e]⟩
 rw[List.take_add_one,List.take_add_one,h,List.append_cancel_left_eq]
 rw[List.getElem?_eq_getElem hi,List.getElem?_eq_getElem (show i<b.length by omega)]
 simp[hi,show i<b.length by omega]
end Go.SF
/- Contracts: fields, and lists of their elements. No condition. -/
namespace Go.SF
open Go.SX Go
set_option linter.unusedVariables false
abbrev al:Ty:=.sl (.int .i64)
abbrev Fd:=Int×Int×Int
def M8:List Fd:=[(17,3,4),(97,5,5),(193,5,6),(257,3,8),(7681,17,9),(12289,11,12),(998244353,3,23),(469762049,3,26),(1004535809,3,21)]
def mR(f:Int):Fd×Bool:=if 0<=f/\f<9 then (M8.getD f.toNat (0,0,0),true) else ((0,0,0),false)
def ae(f:Int):Int:=(mR f).1.1
def dE(f:Int):Int:=if (mR f).2=true then (mR f).1.2.2 else -1
def oR(n:Int):Nat->Int
 | 0 => -1
 | k+1=>if n=2^(9-k) then ((9-k:Nat):Int) else oR n k
def cC(n:Int):Int:=oR n 10
def bw(p:Int)(xs:List Int):Bool:=decide (∀ x∈xs,0<=x/\x<=p-1)
def aB(f:Int)(xs:List Int):Bool:=decide (ae f≠0)&&bw (ae f) xs
def bo(f:Int)(xs:List Int):Bool:=decide (0<=cC xs.length)&&decide (cC xs.length<=dE f)&&aB f xs
def cu:PC:={ ts:=[ai],rs:=[ai],pre:=fun _=>True,F:=fun x=>ae x }
def mJ:PC:={ ts:=[ai],rs:=[ai],pre:=fun _=>True,F:=fun x=>dE x }
def o6:PC:={ ts:=[ai],rs:=[ai],pre:=fun _=>True,F:=fun x=>cC x }
def cQ:PC:={ ts:=[ai,al],rs:=[.bool],pre:=fun _=>True,F:=fun x=>aB x.1 x.2 }
def iq:PC:={ ts:=[ai,al],rs:=[.bool],pre:=fun _=>True,F:=fun x=>bo x.1 x.2 }
def xT(x:Int):Nat->Option bq:=fun
 | 6=>some (.mk Nat (fun t=>(t:Int)<=dE x) (fun st t=>(st.keep 4 []).bM [(4,si t),(5,si ((ae x-1)/2^t))]) (fun t=>(dE x).toNat-t) 0 (fun _ _=>none))
 | _=>none
def vD(n:Int)(k:Nat):Prop:=k<=10/\∀ j,j<k->n≠2^j
def Ed(x:Int):Nat->Option bq:=fun
 | 2=>some (.mk Nat (fun k=>vD x k) (fun st k=>(st.keep 3 []).bM [(3,si k)]) (fun k=>10-k) 0 (fun _ _=>none))
 | _=>none
def KI(p:Int)(xs:List Int)(k:Nat):Prop:=k<=xs.length/\bw p (xs.take k)=true
def sS(x:Int×List Int):Nat->Option bq:=fun
 | 5=>some (.mk Nat (fun k=>KI (ae x.1) x.2 k) (fun st k=>(st.keep 6 []).bM [(6,si k)]) (fun k=>x.2.length-k) 0 (fun _ _=>none))
 | _=>none
end Go.SF
/- Contracts: lists of numbers. No condition. -/
namespace Go.SF
open Go.SX Go
set_option linter.unusedVariables false
end Go.SF
/- Contracts: plans and turners. No condition. -/
namespace Go.SF
open Go.SX Go
set_option linter.unusedVariables false
def fZ:PC:={ ts:=[al],rs:=[al],pre:=fun x=>x.length<=1048576,F:=fun x=>x }
def zN(x:List Int):Nat->Option bq:=fun
 | 3=>some (.mk Nat (fun k=>k<=x.length) (fun st k=>((st.keep 3 []).bM [(4,si k),(3,.c (.own 0))]).b9 [(0,.row true ai (x.take k))]) (fun k=>x.length-k) 0 (fun _ _=>none))
 | _=>none
end Go.SF
/- Contracts: caches, as they are read. No condition. -/
namespace Go.SF
open Go.SX Go
set_option linter.unusedVariables false
abbrev kT:Ty:=.int .u8
abbrev aC:Ty:=.sl kT
abbrev cA:Ty:=.st (.pr (.int .i64) (.pr al al))
abbrev Rs:=Int×List Int×List Int
abbrev gZ:Ty:=.st (.pr aC cA)
abbrev En:=List Int×Rs
abbrev bE:Ty:=.st (.pr (.int .i64) (.sl gZ))
abbrev Ca:=Int×List En
instance Et:DecidableEq Rs:=inferInstance
instance SN:DecidableEq En := @instDecidableEqProd (List Int) Rs inferInstance Et
instance QF:DecidableEq (List En) := @instDecidableEqList En SN
instance Xs:DecidableEq Ca := @instDecidableEqProd Int (List En) inferInstance QF
def lF(a b:Rs):Bool := @decide (a=b) (Et a b)
def ja:En:=([],0,[],[])
def dF(r:Rs):Prop:=r.2.1.length<=1048576/\r.2.2.length<=1048576
def nj(e:En):Prop:=e.1.length<=1048576/\dF e.2
def bH(es:List En):Prop:=es.length<=1048576/\∀ e∈es,nj e
def fm(r:Rs):Nat:=1+r.2.1.length+r.2.2.length
def cn:List En->Nat
 | []=>0
 | e::es=>fm e.2+cn es
def gu(es:List En)(k:Nat):Prop:=∀ i,i<k->(es.getD i ([],0,[],[])).1.length<=5000/\∀ j,j<i->(es.getD j ([],0,[],[])).1≠(es.getD i ([],0,[],[])).1
instance Ur (es:List En) (k:Nat):Decidable (gu es k):=by unfold gu;infer_instance
def bL(c:Ca):Bool:=decide (0<=c.1/\c.1<=5000)&&decide (c.2.length<=30)&&decide (gu c.2 c.2.length)&&decide ((cn c.2:Int)<=c.1)
def aJ(key:List Int):List En->Int->Int
 | [],_ => -1
 | e::es,k=>if e.1=key then k else aJ key es (k+1)
def oM:PC:={ ts:=[aC,aC],rs:=[.bool],pre:=fun _=>True,F:=fun x=>decide (x.1=x.2) }
def nT:PC:={ ts:=[aC,aC],rs:=[.bool],pre:=fun _=>True,F:=fun x=>decide (x.1=x.2) }
def jc:PC:={ ts:=[cA],rs:=[ai],pre:=fun x=>dF x,F:=fun x=>((fm x:Nat):Int) }
def oJ:PC:={ ts:=[gZ],rs:=[ai],pre:=fun x=>nj x,F:=fun x=>((fm x.2:Nat):Int) }
def mF:PC:={ ts:=[bE],rs:=[ai],pre:=fun x=>bH x.2,F:=fun x=>((cn x.2:Nat):Int) }
def uh:PC:={ ts:=[bE],rs:=[ai],pre:=fun x=>bH x.2,F:=fun x=>((cn x.2:Nat):Int) }
def qI:PC:={ ts:=[gZ,.ptr aC],rs:=[.bool],pre:=fun _=>True,F:=fun x=>decide (x.1.1=x.2) }
def mD(g:Nat):PC:={ ts:=[.sl gZ,.bZ g (.ptr aC)],rs:=[ai],pre:=fun _=>True,F:=fun x=>aJ x.2 x.1 0 }
def kW:PC:={ ts:=[.sl gZ,aC],rs:=[ai],pre:=fun _=>True,F:=fun x=>aJ x.2 x.1 0 }
def oK:PC:={ ts:=[bE],rs:=[.bool],pre:=fun x=>bH x.2,F:=fun x=>bL x }
def oH:PC:={ ts:=[bE],rs:=[.bool],pre:=fun x=>bH x.2,F:=fun x=>bL x }
def zQ(x:List Int×List Int):=QL (e:=kT) x 4 5 5
def Ct(x:Ca):Nat->Option bq:=fun
 | 3=>some (.mk Nat (fun k=>k<=x.2.length) (fun st k=>(st.keep 3 []).bM [(3,si (cn (x.2.take k))),(4,si k)]) (fun k=>x.2.length-k) 0 (fun _ _=>none))
 | _=>none
def xO(x:Ca):Nat->Option bq:=fun
 | 3=>some (.mk Nat (fun k=>k<=x.2.length) (fun st k=>(st.keep 3 [7,8]).bM [(3,si (cn (x.2.take k))),(9,si k)]) (fun k=>x.2.length-k) 0 (fun _ _=>none))
 | _=>none
def sQ(x:List En×List Int):Nat->Option bq:=fun
 | 2=>some (.mk Nat (fun k=>k<=x.1.length/\aJ x.2 (x.1.drop k) k=aJ x.2 x.1 0) (fun st k=>(st.keep 6 [7]).bM [(8,si k)]) (fun k=>x.1.length-k) 0 (fun _ _=>none))
 | _=>none
def zL(x:Ca):Nat->Option bq:=fun
 | 5=>some (.mk Nat (fun k=>k<=x.2.length/\gu x.2 k) (fun st k=>(st.keep 3 []).bM [(3,si (cn (x.2.take k))),(4,si k)]) (fun k=>x.2.length-k) 0 (fun i=>fun
   | 10=>some (.mk Nat (fun j=>j<=i/\∀ t,t<j->(x.2.getD t ([],0,[],[])).1≠(x.2.getD i ([],0,[],[])).1) (fun st j=>(st.keep 5 []).bM [(5,si j)]) (fun j=>i-j) 0 (fun _ _=>none))
   | _=>none))
 | _=>none
def zJ(x:Ca):Nat->Option bq:=fun
 | 4=>some (.mk Nat (fun k=>k<=x.2.length/\gu x.2 k) (fun st k=>(st.keep 3 [27,28]).bM [(29,si k)]) (fun k=>x.2.length-k) 0 (fun _ _=>none))
 | _=>none
end Go.SF
/- Contracts: lines of tickets. No condition. -/
namespace Go.SF
open Go.SX Go
set_option linter.unusedVariables false
end Go.SF
/- Contracts: crews of hands. No condition. -/
namespace Go.SF
open Go.SX Go
set_option linter.unusedVariables false
abbrev Hd:=Int×Int×Int
def td:Hd:=(0,0,0)
end Go.SF
/- Contracts: ServedCost. No condition. -/
namespace Go.SF
open Go.SX Go
set_option linter.unusedVariables false
end Go.SF
/- Contracts: marks. No condition. -/
namespace Go.SF
open Go.SX Go
set_option linter.unusedVariables false
def n1(k:Int):Int:=G5 (k+1)
def n2(k:Int):Int:=G5 (G5 (k+1)+1)
def n3(k:Int):Int:=G5 (G5 (G5 (k+1)+1)+1)
def x7(k:Int):Int:=k
def jP(k:Int):Int×Int:=(k,G5 (k+1))
end Go.SF
/- Contracts: lines that are made anew. No condition. -/
namespace Go.SF
open Go.SX Go
set_option linter.unusedVariables false
def cw(n:Int):C:=.val (.int .i64 n)
end Go.SF
/- Contracts: caches whose entries' blocks are told. No condition. -/
namespace Go.SF
open Go.SX Go
set_option linter.unusedVariables false
abbrev dx:Ty:=.st (.pr (.gs true kT) (.st (.pr (.int .i64) (.pr (.gs true ai) (.gs true ai)))))
abbrev PG:=Nat×List Int
abbrev eD:=PG×Int×PG×PG
abbrev b8:Ty:=.st (.pr (.int .i64) (.sl dx))
abbrev Ac:Ty:=.st (.pr (.gs false kT) (.st (.pr (.int .i64) (.pr (.gs false ai) (.gs false ai)))))
def cx(e:eD):En:=(e.1.2,e.2.1,e.2.2.1.2,e.2.2.2.2)
def AD(p:PG):List Nat:=if p.2=[] then [] else [p.1]
def eJ(e:eD):List Nat:=AD e.1++(AD e.2.2.1++AD e.2.2.2)
def rG:eD:=((0,[]),0,(0,[]),(0,[]))
def ki:PC:={ ts:=[cA],rs:=[cA],pre:=fun x=>dF x,F:=fun x=>x }
def lp:PC:={ ts:=[gZ],rs:=[gZ],pre:=fun x=>nj x,F:=fun x=>x }
def im:TC:={ ts:=[bE],eo:=[b8],nd:=true,pre:=fun x=>bH x.2,F:=fun x=>x }
def vF(x:Ca):Nat->Option bq:=fun
 | 3=>some (.mk (Nat×List eD) (fun k=>k.1<=x.2.length/\k.2.map cx=x.2.take k.1/\(k.2.flatMap eJ).Nodup)
   (fun st k=>((st.keep 12 []).bM [(12,si k.1)]).b9 [(2,.bx [cw x.1,.own 3]),(3,.row true dx k.2)]) (fun k=>x.2.length-k.1) (0,[]) (fun _ _=>none))
 | _=>none
def mK:PC:={ ts:=[aC],rs:=[aC],pre:=fun x=>x.length<=1048576,F:=fun x=>x,fz:=true }
def xU(x:List Int):Nat->Option bq:=fun
 | 3=>some (.mk Nat (fun k=>k<=x.length) (fun st k=>((st.keep 3 []).bM [(4,si k),(3,.c (.own 0))]).b9 [(0,.row true kT (x.take k))]) (fun k=>x.length-k) 0 (fun _ _=>none))
 | _=>none
def kn:PC:={ ts:=[cA],rs:=[cA],pre:=fun x=>dF x,F:=fun x=>x,fz:=true }
abbrev ez:Ty:=.st (.pr (.int .i64) (.sl Ac))
def vV:TC:={ ts:=[bE],eo:=[ez],nd:=false,pre:=fun x=>bH x.2,F:=fun x=>x }
def oO:PC:={ ts:=[bE],rs:=[bE],pre:=fun x=>bH x.2,F:=fun x=>x }
def zV(x:Ca):Nat->Option bq:=fun
 | 3=>some (.mk Nat (fun k=>k<=x.2.length)
   (fun st k=>((st.keep 4 []).bM [(4,si k)]).b9 [(2,.bx [cw x.1,.own 3]),(3,.row true gZ (x.2.take k))]) (fun k=>x.2.length-k) 0 (fun _ _=>none))
 | _=>none
def bA(c:Int)(es:List En):Nat->Nat
 | 0=>0
 | n+1=>if 30<n+1\/c<(cn (es.take (n+1)):Int) then bA c es n else n+1
def A9(c:Ca):Ca:=(c.1,c.2.take (bA c.1 c.2 c.2.length))
def px:CT:={ e:=dx,pre:=fun c xs=>bH (xs.map cx)/\0<=c,F:=fun c xs=>bA c (xs.map cx) xs.length }
def qz(x:Int×List eD):Nat->Option bq:=fun
 | 1=>some (.mk Nat (fun k=>k<=x.2.length/\bA x.1 (x.2.map cx) k=bA x.1 (x.2.map cx) x.2.length) (fun st k=>(st.keep 3 []).b9 [(1,.bx [cw x.1,.pre 0 k])]) (fun k=>k) x.2.length (fun _ _=>none))
 | _=>none
def sy:CT:={ e:=Ac,pre:=fun c xs=>bH (xs.map cx)/\0<=c,F:=fun c xs=>bA c (xs.map cx) xs.length }
def zW(x:Int×List eD):Nat->Option bq:=qz x
end Go.SF
/- Contracts: the laws of caches, where their code is cut. No condition. -/
namespace Go.SF
open Go.SX Go
set_option linter.unusedVariables false
abbrev CA:=Int×Nat×List eD
def y8(x:List eD):List Nat:=x.flatMap eJ
end Go.SF
/- Contracts: results looked up and stored. No condition. -/
namespace Go.SF
open Go.SX Go
set_option linter.unusedVariables false
def cq(c:Ca)(e:En):Ca:=(c.1,e::c.2.filter (fun o=>decide (o.1≠e.1)))
def qR:PC:={ ts:=[bE,gZ],rs:=[bE],pre:=fun x=>bH x.1.2/\nj x.2,F:=fun x=>cq x.1 x.2 }
def vk:TC:={ ts:=[bE,gZ],eo:=[ez],nd:=false,pre:=fun x=>bH x.1.2/\nj x.2,F:=fun x=>cq x.1 x.2 }
def xX(x:Ca×En):Nat->Option bq:=fun
 | 4=>some (.mk Nat (fun k=>k<=x.1.2.length)
   (fun st k=>((st.keep 7 []).bM [(7,si k)]).b9 [(3,.row true gZ (cq (x.1.1,x.1.2.take k) x.2).2),(4,.bx [cw x.1.1,.own 3])]) (fun k=>x.1.2.length-k) 0 (fun _ _=>none))
 | _=>none
def ea(c:Ca)(key:List Int):Ca×Rs×Bool :=
 if bL c=true/\0<=aJ key c.2 0 then (cq c (c.2.getD (aJ key c.2 0).toNat ja),(c.2.getD (aJ key c.2 0).toNat ja).2,true) else (c,(0,[],[]),false)
def oI:TC:={ ts:=[bE,aC],eo:=[b8,cA,.bool],nd:=true,pre:=fun x=>bH x.1.2/\x.2.length<=1048576,F:=fun x=>ea x.1 x.2 }
def ya:TC:={ ts:=[bE,aC],eo:=[b8,cA,.bool],nd:=true,pre:=fun x=>bH x.1.2/\x.2.length<=1048576,F:=fun x=>ea x.1 x.2 }
def aQ(c:Ca)(key:List Int)(r:Rs):Ca×Bool :=
 if bL c=true/\key.length<=5000/\(fm r:Int)<=c.1 then (A9 (cq c (key,r)),true) else (c,false)
def Ak:TC:={ ts:=[bE,aC,cA],eo:=[ez,.bool],nd:=false,pre:=fun x=>bH x.1.2/\x.2.1.length<=1048576/\dF x.2.2,F:=fun x=>aQ x.1 x.2.1 x.2.2 }
def vT:PC:={ ts:=[bE,aC,cA],rs:=[bE,.bool],pre:=fun x=>bH x.1.2/\x.2.1.length<=1048576/\dF x.2.2,F:=fun x=>aQ x.1 x.2.1 x.2.2 }
def pZ:TC:={ ts:=[bE,aC,cA],eo:=[b8,.bool],nd:=true,pre:=fun x=>bH x.1.2/\x.2.1.length<=1048576/\dF x.2.2,F:=fun x=>aQ x.1 x.2.1 x.2.2 }
def Aj:TC:={ ts:=[bE,aC,cA],eo:=[b8,.bool],nd:=true,pre:=fun x=>bH x.1.2/\x.2.1.length<=1048576/\dF x.2.2,F:=fun x=>aQ x.1 x.2.1 x.2.2 }
def KK(x:Ca×List Int×Rs):Nat->Option bq:=fun
 | 100009=>some (.mk (List eD) (fun g=>g.map cx=(cq x.1 (x.2.1,x.2.2)).2/\(y8 g).Nodup/\bL x.1=true/\x.2.1.length<=5000/\(fm x.2.2:Int)<=x.1.1)
   (fun st g=>(st.keep 9 []).b9 [(3,.row true dx g),(4,.bx [cw x.1.1,.own 3]),(5,.dead),(6,.dead),(7,.dead),(8,.dead)]) (fun _=>0) [] (fun _ _=>none))
 | _=>none
def Ec(x:Ca×List Int×Rs):Nat->Option bq:=fun
 | 100008=>some (.mk (List eD) (fun g=>g.map cx=x.1.2.filter (fun o=>decide (o.1≠x.2.1))/\(y8 g).Nodup/\bL x.1=true/\x.2.1.length<=5000/\(fm x.2.2:Int)<=x.1.1)
   (fun st g=>(st.keep 10 []).b9 [(3,.row true dx g),(4,.bx [cw x.1.1,.own 3])]) (fun _=>0) [] (fun _=>KK x))
 | _=>none
end Go.SF
/- Contracts: a law's code. No condition. -/
namespace Go.SF
open Go.SX Go
set_option linter.unusedVariables false
abbrev Ok:Ty:=.sl (.int .u8)
def I2(c:List Int):Bool:=decide (1048576<(c.length:Int))
def By:PC:={ ts:=[Ok],rs:=[.bool],pre:=fun _=>True,F:=fun x=>I2 x }
end Go.SF
/- Contracts: draws, of which no more is told than bounds. No condition. -/
namespace Go.SF
open Go.SX Go
set_option linter.unusedVariables false
abbrev ar:Ty:=.pr (.sl (.int .u8)) (.pr ai ai)
abbrev cL:=List Int×Int×Int
def af(c:cL):Prop:=0<=c.2.1/\c.1.length<=9223372036854775807
def fE(c:cL):ax:=.bx [.rd false (.int .u8) c.1,.val (.int .i64 c.2.1),.val (.int .i64 c.2.2)]
def aA(n r:Int):Prop:=0<=r/\(0<n->r<n)/\(n<=0->r=0)
def qM:QB:={ t:=ar,ts:=[],rs:=[ai],pre:=fun d _=>af d,Q:=fun d _ g r=>af g/\(0:Int)<=r/\r<=(255:Int) }
def b7:QB:={ t:=ar,ts:=[ai],rs:=[ai],pre:=fun d _=>af d,Q:=fun d n g r=>af g/\aA n r }
def dp:QB:={ t:=ar,ts:=[ai],rs:=[.bool],pre:=fun d _=>af d,Q:=fun d n g r=>af g }
def eN(l:List Int)(r:Int):Prop:=r∈l
def da:QB:={ t:=ar,ts:=[.sl ai],rs:=[ai],pre:=fun d l=>af d/\0<(show List Int from l).length,Q:=fun d l g r=>af g/\eN l r }
def sx:QN:={ t:=ar,ts:=[.sl (.int .u8)],rs:=[],pre:=fun x=>(show List Int from x).length<=9223372036854775807,Q:=fun x g _=>af g }
def zP(x:List Int):Nat->Option bq:=fun
 | 3=>some (.mk (Nat×Int) (fun k=>k.1<=x.length) (fun st k=>(st.keep 3 []).bM [(3,si k.2),(4,si k.1)]) (fun k=>x.length-k.1) (0,i64.wrap (710710+(x.length:Int))) (fun _ _=>none))
 | _=>none
def xC(U4 r:Int):Prop:=r<=U4
def qN:QC:={ ts:=[.sl (.int .u8),ai],rs:=[ai],pre:=fun _=>True,Q:=fun x r=>xC x.2 r }
end Go.SF
/- Contracts: turners that are begun and done, and their marks. No condition. -/
namespace Go.SF
open Go.SX Go
set_option linter.unusedVariables false
end Go.SF
/- Contracts: arithmetic modulo a number. No condition. -/
namespace Go.SF
open Go.SX Go
set_option linter.unusedVariables false
def mq(p a b:Int):Int:=(a+b)%p
def lP(p a b:Int):Int:=(a-b)%p
def mulM(p a b:Int):Int:=a*b%p
def eO(p a:Int)(e:Nat):Int:=a^e%p
def dt(f x:Int):Int:=if ae f=0 then -1 else x%ae f
def mr(f a b:Int):Int:=if ae f=0 then -1 else mq (ae f) a b
def gI(f a b:Int):Int:=if ae f=0 then -1 else lP (ae f) a b
def cD(f a b:Int):Int:=if ae f=0 then -1 else mulM (ae f) a b
def n_(p a e:Int):Int:=if a%p=0 then (if e=0 then 1 else if e<0 then -1 else 0) else eO p a (e%(p-1)).toNat
def bk(f a e:Int):Int:=if ae f=0 then -1 else n_ (ae f) a e
def bg(p:Int):Prop:=17<=p/\p<=1004535809
def El(p x:Int):Prop:=0<=x/\x<p
def hD(p a:Int):Int:=eO p a (p-2).toNat
def kl:PC:={ ts:=[ai,ai],rs:=[ai],pre:=fun _=>True,F:=fun x=>dt x.1 x.2 }
def xn:PC:={ ts:=[ai,ai,ai],rs:=[ai],pre:=fun _=>True,F:=fun x=>mr x.1 x.2.1 x.2.2 }
def ql:PC:={ ts:=[ai,ai,ai],rs:=[ai],pre:=fun _=>True,F:=fun x=>gI x.1 x.2.1 x.2.2 }
def lU:PC:={ ts:=[ai,ai,ai],rs:=[ai],pre:=fun _=>True,F:=fun x=>cD x.1 x.2.1 x.2.2 }
def o7:PC:={ ts:=[ai,ai,ai],rs:=[ai],pre:=fun _=>True,F:=fun x=>bk x.1 x.2.1 x.2.2 }
def jm:PC:={ ts:=[ai,ai],rs:=[ai],pre:=fun _=>True,F:=fun x=>bk x.1 x.2 (-1) }
def sh(p r:Int)(x:Int×Int×Nat):Prop:=El p x.1/\El p x.2.1/\x.2.1*x.1^x.2.2%p=r/\(x.2.2:Int)<=9223372036854775807
def Ee(x:Int×Int×Int):Nat->Option bq:=fun
 | 100014=>some (.mk Unit (fun _=>True) (fun st _=>(st.keep 9 []).bM [(9,si (x.2.2%(ae x.1-1)).toNat)]) (fun _=>0) () (fun _=>fun
   | 15=>some (.mk (Int×Int×Nat) (fun t=>sh (ae x.1) (eO (ae x.1) x.2.1 (x.2.2%(ae x.1-1)).toNat) t) (fun st t=>(st.keep 8 []).bM [(8,si t.1),(9,si t.2.2),(10,si t.2.1)]) (fun t=>t.2.2) (x.2.1%ae x.1,1,(x.2.2%(ae x.1-1)).toNat) (fun _ _=>none))
   | _=>none))
 | _=>none
end Go.SF
/- Contracts: turners that go on. No condition. -/
namespace Go.SF
open Go.SX Go
set_option linter.unusedVariables false
def bQ(f:Int):Int:=(mR f).1.2.1
def ch(f k:Int):Int:=if ae f≠0/\0<=k/\k<=dE f then n_ (ae f) (bQ f) ((ae f-1)/2^k.toNat) else -1
def pB:PC:={ ts:=[ai],rs:=[ai],pre:=fun _=>True,F:=fun x=>bQ x }
def p8:PC:={ ts:=[ai,ai],rs:=[ai],pre:=fun _=>True,F:=fun x=>ch x.1 x.2 }
def ci(n:Int):C:=.val (.int .i64 n)
end Go.SF
/- Contracts: the transform. No condition. -/
namespace Go.SF
open Go.SX Go
set_option linter.unusedVariables false
def b6(f:Nat->Int):Nat->Int
 | 0=>0
 | n+1=>b6 f n+f n
def sk(v:List Int)(w:Int)(i j:Nat):Int:=v.getD j 0*w^(i*j%v.length)
def oG(p:Int)(v:List Int)(w:Int)(i:Nat):Int:=b6 (sk v w i) v.length%p
def eF(p:Int)(v:List Int)(w:Int)(n:Nat):List Int:=(List.range n).map (fun i=>oG p v w i)
def kb(p w:Int)(n:Nat):List Int:=(List.range n).map (fun i=>w^i%p)
def qV(f:Int)(v:List Int):List Int:=if bo f v=true then eF (ae f) v (ch f (cC v.length)) v.length else []
def p_:PC:={ ts:=[ai,al,ai],rs:=[al],pre:=fun x=>bo x.1 x.2.1=true/\El (ae x.1) x.2.2,F:=fun x=>eF (ae x.1) x.2.1 x.2.2 x.2.1.length }
def su:PC:={ ts:=[ai,al],rs:=[al],pre:=fun _=>True,F:=fun x=>qV x.1 x.2 }
def IZ(x:Int×List Int×Int)(i:Nat):Nat->Option bq:=fun
 | 16=>some (.mk Nat (fun j=>j<=x.2.1.length) (fun st j=>(st.keep 14 []).bM [(14,si (b6 (sk x.2.1 x.2.2 i) j%ae x.1)),(15,si j)]) (fun j=>x.2.1.length-j) 0 (fun _ _=>none))
 | _=>none
def IY(x:Int×List Int×Int):Nat->Option bq:=fun
 | 12=>some (.mk Nat (fun i=>i<=x.2.1.length) (fun st i=>((st.keep 10 []).bM [(12,.c (.own 1)),(13,si i)]).b9 [(1,.row true ai (eF (ae x.1) x.2.1 x.2.2 i))]) (fun i=>x.2.1.length-i) 0 (fun i=>IZ x i))
 | _=>none
def Cs(x:Int×List Int×Int):Nat->Option bq:=fun
 | 6=>some (.mk Nat (fun i=>i<=x.2.1.length) (fun st i=>((st.keep 9 []).bM [(9,.c (.own 0)),(10,si (x.2.2^i%ae x.1)),(11,si i)]).b9 [(0,.row true ai (kb (ae x.1) x.2.2 i))]) (fun i=>x.2.1.length-i) 0 (fun _=>IY x))
 | _=>none
end Go.SF
/- Contracts: points, and their weights. No condition. -/
namespace Go.SF
open Go.SX Go
set_option linter.unusedVariables false
def pH(l:List Int)(x:Int):Bool:=decide (x∈l)
def cm(f:Int)(xs:List Int):Bool:=decide (1<=xs.length)&&decide (xs.length<=40)&&aB f xs&&decide xs.Nodup
def my(p:Int)(xs:List Int)(i:Nat):Nat->Int
 | 0=>1
 | n+1=>if n=i then my p xs i n else mulM p (my p xs i n) (lP p (xs.getD i 0) (xs.getD n 0))
def Bj(p:Int)(xs:List Int)(i:Nat):Int:=hD p (my p xs i xs.length)
def mM:PC:={ ts:=[al,ai],rs:=[.bool],pre:=fun _=>True,F:=fun x=>pH x.1 x.2 }
def mI:PC:={ ts:=[ai,al],rs:=[.bool],pre:=fun _=>True,F:=fun x=>cm x.1 x.2 }
def Cp(x:List Int×Int):Nat->Option bq:=fun
 | 2=>some (.mk Nat (fun k=>k<=x.1.length/\x.2 ∉ x.1.take k) (fun st k=>(st.keep 5 []).bM [(5,si k)]) (fun k=>x.1.length-k) 0 (fun _ _=>none))
 | _=>none
def xS(x:Int×List Int):Nat->Option bq:=fun
 | 4=>some (.mk Nat (fun k=>k<=x.2.length/\(x.2.take k).Nodup) (fun st k=>(st.keep 5 []).bM [(5,si k)]) (fun k=>x.2.length-k) 0 (fun _ _=>none))
 | _=>none
end Go.SF
/- Contracts: polynomials as lists of coefficients. No condition. -/
namespace Go.SF
open Go.SX Go
set_option linter.unusedVariables false
def lB(l:List Int):Nat->Nat
 | 0=>0
 | n+1=>if l.getD n 0=0 then lB l n else n+1
def pw(l:List Int):Nat:=lB l l.length
def bj(l:List Int):List Int:=l.take (pw l)
def iC(l:List Int):Bool:=decide (pw l=l.length)
def bC(f:Int)(a:List Int):Bool:=decide (a.length<=400)&&aB f a&&iC a
def jT(l:List Int)(i:Int):Int:=if 0<=i then l.getD i.toNat 0 else 0
def gv(p:Int)(a b:List Int)(n:Nat):List Int:=(List.range n).map (fun i=>mq p (a.getD i 0) (b.getD i 0))
def yP(p:Int)(a b:List Int):List Int:=bj (gv p a b (max a.length b.length))
def oo(p:Int)(a:List Int)(c:Int)(n:Nat):List Int:=(List.range n).map (fun i=>mulM p (a.getD i 0) c)
def lj(p:Int)(a:List Int)(c:Int):List Int:=bj (oo p a c a.length)
def fh(p:Int)(a b:List Int)(i:Nat):Nat->Int
 | 0=>0
 | j+1=>if i-j<b.length then (fh p a b i j+a.getD j 0*b.getD (i-j) 0)%p else fh p a b i j
def eL(p:Int)(a b:List Int)(n:Nat):List Int:=(List.range n).map (fun i=>fh p a b i (min (i+1) a.length))
def hJ(p:Int)(a b:List Int):List Int:=if a.length=0\/b.length=0 then [] else bj (eL p a b (a.length+b.length-1))
def oE(f:Int)(a b:List Int):List Int:=if (bC f a&&bC f b)=true then yP (ae f) a b else []
def jr(f:Int)(a:List Int)(c:Int):List Int:=if bC f a=true then lj (ae f) a c else []
def fV:PC:={ ts:=[al],rs:=[al],pre:=fun x=>x.length<=1048576,F:=fun x=>bj x }
def fU:PC:={ ts:=[ai,al],rs:=[.bool],pre:=fun _=>True,F:=fun x=>bC x.1 x.2 }
def vU:PC:={ ts:=[al,ai],rs:=[ai],pre:=fun _=>True,F:=fun x=>jT x.1 x.2 }
def sq:PC:={ ts:=[ai,al,al],rs:=[al],pre:=fun _=>True,F:=fun x=>oE x.1 x.2.1 x.2.2 }
def pC:PC:={ ts:=[ai,al,ai],rs:=[al],pre:=fun _=>True,F:=fun x=>jr x.1 x.2.1 x.2.2 }
def p9:PC:={ ts:=[ai,al,al],rs:=[al],pre:=fun x=>aB x.1 x.2.1=true/\aB x.1 x.2.2=true/\x.2.1.length<=1000/\x.2.2.length<=1000,F:=fun x=>hJ (ae x.1) x.2.1 x.2.2 }
def tP(l:List Int)(k:Nat):Prop:=k<=l.length/\lB l k=pw l
def Cq(x:List Int):Nat->Option bq:=fun
 | 2=>some (.mk Nat (fun k=>tP x k) (fun st k=>(st.keep 3 []).bM [(3,si k)]) (fun k=>k) x.length (fun _ _=>none))
 | _=>none
def zK(x:Int×List Int×List Int):Nat->Option bq:=fun
 | 5=>some (.mk Nat (fun k=>k<=max x.2.1.length x.2.2.length) (fun st k=>((st.keep 7 []).bM [(7,.c (.own 0)),(8,si k)]).b9 [(0,.row true ai (gv (ae x.1) x.2.1 x.2.2 k))]) (fun k=>max x.2.1.length x.2.2.length-k) 0 (fun _ _=>none))
 | _=>none
def vJ(x:Int×List Int×Int):Nat->Option bq:=fun
 | 5=>some (.mk Nat (fun k=>k<=x.2.1.length) (fun st k=>((st.keep 7 []).bM [(7,.c (.own 0)),(8,si k)]).b9 [(0,.row true ai (oo (ae x.1) x.2.1 x.2.2 k))]) (fun k=>x.2.1.length-k) 0 (fun _ _=>none))
 | _=>none
def Cr(x:Int×List Int×List Int):Nat->Option bq:=fun
 | 6=>some (.mk Nat (fun k=>k<=x.2.1.length+x.2.2.length-1) (fun st k=>((st.keep 8 []).bM [(8,.c (.own 0)),(9,si k)]).b9 [(0,.row true ai (eL (ae x.1) x.2.1 x.2.2 k))]) (fun k=>x.2.1.length+x.2.2.length-1-k) 0 (fun i=>fun
   | 10=>some (.mk Nat (fun j=>j<=min (i+1) x.2.1.length) (fun st j=>(st.keep 10 []).bM [(10,si (fh (ae x.1) x.2.1 x.2.2 i j)),(11,si j)]) (fun j=>min (i+1) x.2.1.length-j) 0 (fun _ _=>none))
   | _=>none))
 | _=>none
def R_(p:Int)(a b:List Int)(x y:Nat):List Int:=(List.range (a.length+b.length-1)).map (fun t=>if x<=t/\t<x+y then fh p a b t (x+1) else fh p a b t (min x (t+1)))
end Go.SF
/- Contracts: polynomials through points, and their values. No condition. -/
namespace Go.SF
open Go.SX Go
set_option linter.unusedVariables false
def hY(p:Int)(xs:List Int):Nat->List Int
 | 0=>[1]
 | n+1=>hJ p (hY p xs n) [lP p 0 (xs.getD n 0),1]
def ke(p:Int)(xs:List Int):List Int:=hY p xs xs.length
def dO(xs:List Int)(i:Nat):Nat->List Int
 | 0=>[]
 | n+1=>if n=i then dO xs i n else dO xs i n++[xs.getD n 0]
def fM(p:Int)(xs ys:List Int):Nat->List Int
 | 0=>[]
 | n+1=>yP p (fM p xs ys n) (lj p (ke p (dO xs n xs.length)) (mulM p (ys.getD n 0) (Bj p xs n)))
def sM(p:Int)(xs ys:List Int):List Int:=fM p xs ys xs.length
def dN(f:Int)(xs ys:List Int):List Int×Bool:=if (cm f xs&&decide (ys.length=xs.length)&&aB f ys)=true then (sM (ae f) xs ys,true) else ([],false)
def qH(p:Int)(a:List Int)(x:Int):Nat->Int
 | 0=>0
 | n+1=>mq p (qH p a x n) (mulM p (a.getD n 0) (eO p x n))
def x8(p:Int)(a:List Int)(x:Int):Int:=qH p a x a.length
def rH(f:Int)(a:List Int)(x:Int):Int:=if bC f a=true then x8 (ae f) a x else -1
def pF:PC:={ ts:=[ai,al],rs:=[al],pre:=fun x=>aB x.1 x.2=true/\x.2.length<=40,F:=fun x=>ke (ae x.1) x.2 }
def km:PC:={ ts:=[ai,al,al],rs:=[al],pre:=fun x=>cm x.1 x.2.1=true/\x.2.2.length=x.2.1.length,F:=fun x=>sM (ae x.1) x.2.1 x.2.2 }
def mH:PC:={ ts:=[ai,al,al],rs:=[al,.bool],pre:=fun _=>True,F:=fun x=>dN x.1 x.2.1 x.2.2 }
def mG:PC:={ ts:=[ai,al,ai],rs:=[ai],pre:=fun _=>True,F:=fun x=>rH x.1 x.2.1 x.2.2 }
def vM(x:Int×List Int):Nat->Option bq:=fun
 | 3=>some (.mk Nat (fun k=>k<=x.2.length) (fun st k=>((st.keep 5 []).bM [(5,.c (.own 0)),(6,si k)]).b9 [(0,.row true ai (hY (ae x.1) x.2 k))]) (fun k=>x.2.length-k) 0 (fun _ _=>none))
 | _=>none
def ve(x:Int×List Int×List Int):Nat->Option bq:=fun
 | 3=>some (.mk Nat (fun k=>k<=x.2.1.length) (fun st k=>((st.keep 7 []).bM [(7,.c (.own 0)),(8,si k)]).b9 [(0,.row true ai (fM (ae x.1) x.2.1 x.2.2 k))]) (fun k=>x.2.1.length-k) 0 (fun i=>fun
   | 8=>some (.mk Nat (fun j=>j<=x.2.1.length) (fun st j=>((st.keep 9 []).bM [(9,.c (.own 1)),(10,si (my (ae x.1) x.2.1 i j)),(11,si j)]).b9 [(1,.row true ai (dO x.2.1 i j))]) (fun j=>x.2.1.length-j) 0 (fun _ _=>none))
   | _=>none))
 | _=>none
def xR(x:Int×List Int×Int):Nat->Option bq:=fun
 | 5=>some (.mk Nat (fun k=>k<=x.2.1.length) (fun st k=>(st.keep 7 []).bM [(7,si (qH (ae x.1) x.2.1 x.2.2 k)),(8,si k)]) (fun k=>x.2.1.length-k) 0 (fun _ _=>none))
 | _=>none
end Go.SF
/- Contracts: words of a code, and what they are read as. No condition. -/
namespace Go.SF
open Go.SX Go
set_option linter.unusedVariables false
def fT(f:Int)(xs:List Int)(k:Int):Bool:=decide (xs.length<=10)&&cm f xs&&decide (1<=k/\k<=xs.length)
def kJ(p:Int)(a xs:List Int)(n:Nat):List Int:=(List.range n).map (fun i=>x8 p a (xs.getD i 0))
def fK(f:Int)(xs m:List Int):List Int:=if (fT f xs m.length&&aB f m)=true then kJ (ae f) (bj m) xs xs.length else []
def ef(a b:List Int):Nat->Nat
 | 0=>0
 | n+1=>if n<a.length/\n<b.length/\a.getD n 0=b.getD n 0 then ef a b n else ef a b n+1
def I_(a b:List Int):Int:=(ef a b (max a.length b.length):Nat)
def nR(a b:List Int):Int:=if 4096<a.length\/4096<b.length then -1 else I_ a b
def cJ(l:List Int)(s:Nat):Nat->List Int
 | 0=>[]
 | n+1=>if s/2^n%2=1 then cJ l s n++[l.getD n 0] else cJ l s n
def eU(p:Int)(xs ys:List Int)(s:Nat):List Int:=sM p (cJ xs s xs.length) (cJ ys s xs.length)
def yV(p:Int)(xs ys:List Int)(s:Nat):Nat:=ef (kJ p (eU p xs ys s) xs xs.length) ys xs.length
def JY(m:List Int)(k:Nat):List Int:=m++List.replicate (k-m.length) 0
def mV(p:Int)(xs ys:List Int)(k s:Nat):Bool:=decide ((cJ xs s xs.length).length=k)&&decide (yV p xs ys s<=(xs.length-k)/2)
def findF(h:Nat->Bool):Nat->Option Nat
 | 0=>none
 | n+1=>match findF h n with|some s=>some s|none=>if h n=true then some n else none
def MY(p:Int)(xs ys:List Int)(k:Nat):Option Nat->List Int×Int×Bool
 | some s=>(JY (eU p xs ys s) k,((yV p xs ys s:Nat):Int),true)
 | none=>([],0,false)
def eC(f:Int)(xs ys:List Int)(k:Int):List Int×Int×Bool:=if (fT f xs k&&decide (ys.length=xs.length)&&aB f ys)=true then MY (ae f) xs ys k.toNat (findF (mV (ae f) xs ys k.toNat) (2^xs.length)) else ([],0,false)
abbrev SO:List Ty:=[al,ai,.bool]
def oN:PC:={ ts:=[ai,al,ai],rs:=[.bool],pre:=fun _=>True,F:=fun x=>fT x.1 x.2.1 x.2.2 }
def kj:PC:={ ts:=[ai,al,al],rs:=[al],pre:=fun _=>True,F:=fun x=>fK x.1 x.2.1 x.2.2 }
def ue:PC:={ ts:=[al,al],rs:=[ai],pre:=fun _=>True,F:=fun x=>nR x.1 x.2 }
def nU:PC:={ ts:=[ai,al,al,ai],rs:=SO,pre:=fun _=>True,F:=fun x=>eC x.1 x.2.1 x.2.2.1 x.2.2.2 }
def vd(x:Int×List Int×List Int):Nat->Option bq:=fun
 | 5=>some (.mk Nat (fun k=>k<=x.2.1.length) (fun st k=>((st.keep 7 []).bM [(7,.c (.own 0)),(8,si k)]).b9 [(0,.row true ai (kJ (ae x.1) (bj x.2.2) x.2.1 k))]) (fun k=>x.2.1.length-k) 0 (fun _ _=>none))
 | _=>none
def Co(x:List Int×List Int):Nat->Option bq:=fun
 | 5=>some (.mk Nat (fun k=>k<=max x.1.length x.2.length) (fun st k=>(st.keep 5 []).bM [(5,si (ef x.1 x.2 k)),(6,si k)]) (fun k=>max x.1.length x.2.length-k) 0 (fun _ _=>none))
 | _=>none
def sj(p:Int)(xs ys:List Int)(k s:Nat):Prop:=s<=2^xs.length/\∀ t,t<s->mV p xs ys k t=false
def Qp(x:Int×List Int×List Int×Int)(s:Nat):Nat->Option bq:=fun
 | 17=>some (.mk Nat (fun j=>(eU (ae x.1) x.2.1 x.2.2.1 s).length+j<=x.2.2.2.toNat) (fun st j=>((st.keep 16 []).bM [(16,.c (.own 2))]).b9 [(2,.row true ai (eU (ae x.1) x.2.1 x.2.2.1 s++List.replicate j 0))]) (fun j=>x.2.2.2.toNat-j) 0 (fun _ _=>none))
 | _=>none
def u9(x:Int×List Int×List Int×Int):Nat->Option bq:=fun
 | 5=>some (.mk Nat (fun s=>sj (ae x.1) x.2.1 x.2.2.1 x.2.2.2.toNat s) (fun st s=>(st.keep 12 []).bM [(12,si s)]) (fun s=>2^x.2.1.length-s) 0 (fun s=>fun
   | 10=>some (.mk Nat (fun i=>i<=x.2.1.length) (fun st i=>((st.keep 13 []).bM [(13,.c (.own 0)),(14,.c (.own 1)),(15,si i)]).b9 [(0,.row true ai (cJ x.2.1 s i)),(1,.row true ai (cJ x.2.2.1 s i))]) (fun i=>x.2.1.length-i) 0 (fun _=>Qp x s))
   | _=>none))
 | _=>none
end Go.SF
/- Contracts: draws. No condition. -/
namespace Go.SF
open Go.SX Go
set_option linter.unusedVariables false
end Go.SF
/- Contracts: what the laws of codes call. No condition. -/
namespace Go.SF
open Go.SX Go
set_option linter.unusedVariables false
def r9(a b:List Int):Bool:=decide (a=b)
def yW:PC:={ ts:=[al,al],rs:=[.bool],pre:=fun _=>True,F:=fun x=>r9 x.1 x.2 }
def HV(x:List Int×List Int):=QL (e:=ai) x 4 5 6
end Go.SF
/- Contracts: turners drawn, and stopped anywhere. No condition. -/
namespace Go.SF
open Go.SX Go
set_option linter.unusedVariables false
def ia:QB:={ t:=ar,ts:=[],rs:=[ai],pre:=fun d _=>af d,Q:=fun d _ g r=>af g }
def ed:QB:={ t:=ar,ts:=[ai],rs:=[ai],pre:=fun d _=>af d,Q:=fun d _ g r=>af g }
def rv(c:cL)(x:Int×Int):Nat->Option bq:=fun
 | 3=>some (.mk (Nat×cL×List Int) (fun y=>y.1<=x.2.toNat/\af y.2.1/\y.2.2.length=y.1) (fun st y=>((st.keep 7 []).bM [(7,.c (.own 1)),(8,si y.1)]).b9 [(0,fE y.2.1),(1,.row true ai y.2.2)]) (fun y=>x.2.toNat-y.1) (0,c,[]) (fun _ _=>none))
 | _=>none
end Go.SF
/- Contracts: transforms and products of vectors. No condition. -/
namespace Go.SF
open Go.SX Go
set_option linter.unusedVariables false
def fp(f:Int)(a b:List Int):Bool:=decide (a.length=b.length)&&bo f a&&bo f b
def Qr(p w r:Int)(v:List Int)(k:Nat):Int:=mulM p (oG p v w ((v.length-k)%v.length)) r
def Oi(p w r:Int)(v:List Int):List Int:=(List.range v.length).map (fun k=>Qr p w r v k)
def ln(f:Int)(v:List Int):List Int:=if bo f v=true then Oi (ae f) (ch f (cC v.length)) (hD (ae f) v.length) v else []
def I9(p:Int)(a b:List Int)(k:Nat):Int:=b6 (fun j=>a.getD j 0*b.getD ((k+a.length-j)%a.length) 0) a.length%p
def qE(f:Int)(a b:List Int):List Int:=if fp f a b=true then (List.range a.length).map (fun k=>I9 (ae f) a b k) else []
def nO(p:Int)(a b:List Int)(t:Nat):Nat->Int
 | 0=>0
 | x+1=>if x<=t then mq p (nO p a b t x) (mulM p (a.getD x 0) (b.getD (t-x) 0)) else lP p (nO p a b t x) (mulM p (a.getD x 0) (b.getD (t+a.length-x) 0))
def na(f:Int)(a b:List Int):List Int:=if fp f a b=true then (List.range a.length).map (fun t=>nO (ae f) a b t a.length) else []
def qJ:PC:={ ts:=[ai,al],rs:=[al],pre:=fun _=>True,F:=fun x=>ln x.1 x.2 }
def mN:PC:={ ts:=[ai,al,al],rs:=[.bool],pre:=fun _=>True,F:=fun x=>fp x.1 x.2.1 x.2.2 }
def ud:PC:={ ts:=[ai,al,al],rs:=[al],pre:=fun _=>True,F:=fun x=>qE x.1 x.2.1 x.2.2 }
def sw:PC:={ ts:=[ai,al,al],rs:=[al],pre:=fun _=>True,F:=fun x=>na x.1 x.2.1 x.2.2 }
def xY(p wi r:Int)(v:List Int)(n:Nat):List Int:=(List.range n).map (fun k=>mulM p (oG p v wi k) r)
def xP(x:Int×List Int):Nat->Option bq:=fun
 | 7=>some (.mk Nat (fun i=>i<=x.2.length) (fun st i=>((st.keep 8 []).bM [(5,.c (.own 0)),(8,si i)]).b9 [(0,.row true ai (xY (ae x.1) (bk x.1 (ch x.1 (cC x.2.length)) (-1)) (bk x.1 x.2.length (-1)) x.2 i))]) (fun i=>x.2.length-i) 0 (fun _ _=>none))
 | _=>none
def qF(p:Int)(a b:List Int)(n:Nat):List Int:=(List.range n).map (fun k=>I9 p a b k)
def IX(x:Int×List Int×List Int)(i:Nat):Nat->Option bq:=fun
 | 11=>some (.mk Nat (fun j=>j<=x.2.1.length) (fun st j=>(st.keep 11 []).bM [(11,si (b6 (fun j=>x.2.1.getD j 0*x.2.2.getD ((i+x.2.1.length-j)%x.2.1.length) 0) j%ae x.1)),(12,si j)]) (fun j=>x.2.1.length-j) 0 (fun _ _=>none))
 | _=>none
def Cn(x:Int×List Int×List Int):Nat->Option bq:=fun
 | 7=>some (.mk Nat (fun i=>i<=x.2.1.length) (fun st i=>((st.keep 10 []).bM [(7,.c (.own 0)),(10,si i)]).b9 [(0,.row true ai (qF (ae x.1) x.2.1 x.2.2 i))]) (fun i=>x.2.1.length-i) 0 (fun i=>IX x i))
 | _=>none
def vA(p:Int)(a b:List Int)(n:Nat):List Int:=(List.range n).map (fun t=>nO p a b t a.length)
def Ha(x:Int×List Int×List Int)(i:Nat):Nat->Option bq:=fun
 | 11=>some (.mk Nat (fun j=>j<=x.2.1.length) (fun st j=>(st.keep 11 []).bM [(11,si (nO (ae x.1) x.2.1 x.2.2 i j)),(12,si j)]) (fun j=>x.2.1.length-j) 0 (fun _ _=>none))
 | _=>none
def zM(x:Int×List Int×List Int):Nat->Option bq:=fun
 | 7=>some (.mk Nat (fun i=>i<=x.2.1.length) (fun st i=>((st.keep 10 []).bM [(7,.c (.own 0)),(10,si i)]).b9 [(0,.row true ai (vA (ae x.1) x.2.1 x.2.2 i))]) (fun i=>x.2.1.length-i) 0 (fun i=>Ha x i))
 | _=>none
end Go.SF
/- Contracts: division by any polynomial. No condition. -/
namespace Go.SF
open Go.SX Go
set_option linter.unusedVariables false
def fa(p:Int)(b L:List Int)(i:Nat)(c:Int)(j:Nat):List Int:=(List.range L.length).map (fun t=>if i<=t/\t<i+j then lP p (L.getD t 0) (mulM p c (b.getD (t-i) 0)) else L.getD t 0)
def fF(p r:Int)(a b:List Int):Nat->List Int
 | 0=>a
 | k+1=>fa p b (fF p r a b k) (a.length-b.length-k) (mulM p ((fF p r a b k).getD (a.length-1-k) 0) r) b.length
def rF(p r:Int)(a b:List Int)(k:Nat):Int:=mulM p ((fF p r a b k).getD (a.length-1-k) 0) r
def iZ(p r:Int)(a b:List Int)(n k:Nat):List Int:=(List.range n).map (fun t=>if a.length-b.length<t+k/\t<=a.length-b.length then rF p r a b (a.length-b.length-t) else 0)
def cZ(p:Int)(b:List Int):Int:=hD p (b.getD (b.length-1) 0)
def lD(p:Int)(a b:List Int):List Int×List Int:=if a.length<b.length then ([],a) else (iZ p (cZ p b) a b (a.length-b.length+1) (a.length-b.length+1),bj (fF p (cZ p b) a b (a.length-b.length+1)))
def dg(f:Int)(a b:List Int):List Int×List Int×Bool:=if (bC f a&&bC f b&&decide (b.length≠0))=true then ((lD (ae f) a b).1,(lD (ae f) a b).2,true) else ([],[],false)
def fW(f:Int)(a b:List Int):List Int×Bool:=if (bC f a&&bC f b&&decide (a.length=0\/b.length=0\/a.length+b.length-1<=400))=true then (hJ (ae f) a b,true) else ([],false)
end Go.SF
/- Contracts: jobs. No condition. -/
namespace Go.SF
open Go.SX Go
set_option linter.unusedVariables false
def dQ(l:List Int):Bool:=decide (l.length<=200)&&decide (∀ x∈l,-1000000<=x/\x<=1000000)
def iH(a b:List Int)(i:Nat):Nat->Int
 | 0=>0
 | j+1=>if i-j<b.length then iH a b i j+a.getD j 0*b.getD (i-j) 0 else iH a b i j
def mA(a b:List Int)(n:Nat):List Int:=(List.range n).map (fun i=>iH a b i (min (i+1) a.length))
def dK(a b:List Int):List Int×Bool:=if (dQ a&&dQ b)=true then (if a.length=0\/b.length=0 then [] else mA a b (a.length+b.length-1),true) else ([],false)
def rm(f:Int)(a:List Int):Bool:=decide (1<=a.length)&&decide (a.length<=64)&&aB f a
def kd(p:Int)(a out:List Int)(i:Nat):Nat->Int
 | 0=>if i=0 then 1 else 0
 | j+1=>lP p (kd p a out i j) (mulM p (a.getD (j+1) 0) (out.getD (i-(j+1)) 0))
def c8(p:Int)(a:List Int):Nat->List Int
 | 0=>[]
 | k+1=>c8 p a k++[mulM p (kd p a (c8 p a k) k k) (hD p (a.getD 0 0))]
def dU(f:Int)(a:List Int):List Int×Bool:=if (rm f a&&decide (a.getD 0 0≠0))=true then (c8 (ae f) a a.length,true) else ([],false)
abbrev n6:Ty:=.st (.pr ai (.pr ai (.pr al (.pr al ai))))
abbrev Jb:=Int×Int×List Int×List Int×Int
abbrev O5:Ty:=.st (.pr ai (.pr al al))
abbrev Tn:=Int×List Int×List Int
def ll(k:Int):Bool:=decide (k=3\/k=4\/k=5\/k=6\/k=8\/k=9\/k=10\/k=11)
def ep(l:List Int):Bool:=decide (l.length<=400)&&decide (∀ x∈l,-1099511627776<=x/\x<=1099511627776)
def bI(j:Jb):Bool:=(decide (1<=j.1/\j.1<=11)&&decide (ae j.2.1≠0)&&decide (¬(j.1=6/\j.2.1≠0)))&&ep j.2.2.1&&ep j.2.2.2.1&&decide (0<=j.2.2.2.2/\j.2.2.2.2<=400)&&(ll j.1||decide (j.2.2.2.1.length=0))&&(decide (j.1=11)||decide (j.2.2.2.2=0))
def pX(f:Int)(a xs:List Int):Bool:=bC f a&&decide (xs.length<=40)&&aB f xs
def eR(f:Int)(a xs:List Int):List Int:=if pX f a xs=true then kJ (ae f) a xs xs.length else []
def iz(k:Bool)(o m:List Int):Tn:=if k=true then (0,o,m) else (2,[],[])
def aK(j:Jb):Tn :=
 if bI j=true then
  (if j.1=1 then iz (bo j.2.1 j.2.2.1) (qV j.2.1 j.2.2.1) []
  else if j.1=2 then iz (bo j.2.1 j.2.2.1) (ln j.2.1 j.2.2.1) []
  else if j.1=3 then iz (fp j.2.1 j.2.2.1 j.2.2.2.1) (qE j.2.1 j.2.2.1 j.2.2.2.1) []
  else if j.1=4 then iz (fp j.2.1 j.2.2.1 j.2.2.2.1) (na j.2.1 j.2.2.1 j.2.2.2.1) []
  else if j.1=5 then iz (fW j.2.1 j.2.2.1 j.2.2.2.1).2 (fW j.2.1 j.2.2.1 j.2.2.2.1).1 []
  else if j.1=6 then iz (dK j.2.2.1 j.2.2.2.1).2 (dK j.2.2.1 j.2.2.2.1).1 []
  else if j.1=7 then iz (dU j.2.1 j.2.2.1).2 (dU j.2.1 j.2.2.1).1 []
  else if j.1=8 then iz (pX j.2.1 j.2.2.1 j.2.2.2.1) (eR j.2.1 j.2.2.1 j.2.2.2.1) []
  else if j.1=9 then iz (dN j.2.1 j.2.2.1 j.2.2.2.1).2 (dN j.2.1 j.2.2.1 j.2.2.2.1).1 []
  else if j.1=10 then iz (dg j.2.1 j.2.2.1 j.2.2.2.1).2.2 (dg j.2.1 j.2.2.1 j.2.2.2.1).1 (dg j.2.1 j.2.2.1 j.2.2.2.1).2.1
  else iz (eC j.2.1 j.2.2.1 j.2.2.2.1 j.2.2.2.2).2.2 (eC j.2.1 j.2.2.1 j.2.2.2.1 j.2.2.2.2).1 [(eC j.2.1 j.2.2.1 j.2.2.2.1 j.2.2.2.2).2.1])
 else (1,[],[])
def qP:PC:={ ts:=[ai],rs:=[.bool],pre:=fun _=>True,F:=fun x=>ll x }
def qQ:PC:={ ts:=[al],rs:=[.bool],pre:=fun _=>True,F:=fun x=>ep x }
def o5:PC:={ ts:=[n6],rs:=[.bool],pre:=fun _=>True,F:=fun x=>bI x }
def ug:PC:={ ts:=[n6],rs:=[O5],pre:=fun _=>True,F:=fun x=>aK x }
def sv:PC:={ ts:=[ai,al,al],rs:=[al,.bool],pre:=fun _=>True,F:=fun x=>fW x.1 x.2.1 x.2.2 }
def qO:PC:={ ts:=[al],rs:=[.bool],pre:=fun _=>True,F:=fun x=>dQ x }
def pz:PC:={ ts:=[al,al],rs:=[al,.bool],pre:=fun _=>True,F:=fun x=>dK x.1 x.2 }
def qL:PC:={ ts:=[ai,al],rs:=[.bool],pre:=fun _=>True,F:=fun x=>rm x.1 x.2 }
def pD:PC:={ ts:=[ai,al],rs:=[al,.bool],pre:=fun _=>True,F:=fun x=>dU x.1 x.2 }
def qK:PC:={ ts:=[ai,al,al],rs:=[al],pre:=fun _=>True,F:=fun x=>eR x.1 x.2.1 x.2.2 }
def pE:PC:={ ts:=[ai,al,al],rs:=[al,al],pre:=fun x=>bC x.1 x.2.1=true/\bC x.1 x.2.2=true/\x.2.2.length≠0,F:=fun x=>lD (ae x.1) x.2.1 x.2.2 }
def uf:PC:={ ts:=[ai,al,al],rs:=[al,al,.bool],pre:=fun _=>True,F:=fun x=>dg x.1 x.2.1 x.2.2 }
def Dp(x:List Int×List Int)(i:Nat):Nat->Option bq:=fun
 | 11=>some (.mk Nat (fun j=>j<=min (i+1) x.1.length) (fun st j=>(st.keep 8 []).bM [(8,si (iH x.1 x.2 i j)),(9,si j)]) (fun j=>min (i+1) x.1.length-j) 0 (fun _ _=>none))
 | _=>none
def vH(x:List Int×List Int):Nat->Option bq:=fun
 | 7=>some (.mk Nat (fun i=>i<=x.1.length+x.2.length-1) (fun st i=>((st.keep 6 []).bM [(6,.c (.own 0)),(7,si i)]).b9 [(0,.row true ai (mA x.1 x.2 i))]) (fun i=>x.1.length+x.2.length-1-i) 0 (fun i=>Dp x i))
 | _=>none
def Dr(x:Int×List Int)(i:Nat):Nat->Option bq:=fun
 | 12=>some (.mk Nat (fun j=>j<=i) (fun st j=>(st.keep 9 []).bM [(9,si (kd (ae x.1) x.2 (c8 (ae x.1) x.2 i) i j)),(10,si ((j:Int)+1))]) (fun j=>i-j) 0 (fun _ _=>none))
 | _=>none
def vK(x:Int×List Int):Nat->Option bq:=fun
 | 6=>some (.mk Nat (fun i=>i<=x.2.length) (fun st i=>((st.keep 8 []).bM [(6,.c (.own 0)),(8,si i)]).b9 [(0,.row true ai (c8 (ae x.1) x.2 i))]) (fun i=>x.2.length-i) 0 (fun i=>Dr x i))
 | _=>none
def Dt(x:Int×List Int×List Int)(k:Nat):Nat->Option bq:=fun
 | 14=>some (.mk Nat (fun j=>j<=x.2.2.length) (fun st j=>((st.keep 14 []).bM [(14,si j)]).b9 [(0,.row true ai (fa (ae x.1) x.2.2 (fF (ae x.1) (cZ (ae x.1) x.2.2) x.2.1 x.2.2 k) (x.2.1.length-x.2.2.length-k) (rF (ae x.1) (cZ (ae x.1) x.2.2) x.2.1 x.2.2 k) j)),(1,.row true ai (iZ (ae x.1) (cZ (ae x.1) x.2.2) x.2.1 x.2.2 x.2.1.length (k+1)))]) (fun j=>x.2.2.length-j) 0 (fun _ _=>none))
 | _=>none
def Ds(x:Int×List Int×List Int):Nat->Option bq:=fun
 | 9=>some (.mk Nat (fun k=>k<=x.2.1.length+1-x.2.2.length) (fun st k=>((st.keep 12 []).bM [(8,.c (.own 0)),(9,.c (.own 1)),(12,si ((x.2.1.length:Int)-k))]).b9 [(0,.row true ai (fF (ae x.1) (cZ (ae x.1) x.2.2) x.2.1 x.2.2 k)),(1,.row true ai (iZ (ae x.1) (cZ (ae x.1) x.2.2) x.2.1 x.2.2 x.2.1.length k))]) (fun k=>x.2.1.length+1-x.2.2.length-k) 0 (fun k=>Dt x k))
 | _=>none
def vL(x:Int×List Int×List Int):Nat->Option bq:=fun
 | 4=>some (.mk Nat (fun i=>i<=x.2.1.length) (fun st i=>((st.keep 9 []).bM [(9,.c (.own 1)),(10,si i)]).b9 [(1,.row true ai (List.replicate i 0))]) (fun i=>x.2.1.length-i) 0 (fun _=>Ds x))
 | _=>none
def pq(m:Int)(l:List Int)(k:Nat):Prop:=k<=l.length/\∀ x∈l.take k,-m<=x/\x<=m
def xV(x:List Int):Nat->Option bq:=fun
 | 4=>some (.mk Nat (fun k=>pq 1000000 x k) (fun st k=>(st.keep 3 []).bM [(3,si k)]) (fun k=>x.length-k) 0 (fun _ _=>none))
 | _=>none
def xW(x:List Int):Nat->Option bq:=fun
 | 4=>some (.mk Nat (fun k=>pq 1099511627776 x k) (fun st k=>(st.keep 3 []).bM [(3,si k)]) (fun k=>x.length-k) 0 (fun _ _=>none))
 | _=>none
def xQ(x:Int×List Int×List Int):Nat->Option bq:=fun
 | 5=>some (.mk Nat (fun k=>k<=x.2.2.length) (fun st k=>((st.keep 7 []).bM [(7,.c (.own 0)),(8,si k)]).b9 [(0,.row true ai (kJ (ae x.1) x.2.1 x.2.2 k))]) (fun k=>x.2.2.length-k) 0 (fun _ _=>none))
 | _=>none
end Go.SF
/- Contracts: codes of jobs. No condition. -/
namespace Go.SF
open Go.SX Go
set_option linter.unusedVariables false
def pV(x:Int):Nat:=if x<0 then (-2*x-1).toNat else (2*x).toNat
def e7(u:Nat):List Int:=if h:u<128 then [(u:Int)] else ((u%128+128:Nat):Int)::e7 (u/128)
termination_by u
decreasing_by omega
def du(x:Int):Prop := -1099511627776<=x/\x<=1099511627776
instance (x:Int):Decidable (du x):=by unfold du;infer_instance
def cf(x:Int):List Int:=if du x then e7 (pV x) else []
def kC(l:List Int):List Int:=cf l.length++l.flatMap cf
def Jk(j:Jb):List Int:=[j.1,j.2.1]++cf j.2.2.2.2++kC j.2.2.1++kC j.2.2.2.1
def lq:PC:={ ts:=[ai],rs:=[aC],pre:=fun _=>True,F:=fun x=>cf x }
def jb:PC:={ ts:=[aC],rs:=[aC],pre:=fun x=>x.length<=1048576,F:=fun x=>x }
def oL:PC:={ ts:=[aC,aC],rs:=[aC],pre:=fun x=>x.1.length<=1048576/\x.2.length<=1048576,F:=fun x=>x.1++x.2 }
def nW:PC:={ ts:=[aC,al],rs:=[aC],pre:=fun x=>x.1.length<=524288/\x.2.length<=400,F:=fun x=>x.1++kC x.2 }
def eX(j:Jb):List Int:=if bI j=true then Jk j else []
def pA:PC:={ ts:=[n6],rs:=[aC],pre:=fun _=>True,F:=fun x=>eX x }
def mj(x:Int)(k:List Int×Nat):Prop:=k.1++e7 k.2=e7 (pV x)/\k.2<=4398046511104/\k.1.length<=100
def vI(x:Int):Nat->Option bq:=fun
 | 7=>some (.mk (List Int×Nat) (fun k=>mj x k/\du x) (fun st k=>((st.keep 3 []).bM [(3,.c (.own 0)),(4,si k.2)]).b9 [(0,.row true kT k.1)]) (fun k=>k.2) ([],pV x) (fun _ _=>none))
 | _=>none
def mn(x:List Int):Nat->Option bq:=fun
 | 3=>some (.mk Nat (fun k=>k<=x.length) (fun st k=>((st.keep 3 []).bM [(4,si k),(3,.c (.own 0))]).b9 [(0,.row true kT (x.take k))]) (fun k=>x.length-k) 0 (fun _ _=>none))
 | _=>none
def zO(x:List Int×List Int):Nat->Option bq:=fun
 | 3=>some (.mk Nat (fun k=>k<=x.2.length) (fun st k=>((st.keep 5 []).bM [(6,si k),(5,.c (.own 0))]).b9 [(0,.row true kT (x.1++x.2.take k))]) (fun k=>x.2.length-k) 0 (fun _ _=>none))
 | _=>none
def nN(x:List Int×List Int)(k:Nat):List Int:=x.1++cf x.2.length++(x.2.take k).flatMap cf
def Bm(x:List Int×List Int)(k:Nat):Nat->Option bq:=fun
 | 6=>some (.mk Nat (fun i=>i<=(cf (x.2.getD k 0)).length) (fun st i=>((st.keep 25 [7]).bM [(0,.c (.own 1)),(25,si i)]).b9 [(1,.row true kT (nN x k++(cf (x.2.getD k 0)).take i))]) (fun i=>(cf (x.2.getD k 0)).length-i) 0 (fun _ _=>none))
 | _=>none
def vf(x:List Int×List Int):Nat->Option bq:=fun
 | 3=>some (.mk Nat (fun k=>k<=x.2.length) (fun st k=>((st.keep 5 []).bM [(5,si k),(0,.c (.own 1))]).b9 [(1,.row true kT (nN x k))]) (fun k=>x.2.length-k) 0 (fun k=>Bm x k))
 | _=>none
end Go.SF
/- Contracts: jobs and caches drawn, of which no more is told than bounds. No condition. -/
namespace Go.SF
open Go.SX Go
set_option linter.unusedVariables false
def aj(n:Nat)(r:List Int):Prop:=r.length<=n
def fg:QB:={ t:=ar,ts:=[ai,ai],rs:=[al],pre:=fun d x=>af d/\(show Int from x.2)<=1100,Q:=fun d x g r=>af g/\aj 1100 r/\(show List Int from r).length=(show Int from x.2).toNat }
def mL:QB:={ t:=ar,ts:=[ai],rs:=[ai],pre:=fun d x=>af d,Q:=fun d x g r=>af g }
def kL:QB:={ t:=ar,ts:=[ai],rs:=[aC],pre:=fun d x=>af d/\(show Int from x)<=1100,Q:=fun d x g r=>af g/\aj 1100 r }
def kM:QB:={ t:=ar,ts:=[ai],rs:=[al],pre:=fun d x=>af d/\(show Int from x)<=1100,Q:=fun d x g r=>af g/\aj 1100 r }
def jV:QB:={ t:=ar,ts:=[ai,ai,ai],rs:=[al],pre:=fun d x=>af d/\(show Int from x.2.1)<=1100,Q:=fun d x g r=>af g/\aj 1100 r }
def gQ:QB:={ t:=ar,ts:=[ai,ai],rs:=[al],pre:=fun d x=>af d/\(show Int from x.2)<=1000,Q:=fun d x g r=>af g/\aj 1000 r/\((1:Int)<=(show Int from x.2)->1<=(show List Int from r).length) }
def Ob(r:Int×List Int×List Int×Int×List Int):Prop:=aj 1100 r.2.1/\aj 1100 r.2.2.1/\aj 1100 r.2.2.2.2
def lG:QB:={ t:=ar,ts:=[],rs:=[ai,al,al,ai,al],pre:=fun d _=>af d,Q:=fun d x g r=>af g/\Ob r }
def Jc(key o i n:Nat)(e:Ty)(c:cL)(m:Int)(J:Nat->List e.den->Prop):Nat->Option bq:=fun k =>
 if k=key then some (.mk (Nat×cL×List e.den) (fun y=>y.1<=m.toNat/\af y.2.1/\J y.1 y.2.2) (fun st y=>((st.keep n []).bM [(o,.c (.own 1)),(i,si y.1)]).b9 [(0,fE y.2.1),(1,.row true e y.2.2)]) (fun y=>m.toNat-y.1) (0,c,[]) (fun _ _=>none))
 else none
def wm(i:Nat)(l:List Int):Prop:=l.length=i
def zi(i:Nat)(l:List Int):Prop:=l.length<=i/\(1<=i->1<=l.length)
def qA(c:cL)(x:Int):Nat->Option bq:=Jc 3 5 6 5 kT c x wm
def qB(c:cL)(x:Int):Nat->Option bq:=Jc 3 5 6 5 ai c x wm
def pQ(c:cL)(x:Int×Int):Nat->Option bq:=Jc 3 7 8 7 ai c x.2 zi
def Jd(y:cL×Int×List Int×List Int×List Int):Prop:=af y.1/\aj 1100 y.2.2.1/\aj 1100 y.2.2.2.1/\aj 1100 y.2.2.2.2/\1<=y.2.2.2.2.length
def mo(l:List Int):ax:=.row true ai l
def zU(y:cL×Int×List Int×List Int×List Int)(m:Int):Nat->Option bq:=fun
 | 14=>some (.mk (Nat×cL×List Int) (fun z=>z.1<=m.toNat/\af z.2.1/\aj 1100 z.2.2/\1<=z.2.2.length) (fun st z=>((st.keep 13 []).bM [(13,si z.1)]).b9 [(0,fE z.2.1),(3,mo z.2.2)]) (fun z=>m.toNat-z.1) (0,y.1,y.2.2.2.2) (fun _ _=>none))
 | _=>none
def zT(y:cL×Int×List Int×List Int×List Int):Nat->Option bq:=fun
 | 100013=>some (.mk (cL×Int) (fun z=>af z.1/\z.2<=4000) (fun st z=>((st.keep 12 []).bM [(12,si z.2)]).b9 [(0,fE z.1)]) (fun _=>0) (([],0,0),0) (fun z=>zU (z.1,y.2) z.2))
 | _=>none
def zR:Nat->Option bq:=fun
 | 100010=>some (.mk (cL×Int×List Int×List Int×List Int) (fun y=>Jd y/\(1:Int)<=y.2.1/\y.2.1<=1100) (fun st y=>((st.keep 8 []).bM [(8,.c (.own 1)),(9,si y.2.1),(10,.c (.own 2)),(11,.c (.own 3))]).b9 [(0,fE y.1),(1,mo y.2.2.1),(2,mo y.2.2.2.1),(3,mo y.2.2.2.2)]) (fun _=>0) (([],0,0),0,[],[],[]) (fun y=>zT y))
 | _=>none
def D_(y:cL×Int×List Int):Prop:=af y.1/\1<=y.2.1/\y.2.1<=1100/\aj 1000 y.2.2/\1<=y.2.2.length
def ry(c:cL)(_:Unit):Nat->Option bq:=fun
 | 100006=>some (.mk (cL×Int×List Int) (fun y=>D_ y) (fun st y=>((st.keep 8 []).bM [(8,.c (.own 1)),(9,si y.2.1)]).b9 [(0,fE y.1),(1,mo y.2.2)]) (fun _=>0) (([],0,0),0,[]) (fun _=>zR))
 | _=>none
end Go.SF
/- Contracts: the laws of results looked up and stored, where their code is cut. No condition. -/
namespace Go.SF
open Go.SX Go
set_option linter.unusedVariables false
end Go.SF
/- Contracts: jobs answered through a cache. No condition. -/
namespace Go.SF
open Go.SX Go
set_option linter.unusedVariables false
end Go.SF
/- Contracts: jobs and caches drawn, the second part. No condition. -/
namespace Go.SF
open Go.SX Go
set_option linter.unusedVariables false
def jv(j:Jb):Prop:=aj 1300 j.2.2.1/\aj 1300 j.2.2.2.1
def mO:QB:={ t:=ar,ts:=[ai],rs:=[n6],pre:=fun d x=>af d/\(show Int from x)<=50,Q:=fun d x g r=>af g/\jv r }
def Qo(j:Jb):ax:=.bx [ci j.1,ci j.2.1,.own 3,.own 4,ci j.2.2.2.2]
def D1(b:Nat)(A:Nat->Option bq):Option bq:=some (.mk (cL×Jb) (fun y=>af y.1/\aj b y.2.2.2.1/\aj b y.2.2.2.2.1) (fun st y=>(st.keep 6 []).b9 [(0,fE y.1),(2,Qo y.2),(3,mo y.2.2.2.1),(4,mo y.2.2.2.2.1)]) (fun _=>0) (([],0,0),0,0,[],[],0) (fun _=>A))
def Ki(t:Nat)(A:Nat->Option bq):Option bq:=some (.mk Bool (fun _=>True) (fun st b=>(st.keep 7 [21]).bM [(t,.c (.val (.bool b)))]) (fun _=>0) false (fun _=>A))
def fc:Nat->Nat->Option bq
 | 0,_=>none
 | f+1,k =>
   if k=300006 then Ki 22 (fc f)
   else if k=300009 then Ki 33 (fc f)
   else if k=300013 then Ki 52 (fc f)
   else if k=100014 then D1 1100 (fc f)
   else if k=100023 then D1 1100 (fc f)
   else if k=100026 then D1 1000 (fc f)
   else if k=100033 then D1 1200 (fun _=>none)
   else none
def sU(c:cL)(x:Int):Nat->Option bq:=fc 6
def xv(l:List Jb):Prop:=l.length<=60/\∀ j∈l,jv j
def lH:QB:={ t:=ar,ts:=[ai],rs:=[.sl n6],pre:=fun d x=>af d/\(show Int from x)<=50,Q:=fun d x g r=>af g/\xv r }
def zc(i:Nat)(l:List Jb):Prop:=l.length=i/\∀ j∈l,jv j
def rz(c:cL)(x:Int):Nat->Option bq:=Jc 3 5 6 5 n6 c x zc
def H_(e:En):Prop:=aj 10000 e.1/\aj 4000 e.2.2.1/\aj 4000 e.2.2.2
def aO(n:Nat)(es:List En):Prop:=es.length<=n/\∀ e∈es,H_ e
def kN:QB:={ t:=ar,ts:=[ai],rs:=[bE],pre:=fun d x=>af d/\(show Int from x)<=50,Q:=fun d x g r=>af g/\aO 32 r.2 }
def Ef(c:Int):ax:=.bx [ci c,.own 5]
def sR(es:List En):ax:=.row true gZ es
def ua(es:List En):Prop:=aO 31 es/\∀ e∈es,e.1.length<=6000
def yO(R4:List Jb)(c:cL)(cap:Int):Nat->Option bq:=fun
 | 4=>some (.mk (Nat×cL×Ca) (fun y=>y.1<=R4.length/\af y.2.1/\ua y.2.2.2) (fun st y=>((st.keep 7 []).bM [(7,si y.1)]).b9 [(0,fE y.2.1),(3,Ef y.2.2.1),(5,sR y.2.2.2)]) (fun y=>R4.length-y.1) (0,c,cap,[]) (fun _=>fun
   | 100012=>some (.mk (cL×Ca) (fun y=>af y.1/\aO 31 y.2.2) (fun st y=>(st.keep 6 []).b9 [(0,fE y.1),(3,Ef y.2.1),(4,.dead),(5,sR y.2.2)]) (fun _=>0) (([],0,0),0,[]) (fun _ _=>none))
   | _=>none))
 | _=>none
def qC(c:cL)(x:Int):Nat->Option bq:=fun
 | 100003=>some (.mk (cL×List Jb×Int) (fun y=>af y.1/\xv y.2.1) (fun st y=>((st.keep 6 []).bM [(6,.c (.own 4))]).b9 [(0,fE y.1),(3,Ef y.2.2),(4,.row true n6 y.2.1),(5,sR [])]) (fun _=>0) (([],0,0),[],0) (fun y=>yO y.2.1 y.1 y.2.2))
 | _=>none
def mP:QB:={ t:=ar,ts:=[bE],rs:=[aC],pre:=fun d x=>af d/\aO 32 x.2,Q:=fun d x g r=>af g/\aj 10000 r }
def Bn(c:cL):Nat->Option bq:=fun
 | 6=>some (.mk (Nat×cL×List Int) (fun y=>y.1<=5002/\af y.2.1/\y.2.2.length=y.1) (fun st y=>((st.keep 5 []).bM [(5,.c (.own 2)),(6,si y.1)]).b9 [(0,fE y.2.1),(2,.row true kT y.2.2)]) (fun y=>5002-y.1) (0,c,[]) (fun _ _=>none))
 | _=>none
def sV(c:cL)(x:Ca):Nat->Option bq:=fun
 | 100005=>some (.mk cL (fun y=>af y) (fun st y=>((st.keep 5 []).bM [(5,.c (.own 2))]).b9 [(0,fE y),(2,.row true kT [])]) (fun _=>0) ([],0,0) (fun y=>Bn y))
 | _=>none
def mQ:QN:={ t:=ar,ts:=[.sl (.int .u8)],rs:=[bE],pre:=fun x=>(show List Int from x).length<=9223372036854775807,Q:=fun x g r=>af g/\aO 32 r.2 }
def jU(r:Ca×List Int×Rs):Prop:=aO 32 r.1.2/\aj 10000 r.2.1/\aj 4000 r.2.2.2.1/\aj 4000 r.2.2.2.2
def nV:QC:={ ts:=[.sl (.int .u8)],rs:=[bE,aC,cA],pre:=fun x=>(show List Int from x).length<=9223372036854775807,Q:=fun x r=>jU r }
def Je(c:Int):ax:=.bx [ci c,.own 5]
def Dq:Nat->Option bq:=fun
 | 100011=>some (.mk (cL×Ca×Rs) (fun y=>af y.1/\aO 32 y.2.1.2/\aj 4000 y.2.2.2.1/\aj 4000 y.2.2.2.2) (fun st y=>(st.keep 7 [8]).b9 [(2,fE y.1),(4,Je y.2.1.1),(5,sR y.2.1.2),(6,mo y.2.2.2.1),(7,mo y.2.2.2.2),(8,.bx [ci y.2.2.1,.own 6,.own 7])]) (fun _=>0) (([],0,0),(0,[]),0,[],[]) (fun _ _=>none))
 | _=>none
def u_(x:List Int):Nat->Option bq:=fun
 | 5=>some (.mk (Nat×List En) (fun y=>y.1<=30/\aO y.1 y.2) (fun st y=>((st.keep 7 []).bM [(7,si y.1)]).b9 [(3,.dead),(4,Je 40),(5,sR y.2)]) (fun y=>30-y.1) (0,[]) (fun _ _=>none))
 | 100008=>some (.mk (cL×Ca) (fun y=>af y.1/\aO 32 y.2.2) (fun st y=>(st.keep 7 []).b9 [(2,fE y.1),(3,.dead),(4,Je y.2.1),(5,sR y.2.2)]) (fun _=>0) (([],0,0),0,[]) (fun _=>Dq))
 | _=>none
end Go.SF
/- Contracts: the entry stored last is at the front. No condition. -/
namespace Go.SF
open Go.SX Go
set_option linter.unusedVariables false
def CH:PC:={ ts:=[bE,aC,cA],rs:=[bE,.bool],pre:=fun x=>bH x.1.2/\x.2.1.length<=1048576/\dF x.2.2,F:=fun x=>aQ x.1 x.2.1 x.2.2 }
def Ai:PC:={ ts:=[bE,aC],rs:=[bE,cA,.bool],pre:=fun x=>bH x.1.2/\x.2.length<=1048576,F:=fun x=>ea x.1 x.2 }
def sn:PC:={ ts:=[aC],rs:=[aC],pre:=fun x=>x.length<=1048576,F:=fun x=>x }
def py:PC:={ ts:=[aC,aC],rs:=[.bool],pre:=fun _=>True,F:=fun x=>decide (x.1=x.2) }
def vG(x:List Int×List Int):=QL (e:=kT) x 4 5 5
def so:PC:={ ts:=[cA,cA],rs:=[.bool],pre:=fun _=>True,F:=fun x=>lF x.1 x.2 }
end Go.SF
/- Contracts: jobs from their codes. No condition. -/
namespace Go.SF
open Go.SX Go
set_option linter.unusedVariables false
end Go.SF
/- Contracts: caches that hold what jobs give. No condition. -/
namespace Go.SF
open Go.SX Go
set_option linter.unusedVariables false
end Go.SF
