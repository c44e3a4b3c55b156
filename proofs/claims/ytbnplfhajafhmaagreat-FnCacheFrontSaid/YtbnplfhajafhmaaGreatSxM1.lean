/- What is owed of the code of shared functions. No condition. -/
import Derived.Test.YtbnplfhajafhmaaGreatSxC
set_option linter.unusedVariables false
set_option linter.unusedSimpArgs false
open Go.IntKind (i64 u8)
namespace Go.SF
open Go.SX Go
theorem MJ :
 ∀(d:Ty.den ai×aY [ai,ai]),Ty.wf ai d.1/\Ty.wf ai d.2.1/\Ty.wf ai d.2.2->True->(decide (d.2.1<=d.1)=true->decide (d.1<=d.2.2)=(decide (d.2.1<=d.1)&&decide (d.1<=d.2.2)))/\(decide (d.2.1<=d.1)=false->false=(decide (d.2.1<=d.1)&&decide (d.1<=d.2.2))):=by
  intro d _ _
  obtain⟨a,b,c⟩:=d
  grind
set_option maxRecDepth 10000
set_option maxRecDepth 10000
theorem f_{f:Int}(h:0<=f/\f<9):f=0\/f=1\/f=2\/f=3\/f=4\/f=5\/f=6\/f=7\/f=8:=by omega
theorem ui{f:Int}(h:¬(0<=f/\f<9)):mR f=((0,0,0),false):=by unfold mR;rw[if_neg h]
theorem uE{f:Int}(h:¬(0<=f/\f<9)):ae f=0:=by unfold ae;rw[ui h]
theorem N6{f:Int}(h:¬(0<=f/\f<9)):dE f = -1:=by unfold dE;rw[ui h];rfl
theorem n9{f:Int}(h:0<=f/\f<9):17<=ae f/\ae f<=1004535809/\4<=dE f/\dE f<=26:=by
 rcases f_ h with rfl|rfl|rfl|rfl|rfl|rfl|rfl|rfl|rfl<;>decide
theorem nY{f:Int}:(mR f).2=true↔0<=f/\f<9:=by
 unfold mR
 split
 case isTrue h=>exact⟨fun _=>h,fun _=>rfl⟩
 case isFalse h=>exact⟨fun e=>(by cases e),fun e=>absurd e h⟩
theorem Kl:∀ f:Fin 9,∀ x:Fin 27,(x.val:Int)<=dE (f.val:Int)->(((ae (f.val:Int)-1)/2^x.val).tmod 2=0↔(x.val:Int)<dE (f.val:Int)):=by decide +kernel
theorem IN{f:Int}(h:0<=f/\f<9){x:Nat}(hx:(x:Int)<=dE f):((ae f-1)/2^x).tmod 2=0↔(x:Int)<dE f:=by
 have hb:=n9 h
 have:=Kl ⟨f.toNat,by omega⟩ ⟨x,by omega⟩
 simp only[Int.toNat_of_nonneg h.1] at this
 exact this hx
theorem Nd{m:Int}(h0:0<=m)(x:Nat):(m/2^x).tdiv 2=m/2^(x+1):=by
 have hp:(0:Int)<=2^x:=Int.le_of_lt (Int.pow_pos (by omega))
 rw[Int.tdiv_eq_ediv_of_nonneg (Int.ediv_nonneg h0 hp),Int.ediv_ediv_of_nonneg hp,Int.pow_succ]
theorem FA(n:Int):∀(m k:Nat),10-m<=k->m<=10->k<=9->n=2^k->(∀ j,10-m<=j->j<k->n≠2^j)->oR n m=(k:Int)
 | 0,k,h1,_,h2,_,_=>by omega
 | m+1,k,h1,hm,h2,h3,h4=>by
   unfold oR
   by_cases e:k=9-m
   ·subst e
    rw[if_pos h3]
   ·rw[if_neg (h4 (9-m) (by omega) (by omega))]
    exact FA n m k (by omega) (by omega) h2 h3 (fun j a b=>h4 j (by omega) b)
theorem AJ(n:Int):∀(m:Nat),m<=10->(∀ j,10-m<=j->j<10->n≠2^j)->oR n m = -1
 | 0,_,_=>rfl
 | m+1,hm,h=>by
   unfold oR
   rw[if_neg (h (9-m) (by omega) (by omega))]
   exact AJ n m (by omega) (fun j a b=>h j (by omega) b)
theorem R6{n:Int}{k:Nat}(h:vD n k)(hk:k<=9)(e:n=2^k):cC n=(k:Int):=FA n 10 k (by omega) (by omega) hk e (fun j _ b=>h.2 j b)
theorem NF{n:Int}{k:Nat}(h:vD n k)(hk:¬k<=9):cC n = -1:=AJ n 10 (by omega) (fun j _ b=>h.2 j (by omega))
theorem ND{n:Int}{k:Nat}(h:vD n k)(hk:k<=9)(e:¬n=2^k):vD n (k+1):=by
 refine⟨by omega,fun j hj=>?_⟩
 by_cases ej:j=k
 ·subst ej;exact e
 ·exact h.2 j (by omega)
theorem za{x:Nat}(h:x<=62):ju .i64 1 (x:Int)=2^x:=by
 unfold ju
 rw[Int.toNat_natCast,show min x i64.bits=x by show min x 64=x;omega,Int.one_mul]
 have h1:(2:Nat)^x<=2^62:=Nat.pow_le_pow_right (by omega) h
 have h5:((2^x:Nat):Int)=(2:Int)^x:=Int.natCast_pow 2 x
 have h6:((2^x:Nat):Int)<=4611686018427387904:=by
  have h3:(2:Nat)^62=4611686018427387904:=by decide
  rw[h3] at h1
  exact Int.ofNat_le.2 h1
 have h7:0<=((2^x:Nat):Int):=Int.natCast_nonneg _
 refine wrap_small ?_
 rw[<-h5]
 generalize ((2^x:Nat):Int)=z at *
 omega
theorem w9:∀ x:Fin 64,IntKind.u64.wrap (x.val:Int)=(x.val:Int):=by decide +kernel
theorem oz{α:Type}{xs:List α}{x:Nat}{z:α}(h:x<xs.length):xs.take x++[xs.getD x z]=xs.take (x+1):=by
 rw[List.take_add_one,List.getElem?_eq_getElem h,List.getD_eq_getElem?_getD,List.getElem?_eq_getElem h];rfl
theorem Ji{p:Int}{xs:List Int}{x:Nat}(hx:x<xs.length)(h:bw p (xs.take x)=true)(h1:0<=xs.getD x 0/\xs.getD x 0<=p-1):bw p (xs.take (x+1))=true:=by
 unfold bw at *
 rw[decide_eq_true_eq] at *
 rw[<-oz (z:=(0:Int)) hx]
 intro y hy
 rcases List.mem_append.1 hy with hy|hy
 ·exact h y hy
 ·rw[List.mem_singleton.1 hy];exact h1
theorem M7{p:Int}{xs:List Int}{x:Nat}(hx:x<xs.length)(h1:¬(0<=xs.getD x 0/\xs.getD x 0<=p-1)):false=bw p xs:=by
 unfold bw
 refine (decide_eq_false (fun h=>h1 ?_)).symm
 rw[List.getD_eq_getElem?_getD,List.getElem?_eq_getElem hx]
 exact h _ (List.getElem_mem hx)
theorem KX{p:Int}{xs:List Int}{x:Nat}(h:KI p xs x)(hx:¬x<xs.length):true=bw p xs:=by
 have h2:=h.2
 rw[List.take_of_length_le (by omega)] at h2
 exact h2.symm
theorem HI :
 ∀(d:Int),Ty.wf ai d->True->(decide (d=(0:Int))=true->(17:Int)=ae d)/\(decide (d=(0:Int))=false->(decide (d=(1:Int))=true->(97:Int)=ae d)/\(decide (d=(1:Int))=false->(decide (d=(2:Int))=true->(193:Int)=ae d)/\(decide (d=(2:Int))=false->(decide (d=(3:Int))=true->(257:Int)=ae d)/\(decide (d=(3:Int))=false->(decide (d=(4:Int))=true->(7681:Int)=ae d)/\(decide (d=(4:Int))=false->(decide (d=(5:Int))=true->(12289:Int)=ae d)/\(decide (d=(5:Int))=false->(decide (d=(6:Int))=true->(998244353:Int)=ae d)/\(decide (d=(6:Int))=false->(decide (d=(7:Int))=true->(469762049:Int)=ae d)/\(decide (d=(7:Int))=false->(decide (d=(8:Int))=true->(1004535809:Int)=ae d)/\(decide (d=(8:Int))=false->(0:Int)=ae d))))))))):=by
  intro (f:Int) _ _
  simp only[exists_const,forall_const,decide_eq_true_eq,decide_eq_false_iff_not,beq_iff_eq,sxS]
  by_cases h:0<=f/\f<9
  ·rcases f_ h with rfl|rfl|rfl|rfl|rfl|rfl|rfl|rfl|rfl<;>decide
  ·rw[uE h];omega
theorem GN :
 ∀(d:Int),Ty.wf ai d->True->True/\(Ty.wf ai (ae d)->(decide (ae d=(0:Int))=true->(-1:Int)=dE d)/\(decide (ae d=(0:Int))=false->(↑(0:Nat):Int)<=dE d/\(d=d/\ah (0:Int)/\ah (ae d)/\(0:Int)=(↑(0:Nat):Int)/\i64.wrap (ae d-(1:Int))=(ae d-(1:Int))/(2:Int)^(0:Nat))/\∀(x:Nat),(x:Int)<=dE d->(2:Int)≠(0:Int)/\(decide (Int.tmod ((ae d-(1:Int))/(2:Int)^x) (2:Int)=(0:Int))=true->(2:Int)≠(0:Int)/\∃(x':Nat),(x':Int)<=dE d/\Int.toNat (dE d)-x'<Int.toNat (dE d)-x/\d=d/\ah (0:Int)/\ah (ae d)/\i64.wrap ((x:Int)+(1:Int))=(x':Int)/\i64.wrap (Int.tdiv ((ae d-(1:Int))/(2:Int)^x) (2:Int))=(ae d-(1:Int))/(2:Int)^x')/\(decide (Int.tmod ((ae d-(1:Int))/(2:Int)^x) (2:Int)=(0:Int))=false->(x:Int)=dE d))):=by
  intro (f:Int) _ _
  simp only[exists_const,forall_const,decide_eq_true_eq,decide_eq_false_iff_not,beq_iff_eq,sxS]
  intro _
  by_cases h:0<=f/\f<9
  ·have hb:=n9 h
   have Aw:(0:Int)<=ae f-1:=by omega
   refine⟨fun e=>by omega,fun _=>⟨by omega,⟨rfl,by rw[wrap_small (by omega)];simp⟩,fun x hx=>⟨by omega,fun e=>?_,fun e=>?_⟩⟩⟩
   ·have h1:=(IN h hx).1 e
    refine⟨by omega,x+1,by omega,by omega,by rw[wrap_small (by omega)];omega,?_⟩
    rw[Nd Aw]
    have hp:(0:Int)<=2^(x+1):=Int.le_of_lt (Int.pow_pos (by omega))
    have h2:=Int.ediv_nonneg Aw hp
    have h3:=Int.ediv_le_self (2^(x+1)) Aw
    exact wrap_small (by omega)
   ·have h1:¬(x:Int)<dE f:=fun aZ=>e ((IN h hx).2 aZ)
    omega
  ·have h1:=uE h
   have h2:=N6 h
   exact⟨fun _=>h2.symm,fun e=>absurd h1 e⟩
theorem MH :
 ∀(d:Int),Ty.wf ai d->True->vD d (0:Nat)/\(d=d/\(0:Int)=(↑(0:Nat):Int))/\∀(x:Nat),vD d x->(decide ((x:Int)<=(9:Int))=true->(0:Int)<=IntKind.wrap IntKind.u64 (x:Int)/\(decide (d=ju i64 (1:Int) (IntKind.wrap IntKind.u64 (x:Int)))=true->(x:Int)=cC d)/\(decide (d=ju i64 (1:Int) (IntKind.wrap IntKind.u64 (x:Int)))=false->∃(x':Nat),vD d x'/\(10:Nat)-x'<(10:Nat)-x/\d=d/\i64.wrap ((x:Int)+(1:Int))=(x':Int)))/\(decide ((x:Int)<=(9:Int))=false->(-1:Int)=cC d):=by
  intro (n:Int) _ _
  simp only[exists_const,forall_const,decide_eq_true_eq,decide_eq_false_iff_not,beq_iff_eq,sxS]
  refine⟨⟨by omega,fun j hj=>by omega⟩,rfl,fun x hx=>⟨fun h=>?_,fun h=>(NF hx (by omega)).symm⟩⟩
  have h9:x<=9:=by omega
  have hw:IntKind.u64.wrap (x:Int)=(x:Int):=w9 ⟨x,by omega⟩
  rw[hw,za (by omega)]
  exact⟨by omega,fun e=>(R6 hx h9 e).symm,fun e=>⟨x+1,ND hx h9 e,by omega,wrap_small (by omega)⟩⟩
theorem Be :
 ∀(d:Int×List Int),Ty.wf ai d.1/\Ty.wf al d.2->True->True/\(Ty.wf ai (ae d.1)->(decide (ae d.1=(0:Int))=true->false=aB d.1 d.2)/\(decide (ae d.1=(0:Int))=false->KI (ae d.1) d.2 (0:Nat)/\(d.1=d.1/\d.2=d.2/\ah (ae d.1)/\(0:Int)=(↑(0:Nat):Int))/\∀(x:Nat),KI (ae d.1) d.2 x->(decide ((x:Int)<(d.2.length:Int))=true->((0:Int)<=(x:Int)/\(x:Int)<(d.2.length:Int))/\True/\((!(decide ((0:Int)<=d.2.getD ((x:Int).toNat) (0:Int))&&decide (d.2.getD ((x:Int).toNat) (0:Int)<=i64.wrap (ae d.1-(1:Int)))))=true->false=aB d.1 d.2)/\((!(decide ((0:Int)<=d.2.getD ((x:Int).toNat) (0:Int))&&decide (d.2.getD ((x:Int).toNat) (0:Int)<=i64.wrap (ae d.1-(1:Int)))))=false->∃(x':Nat),KI (ae d.1) d.2 x'/\d.2.length-x'<d.2.length-x/\d.1=d.1/\d.2=d.2/\ah (ae d.1)/\i64.wrap ((x:Int)+(1:Int))=(x':Int)))/\(decide ((x:Int)<(d.2.length:Int))=false->true=aB d.1 d.2))):=by
  intro (d:Int×List Int) hw _
  obtain⟨f,xs⟩:=d
  have hl:xs.length<=9223372036854775807:=hw.2.1
  simp only[exists_const,forall_const,decide_eq_true_eq,decide_eq_false_iff_not,beq_iff_eq,sxS]
  intro _
  have hb:ae f=0\/(17<=ae f/\ae f<=1004535809):=by
   by_cases h:0<=f/\f<9
   ·have:=n9 h;omega
   ·exact .inl (uE h)
  refine⟨fun e=>by unfold aB;rw[decide_eq_false (by simpa using e)];rfl,fun e=>?_⟩
  have hs:aB f xs=bw (ae f) xs:=by unfold aB;rw[decide_eq_true e];rfl
  rw[hs,wrap_small (n:=ae f-1) (by omega)]
  refine⟨⟨by omega,by simp[bw]⟩,rfl,fun x hx=>⟨fun h=>⟨⟨by omega,by omega⟩,fun h1=>?_,fun h1=>?_⟩,fun h=>KX hx (by omega)⟩⟩
  ·refine M7 (x:=x) (by omega) (fun hh=>?_)
   rw[decide_eq_true hh.1,decide_eq_true hh.2] at h1
   cases h1
  ·simp only[Bool.and_eq_true,decide_eq_true_eq] at h1
   exact⟨x+1,⟨by omega,Ji (by omega) hx.2 h1⟩,by omega,bp (by omega)⟩
theorem GO :
 ∀(d:Int×List Int),Ty.wf ai d.1/\Ty.wf al d.2->True->True/\(Ty.wf ai (cC (d.2.length:Int))->(decide ((0:Int)<=cC (d.2.length:Int))=true->True/\(Ty.wf ai (dE d.1)->(decide (cC (d.2.length:Int)<=dE d.1)=true->True/\aB d.1 d.2=bo d.1 d.2)/\(decide (cC (d.2.length:Int)<=dE d.1)=false->false=bo d.1 d.2)))/\(decide ((0:Int)<=cC (d.2.length:Int))=false->false=bo d.1 d.2)):=by
  intro (d:Int×List Int) hw _
  obtain⟨f,xs⟩:=d
  simp only[exists_const,forall_const,decide_eq_true_eq,decide_eq_false_iff_not,beq_iff_eq,sxS]
  intro _
  unfold bo
  refine⟨fun h _=>⟨fun h1=>by rw[decide_eq_true h,decide_eq_true h1];rfl,fun h1=>by rw[decide_eq_false h1,Bool.and_false];rfl⟩,fun h=>by rw[decide_eq_false h];rfl⟩
set_option maxRecDepth 10000
theorem mc{α:Type}(h:Nat)(f:Nat->α):((List.range h).map f).length=h:=by simp
set_option maxRecDepth 10000
set_option maxRecDepth 10000
theorem HL :
 ∀(d:List Int),Ty.wf al d->d.length<=(1048576:Nat)->(0:Nat)<=d.length/\((d=d/\an/\(0:Int)=(↑(0:Nat):Int))/\[]=List.take (0:Nat) d)/\∀(x:Nat),x<=d.length->(decide ((x:Int)<(d.length:Int))=true->((0:Int)<=(x:Int)/\(x:Int)<(d.length:Int))/\(List.length (List.take x d)+List.length [d.getD ((x:Int).toNat) (0:Int)])*(8:Nat)<=(140737488355328:Nat)/\∃(x':Nat),x'<=d.length/\d.length-x'<d.length-x/\(d=d/\an/\i64.wrap ((x:Int)+(1:Int))=(x':Int))/\List.take x d++[d.getD ((x:Int).toNat) (0:Int)]=List.take x' d)/\(decide ((x:Int)<(d.length:Int))=false->List.take x d=d):=by
  intro (d:List Int) hw (hp:d.length<=1048576)
  simp only[exists_const,forall_const,decide_eq_true_eq,decide_eq_false_iff_not,beq_iff_eq,sxS]
  refine⟨Nat.zero_le _,⟨rfl,rfl⟩,fun x hx=>⟨fun h=>⟨⟨by omega,by omega⟩,?_,x+1,by omega,by omega,bp (by omega),oz (by omega)⟩,fun h=>?_⟩⟩
  ·simp;omega
  ·rw[List.take_of_length_le (by omega)]
set_option maxRecDepth 10000
theorem SA{a b:Int}(ha:0<=a/\a<=255)(hb:0<=b/\b<=255)(h:UInt8.ofNat a.toNat=UInt8.ofNat b.toNat):a=b:=by
 have:=congrArg UInt8.toNat h
 simp only[UInt8.toNat_ofNat'] at this
 omega
theorem FK:∀ {xs ys:List Int},(∀ x∈xs,0<=x/\x<=255)->(∀ y∈ys,0<=y/\y<=255)->(xs.map fun n=>UInt8.ofNat n.toNat)=(ys.map fun n=>UInt8.ofNat n.toNat)->xs=ys
 | [],[],_,_,_=>rfl
 | [],y::ys,_,_,h=>by cases h
 | x::xs,[],_,_,h=>by cases h
 | x::xs,y::ys,hx,hy,h=>by
   rw[List.map_cons,List.map_cons] at h
   injection h with h1 h2
   rw[SA (hx x (List.mem_cons_self ..)) (hy y (List.mem_cons_self ..)) h1,FK (fun z hz=>hx z (List.mem_cons_of_mem _ hz)) (fun z hz=>hy z (List.mem_cons_of_mem _ hz)) h2]
theorem str_inj{xs ys:List Int}(hx:∀ x∈xs,0<=x/\x<=255)(hy:∀ y∈ys,0<=y/\y<=255):strOfNums xs=strOfNums ys↔xs=ys:=by
 constructor
 ·intro h
  have h1:=congrArg (fun s:ByteArray=>s.data.toList) h
  simp only[strOfNums_data] at h1
  exact FK hx hy h1
 ·intro h;rw[h]
theorem zd{key:List Int}:∀ {es:List En} {k:Int},0<=k->(aJ key es k<0↔∀ t,t<es.length->(es.getD t ([],0,[],[])).1≠key)
 | [],k,hk=>⟨fun _ t ht=>absurd ht (Nat.not_lt_zero _),fun _=>by unfold aJ;omega⟩
 | e::es,k,hk=>by
   unfold aJ
   split
   ·rename_i h
    exact⟨fun h1=>by omega,fun h1=>absurd h (h1 0 (by simp))⟩
   ·rename_i h
    rw[zd (es:=es) (k:=k+1) (by omega)]
    constructor
    ·intro h1 t ht
     cases t with
     | zero=>exact h
     | succ t=>exact h1 t (by simpa using ht)
    ·intro h1 t ht
     exact h1 (t+1) (by simpa using ht)
theorem II:∀(a b:List En),cn (a++b)=cn a+cn b
 | [],b=>by rw[List.nil_append];show _=0+_;omega
 | e::a,b=>by rw[List.cons_append];show fm e.2+cn (a++b)=fm e.2+cn a+cn b;rw[II a b];omega
theorem uT{es:List En}{x:Nat}(h:x<es.length):cn (es.take (x+1))=cn (es.take x)+fm (es.getD x ([],0,[],[])).2:=by
 rw[<-oz (z:=([],0,[],[])) h,II];rfl
theorem xG{r:Rs}(h:dF r):fm r<=2097153:=by
 unfold dF at h
 unfold fm
 omega
theorem qG{es:List En}(h:bH es){x:Nat}(hx:x<es.length):nj (es.getD x ([],0,[],[])):=by
 refine h.2 _ ?_
 rw[List.getD_eq_getElem?_getD,List.getElem?_eq_getElem hx]
 exact List.getElem_mem hx
theorem A7{es:List En}(h:bH es):∀ x,x<=es.length->cn (es.take x)<=x*2097153
 | 0,_=>by simp[cn]
 | x+1,hx=>by
   have h1:=A7 h x (by omega)
   have h2:=xG (qG h (x:=x) (by omega)).2
   rw[uT (by omega),Nat.add_mul,Nat.one_mul]
   omega
theorem C1{es:List En}{x:Nat}(h:gu es x)(h1:(es.getD x ([],0,[],[])).1.length<=5000)(h2:∀ j,j<x->(es.getD j ([],0,[],[])).1≠(es.getD x ([],0,[],[])).1):gu es (x+1):=by
 intro i hi
 by_cases e:i=x
 ·subst e;exact⟨h1,h2⟩
 ·exact h i (by omega)
theorem dJ{c:Ca}(h:bL c=true):0<=c.1/\c.1<=5000/\c.2.length<=30/\gu c.2 c.2.length/\(cn c.2:Int)<=c.1:=by
 unfold bL at h
 simp only[Bool.and_eq_true,decide_eq_true_eq] at h
 exact⟨h.1.1.1.1,h.1.1.1.2,h.1.1.2,h.1.2,h.2⟩
theorem gX{c:Ca}(h:bL c=true->False):false=bL c:=by
 cases hc:bL c with
 | false=>rfl
 | true=>exact (h hc).elim
theorem yS{c:Ca}(h1:0<=c.1)(h2:c.1<=5000)(h3:c.2.length<=30)(h4:gu c.2 c.2.length):bL c=decide ((cn c.2:Int)<=c.1):=by
 unfold bL
 rw[decide_eq_true (show 0<=c.1/\c.1<=5000 from⟨h1,h2⟩),decide_eq_true h3,decide_eq_true h4];rfl
theorem HO :
 ∀(d:List Int×List Int),Ty.wf aC d.1/\Ty.wf aC d.2->True->((!decide ((d.1.length:Int)=(d.2.length:Int)))=true->false=decide (d.1=d.2))/\((!decide ((d.1.length:Int)=(d.2.length:Int)))=false->((0:Nat)<=d.1.length/\d.1.length=d.2.length/\List.take (0:Nat) d.1=List.take (0:Nat) d.2)/\(d.1=d.1/\d.2=d.2/\(0:Int)=(↑(0:Nat):Int))/\∀(x:Nat),x<=d.1.length/\d.1.length=d.2.length/\List.take x d.1=List.take x d.2->(decide ((x:Int)<(d.1.length:Int))=true->((0:Int)<=(x:Int)/\(x:Int)<(d.1.length:Int))/\((0:Int)<=(x:Int)/\(x:Int)<(d.2.length:Int))/\((!decide (d.1.getD ((x:Int).toNat) (0:Int)=d.2.getD ((x:Int).toNat) (0:Int)))=true->false=decide (d.1=d.2))/\((!decide (d.1.getD ((x:Int).toNat) (0:Int)=d.2.getD ((x:Int).toNat) (0:Int)))=false->∃(x':Nat),(x'<=d.1.length/\d.1.length=d.2.length/\List.take x' d.1=List.take x' d.2)/\d.1.length-x'<d.1.length-x/\d.1=d.1/\d.2=d.2/\i64.wrap ((x:Int)+(1:Int))=(x':Int)))/\(decide ((x:Int)<(d.1.length:Int))=false->true=decide (d.1=d.2))):=by
  intro (d:List Int×List Int) hw hp
  obtain⟨xs,ys⟩:=d
  have hl:xs.length<=9223372036854775807:=hw.1.1
  simp only[exists_const,forall_const,decide_eq_true_eq,decide_eq_false_iff_not,beq_iff_eq,sxS]
  refine⟨fun h=>?_,fun h=>⟨⟨by omega,by omega,rfl⟩,rfl,fun x ⟨h1,h2,h0⟩=>⟨fun h3=>?_,fun h3=>?_⟩⟩⟩
  ·exact (decide_eq_false (fun e=>h (by rw[e]))).symm
  ·have h4:x<xs.length:=by omega
   obtain⟨t1,t2⟩:=Gx (z:=(0:Int)) h2 h4 h0
   rw[bp (by omega)]
   exact⟨⟨by omega,by omega⟩,⟨by omega,by omega⟩,fun h5=>(decide_eq_false (fun e=>h5 (t2 e))).symm,fun h5=>⟨x+1,⟨by omega,h2,t1.2 h5⟩,by omega,rfl⟩⟩
  ·have h4:x=xs.length:=by omega
   subst h4
   have:xs=ys:=by rw[List.take_length,h2,List.take_length] at h0;exact h0
   exact (decide_eq_true this).symm
theorem B8 :
 ∀(d:List Int×List Int),Ty.wf aC d.1/\Ty.wf aC d.2->True->decide (strOfNums d.1=strOfNums d.2)=decide (d.1=d.2):=by
  intro (d:List Int×List Int) hw _
  obtain⟨xs,ys⟩:=d
  exact decide_eq_decide.2 (str_inj (fun x hx=>hw.1.2 x hx) (fun y hy=>hw.2.2 y hy))
theorem DT :
 ∀(d:Int×List Int×List Int),Ty.wf cA d->dF d->i64.wrap (i64.wrap ((1:Int)+(d.2.1.length:Int))+(d.2.2.length:Int))=(fm d:Int):=by
  intro (d:Rs) hw (hp:dF d)
  have h:=xG hp
  unfold fm at *
  rw[wrap_small (n:=1+(d.2.1.length:Int)) (by omega),wrap_small (by omega)]
  omega
theorem HB :
 ∀(d:List Int×Int×List Int×List Int),Ty.wf gZ d->nj d->i64.wrap (i64.wrap ((1:Int)+(d.2.2.1.length:Int))+(d.2.2.2.length:Int))=(fm d.2:Int):=by
  intro (d:En) hw (hp:nj d)
  have h:=xG hp.2
  unfold fm at *
  rw[wrap_small (n:=1+(d.2.2.1.length:Int)) (by omega),wrap_small (by omega)]
  omega
theorem GH :
 ∀(d:Int×List (List Int×Int×List Int×List Int)),Ty.wf bE d->bH d.2->(0:Nat)<=d.2.length/\(((d.1=d.1/\d.2=d.2)/\ah (0:Int)/\(0:Int)=(↑(cn (List.take (0:Nat) d.2)):Int)/\d.2=d.2/\ah (d.2.length:Int)/\(0:Int)=(↑(0:Nat):Int))/\d.1=d.1/\d.2=d.2)/\∀(x:Nat),x<=d.2.length->(decide ((x:Int)<(d.2.length:Int))=true->((0:Int)<=(x:Int)/\(x:Int)<(d.2.length:Int))/\nj (Prod.fst (d.2.getD ((x:Int).toNat) ([],(0:Int),[],[])),(d.2.getD ((x:Int).toNat) ([],(0:Int),[],[])).2.1,(d.2.getD ((x:Int).toNat) ([],(0:Int),[],[])).2.2.1,(d.2.getD ((x:Int).toNat) ([],(0:Int),[],[])).2.2.2)/\(Ty.wf ai (↑(fm (Prod.fst (d.2.getD ((x:Int).toNat) ([],(0:Int),[],[])).2,(d.2.getD ((x:Int).toNat) ([],(0:Int),[],[])).2.2.1,(d.2.getD ((x:Int).toNat) ([],(0:Int),[],[])).2.2.2)):Int)->∃(x':Nat),x'<=d.2.length/\d.2.length-x'<d.2.length-x/\((d.1=d.1/\d.2=d.2)/\ah (0:Int)/\i64.wrap ((↑(cn (List.take x d.2)):Int)+(↑(fm (Prod.fst (d.2.getD ((x:Int).toNat) ([],(0:Int),[],[])).2,(d.2.getD ((x:Int).toNat) ([],(0:Int),[],[])).2.2.1,(d.2.getD ((x:Int).toNat) ([],(0:Int),[],[])).2.2.2)):Int))=(↑(cn (List.take x' d.2)):Int)/\d.2=d.2/\ah (d.2.length:Int)/\i64.wrap ((x:Int)+(1:Int))=(x':Int))/\d.1=d.1/\d.2=d.2))/\(decide ((x:Int)<(d.2.length:Int))=false->(↑(cn (List.take x d.2)):Int)=(cn d.2:Int)):=by
  intro (d:Ca) hw hp
  obtain⟨cap,es⟩:=d
  replace hp:bH es:=hp
  have hl:=hp.1
  simp only[exists_const,forall_const,decide_eq_true_eq,decide_eq_false_iff_not,beq_iff_eq,sxS]
  refine⟨by omega,⟨by rw[List.take_zero];rfl,rfl⟩,fun x hx=>⟨fun h=>?_,fun h=>by rw[List.take_of_length_le (by omega)]⟩⟩
  have he:=qG hp (x:=x) (by omega)
  have eI:=xG he.2
  have hs:=A7 hp x hx
  have OS:x*2097153<=1048576*2097153:=Nat.mul_le_mul_right _ (by omega)
  have AB:((es.getD x ([],0,[],[])).2.1,(es.getD x ([],0,[],[])).2.2.1,(es.getD x ([],0,[],[])).2.2.2)=(es.getD x ([],0,[],[])).2:=rfl
  rw[AB]
  refine⟨⟨by omega,by omega⟩,he,fun _=>⟨x+1,by omega,by omega,?_,bp (by omega)⟩⟩
  rw[uT (by omega),wrap_small (by omega)];rfl
theorem KC :
 ∀(d:Int×List (List Int×Int×List Int×List Int)),Ty.wf bE d->bH d.2->(0:Nat)<=d.2.length/\(((d.1=d.1/\d.2=d.2)/\ah (0:Int)/\(0:Int)=(↑(cn (List.take (0:Nat) d.2)):Int)/\(0:Int)=(↑(0:Nat):Int))/\d.1=d.1/\d.2=d.2)/\∀(x:Nat),x<=d.2.length->(decide ((x:Int)<(d.2.length:Int))=true->((0:Int)<=(x:Int)/\(x:Int)<(d.2.length:Int))/\dF (Prod.fst (d.2.getD ((x:Int).toNat) ([],(0:Int),[],[])).2,(d.2.getD ((x:Int).toNat) ([],(0:Int),[],[])).2.2.1,(d.2.getD ((x:Int).toNat) ([],(0:Int),[],[])).2.2.2)/\(Ty.wf ai (↑(fm (Prod.fst (d.2.getD ((x:Int).toNat) ([],(0:Int),[],[])).2,(d.2.getD ((x:Int).toNat) ([],(0:Int),[],[])).2.2.1,(d.2.getD ((x:Int).toNat) ([],(0:Int),[],[])).2.2.2)):Int)->∃(x':Nat),x'<=d.2.length/\d.2.length-x'<d.2.length-x/\((d.1=d.1/\d.2=d.2)/\ah (0:Int)/\i64.wrap ((↑(cn (List.take x d.2)):Int)+(↑(fm (Prod.fst (d.2.getD ((x:Int).toNat) ([],(0:Int),[],[])).2,(d.2.getD ((x:Int).toNat) ([],(0:Int),[],[])).2.2.1,(d.2.getD ((x:Int).toNat) ([],(0:Int),[],[])).2.2.2)):Int))=(↑(cn (List.take x' d.2)):Int)/\i64.wrap ((x:Int)+(1:Int))=(x':Int))/\d.1=d.1/\d.2=d.2))/\(decide ((x:Int)<(d.2.length:Int))=false->(↑(cn (List.take x d.2)):Int)=(cn d.2:Int)):=by
  intro (d:Ca) hw hp
  obtain⟨cap,es⟩:=d
  replace hp:bH es:=hp
  have hl:=hp.1
  simp only[exists_const,forall_const,decide_eq_true_eq,decide_eq_false_iff_not,beq_iff_eq,sxS]
  refine⟨by omega,⟨by rw[List.take_zero];rfl,rfl⟩,fun x hx=>⟨fun h=>?_,fun h=>by rw[List.take_of_length_le (by omega)]⟩⟩
  have he:=qG hp (x:=x) (by omega)
  have eI:=xG he.2
  have hs:=A7 hp x hx
  have OS:x*2097153<=1048576*2097153:=Nat.mul_le_mul_right _ (by omega)
  have AB:((es.getD x ([],0,[],[])).2.1,(es.getD x ([],0,[],[])).2.2.1,(es.getD x ([],0,[],[])).2.2.2)=(es.getD x ([],0,[],[])).2:=rfl
  rw[AB]
  refine⟨⟨by omega,by omega⟩,he.2,fun _=>⟨x+1,by omega,by omega,?_,bp (by omega)⟩⟩
  rw[uT (by omega),wrap_small (by omega)];rfl
theorem GG :
 ∀(d:(List Int×Int×List Int×List Int)×List Int),Ty.wf gZ d.1/\Ty.wf (Ty.ptr aC) d.2->True->True/\ah (decide (d.1.1=d.2)):=by
  intro d _ _
  exact⟨trivial,rfl⟩
theorem Ba :
 ∀(d:List (List Int×Int×List Int×List Int)×List Int),Ty.wf (Ty.sl gZ) d.1/\Ty.wf (Ty.bZ (0:Nat) (Ty.ptr aC)) d.2->True->((0:Nat)<=d.1.length/\aJ d.2 (List.drop (0:Nat) d.1) (↑(0:Nat):Int)=aJ d.2 d.1 (0:Int))/\(d.1=d.1/\d.2=d.2/\ah (d.1.length:Int)/\(0:Int)=(↑(0:Nat):Int))/\∀(x:Nat),x<=d.1.length/\aJ d.2 (List.drop x d.1) (x:Int)=aJ d.2 d.1 (0:Int)->(decide ((x:Int)<(d.1.length:Int))=true->((0:Int)<=(x:Int)/\(x:Int)<(d.1.length:Int))/\True/\(decide (Prod.fst (d.1.getD ((x:Int).toNat) ([],(0:Int),[],[]))=d.2)=true->(x:Int)=aJ d.2 d.1 (0:Int))/\(decide (Prod.fst (d.1.getD ((x:Int).toNat) ([],(0:Int),[],[]))=d.2)=false->∃(x':Nat),(x'<=d.1.length/\aJ d.2 (List.drop x' d.1) (x':Int)=aJ d.2 d.1 (0:Int))/\d.1.length-x'<d.1.length-x/\d.1=d.1/\d.2=d.2/\ah (d.1.length:Int)/\i64.wrap ((x:Int)+(1:Int))=(x':Int)))/\(decide ((x:Int)<(d.1.length:Int))=false->(-1:Int)=aJ d.2 d.1 (0:Int)):=by
  intro (d:List En×List Int) hw _
  obtain⟨xs,t⟩:=d
  have hl:xs.length<=9223372036854775807:=hw.1.1
  simp only[exists_const,forall_const,decide_eq_true_eq,decide_eq_false_iff_not,beq_iff_eq,sxS]
  refine⟨⟨by omega,by simp⟩,rfl,fun x ⟨h1,h2⟩=>⟨fun h3=>?_,fun h3=>?_⟩⟩
  ·have h4:x<xs.length:=by omega
   rw[BA (x:=(([],0,[],[]):En)) h4,aJ] at h2
   rw[bp (by omega)]
   refine⟨⟨by omega,by omega⟩,fun h5=>?_,fun h5=>⟨x+1,⟨by omega,?_⟩,by omega,rfl⟩⟩
   ·rw[if_pos h5] at h2;exact h2
   ·rw[if_neg h5] at h2;exact h2
  ·have h4:x=xs.length:=by omega
   rw[h4,List.drop_length,aJ] at h2
   exact h2
theorem Hy :
 ∀(d:List (List Int×Int×List Int×List Int)×List Int),Ty.wf (Ty.sl gZ) d.1/\Ty.wf aC d.2->True->True/\(Ty.wf ai (aJ d.2 d.1 (0:Int))->ah (aJ d.2 d.1 (0:Int))):=by
  intro d _ _
  exact⟨trivial,fun _=>rfl⟩
theorem HF :
 ∀(d:Int×List (List Int×Int×List Int×List Int)),Ty.wf bE d->bH d.2->True/\((!(decide ((0:Int)<=d.1)&&decide (d.1<=(5000:Int))))=true->false=bL d)/\((!(decide ((0:Int)<=d.1)&&decide (d.1<=(5000:Int))))=false->(decide ((30:Int)<(d.2.length:Int))=true->false=bL d)/\(decide ((30:Int)<(d.2.length:Int))=false->((0:Nat)<=d.2.length/\gu d.2 (0:Nat))/\(((d.1=d.1/\d.2=d.2)/\(0:Int)=(↑(cn (List.take (0:Nat) d.2)):Int)/\(0:Int)=(↑(0:Nat):Int))/\d.1=d.1/\d.2=d.2)/\∀(x:Nat),x<=d.2.length/\gu d.2 x->(decide ((x:Int)<(d.2.length:Int))=true->((0:Int)<=(x:Int)/\(x:Int)<(d.2.length:Int))/\(decide ((5000:Int)<(↑(List.length (d.2.getD ((x:Int).toNat) ([],(0:Int),[],[])).1):Int))=true->false=bL d)/\(decide ((5000:Int)<(↑(List.length (d.2.getD ((x:Int).toNat) ([],(0:Int),[],[])).1):Int))=false->((0:Nat)<=x/\∀(t:Nat),t<(0:Nat)->(d.2.getD t ([],(0:Int),[],[])).1≠(d.2.getD x ([],(0:Int),[],[])).1)/\(((d.1=d.1/\d.2=d.2)/\ah (↑(cn (List.take x d.2)):Int)/\ah (x:Int)/\(0:Int)=(↑(0:Nat):Int))/\d.1=d.1/\d.2=d.2)/\∀(x_1:Nat),(x_1<=x/\∀(t:Nat),t<x_1->(d.2.getD t ([],(0:Int),[],[])).1≠(d.2.getD x ([],(0:Int),[],[])).1)->(decide ((x_1:Int)<(x:Int))=true->((0:Int)<=(x:Int)/\(x:Int)<(d.2.length:Int))/\((0:Int)<=(x_1:Int)/\(x_1:Int)<(d.2.length:Int))/\True/\(decide (Prod.fst (d.2.getD ((x:Int).toNat) ([],(0:Int),[],[]))=(d.2.getD ((x_1:Int).toNat) ([],(0:Int),[],[])).1)=true->false=bL d)/\(decide (Prod.fst (d.2.getD ((x:Int).toNat) ([],(0:Int),[],[]))=(d.2.getD ((x_1:Int).toNat) ([],(0:Int),[],[])).1)=false->∃(x':Nat),(x'<=x/\∀(t:Nat),t<x'->(d.2.getD t ([],(0:Int),[],[])).1≠(d.2.getD x ([],(0:Int),[],[])).1)/\x-x'<x-x_1/\((d.1=d.1/\d.2=d.2)/\ah (↑(cn (List.take x d.2)):Int)/\ah (x:Int)/\i64.wrap ((x_1:Int)+(1:Int))=(x':Int))/\d.1=d.1/\d.2=d.2))/\(decide ((x_1:Int)<(x:Int))=false->((0:Int)<=(x:Int)/\(x:Int)<(d.2.length:Int))/\dF (Prod.fst (d.2.getD ((x:Int).toNat) ([],(0:Int),[],[])).2,(d.2.getD ((x:Int).toNat) ([],(0:Int),[],[])).2.2.1,(d.2.getD ((x:Int).toNat) ([],(0:Int),[],[])).2.2.2)/\(Ty.wf ai (↑(fm (Prod.fst (d.2.getD ((x:Int).toNat) ([],(0:Int),[],[])).2,(d.2.getD ((x:Int).toNat) ([],(0:Int),[],[])).2.2.1,(d.2.getD ((x:Int).toNat) ([],(0:Int),[],[])).2.2.2)):Int)->∃(x':Nat),(x'<=d.2.length/\gu d.2 x')/\d.2.length-x'<d.2.length-x/\((d.1=d.1/\d.2=d.2)/\i64.wrap ((↑(cn (List.take x d.2)):Int)+(↑(fm (Prod.fst (d.2.getD ((x:Int).toNat) ([],(0:Int),[],[])).2,(d.2.getD ((x:Int).toNat) ([],(0:Int),[],[])).2.2.1,(d.2.getD ((x:Int).toNat) ([],(0:Int),[],[])).2.2.2)):Int))=(↑(cn (List.take x' d.2)):Int)/\i64.wrap ((x:Int)+(1:Int))=(x':Int))/\d.1=d.1/\d.2=d.2))))/\(decide ((x:Int)<(d.2.length:Int))=false->decide ((↑(cn (List.take x d.2)):Int)<=d.1)=bL d))):=by
  intro (d:Ca) hw hp
  obtain⟨cap,es⟩:=d
  replace hp:bH es:=hp
  simp only[exists_const,forall_const,decide_eq_true_eq,decide_eq_false_iff_not,beq_iff_eq,sxS]
  refine⟨fun h=>gX (fun hc=>?_),fun h=>⟨fun h1=>gX (fun hc=>?_),fun h1=>⟨⟨by omega,fun i hi=>absurd hi (Nat.not_lt_zero _)⟩,⟨by rw[List.take_zero];rfl,rfl⟩,fun x hx=>⟨fun h2=>?_,fun h2=>?_⟩⟩⟩⟩
  ·have:=dJ hc
   rw[decide_eq_true (show 0<=cap from this.1),decide_eq_true (show cap<=5000 from this.2.1)] at h
   cases h
  ·have:=(dJ hc).2.2.1
   simp only at this
   omega
  ·obtain⟨Io,RQ⟩:=hx
   refine⟨⟨by omega,by omega⟩,fun h3=>gX (fun hc=>?_),fun h3=>⟨⟨by omega,fun t ht=>absurd ht (Nat.not_lt_zero _)⟩,rfl,fun y hy=>⟨fun h4=>⟨⟨by omega,by omega⟩,⟨by omega,by omega⟩,fun h5=>gX (fun hc=>?_),fun h5=>?_⟩,fun h4=>?_⟩⟩⟩
   ·have:=((dJ hc).2.2.2.1 x (by show x<es.length;omega)).1
    simp only at this
    omega
   ·have:=((dJ hc).2.2.2.1 x (by show x<es.length;omega)).2 y (by omega)
    exact this h5.symm
   ·refine⟨y+1,⟨by omega,fun t ht=>?_⟩,by omega,bp (by omega)⟩
    by_cases e:t=y
    ·rw[e];exact Ne.symm h5
    ·exact hy.2 t (by omega)
   ·have he:=qG hp (x:=x) (by omega)
    have eI:=xG he.2
    have hs:=A7 hp x Io
    have AB:((es.getD x ([],0,[],[])).2.1,(es.getD x ([],0,[],[])).2.2.1,(es.getD x ([],0,[],[])).2.2.2)=(es.getD x ([],0,[],[])).2:=rfl
    rw[AB]
    refine⟨⟨by omega,by omega⟩,he.2,fun _=>⟨x+1,⟨by omega,C1 RQ (by omega) (fun j hj=>hy.2 j (by omega))⟩,by omega,?_,bp (by omega)⟩⟩
    rw[uT (by omega),wrap_small (by omega)];rfl
  ·obtain rfl:x=es.length:=by omega
   simp only[Bool.and_eq_true,decide_eq_true_eq] at h
   rw[List.take_length,yS (c:=(cap,es)) h.1 h.2 (by show es.length<=30;omega) hx.2]
theorem Hz :
 ∀(d:Int×List (List Int×Int×List Int×List Int)),Ty.wf bE d->bH d.2->(decide (d.1<(0:Int))=true->false=bL d)/\(decide (d.1<(0:Int))=false->(decide ((5000:Int)<d.1)=true->false=bL d)/\(decide ((5000:Int)<d.1)=false->(decide ((30:Int)<(d.2.length:Int))=true->false=bL d)/\(decide ((30:Int)<(d.2.length:Int))=false->bH d.2/\(Ty.wf ai (cn d.2:Int)->(decide (d.1<(cn d.2:Int))=true->false=bL d)/\(decide (d.1<(cn d.2:Int))=false->((0:Nat)<=d.2.length/\gu d.2 (0:Nat))/\(((d.1=d.1/\d.2=d.2)/\d.2=d.2/\ah (d.2.length:Int)/\(0:Int)=(↑(0:Nat):Int))/\d.1=d.1/\d.2=d.2)/\∀(x:Nat),x<=d.2.length/\gu d.2 x->(decide ((x:Int)<(d.2.length:Int))=true->((0:Int)<=(x:Int)/\(x:Int)<(d.2.length:Int))/\(decide ((5000:Int)<(↑(List.length (d.2.getD ((x:Int).toNat) ([],(0:Int),[],[])).1):Int))=true->false=bL d)/\(decide ((5000:Int)<(↑(List.length (d.2.getD ((x:Int).toNat) ([],(0:Int),[],[])).1):Int))=false->((0:Int)<=(0:Int)/\(0:Int)<=(x:Int)/\(x:Int)<=(d.2.length:Int))/\True/\(Ty.wf ai (aJ (d.2.getD ((x:Int).toNat) ([],(0:Int),[],[])).1 (List.drop ((0:Int).toNat) (List.take ((x:Int).toNat) d.2)) (0:Int))->(decide ((0:Int)<=aJ (d.2.getD ((x:Int).toNat) ([],(0:Int),[],[])).1 (List.drop ((0:Int).toNat) (List.take ((x:Int).toNat) d.2)) (0:Int))=true->false=bL d)/\(decide ((0:Int)<=aJ (d.2.getD ((x:Int).toNat) ([],(0:Int),[],[])).1 (List.drop ((0:Int).toNat) (List.take ((x:Int).toNat) d.2)) (0:Int))=false->∃(x':Nat),(x'<=d.2.length/\gu d.2 x')/\d.2.length-x'<d.2.length-x/\((d.1=d.1/\d.2=d.2)/\d.2=d.2/\ah (d.2.length:Int)/\i64.wrap ((x:Int)+(1:Int))=(x':Int))/\d.1=d.1/\d.2=d.2))))/\(decide ((x:Int)<(d.2.length:Int))=false->true=bL d)))))):=by
  intro (d:Ca) hw hp
  obtain⟨cap,es⟩:=d
  replace hp:bH es:=hp
  simp only[exists_const,forall_const,decide_eq_true_eq,decide_eq_false_iff_not,beq_iff_eq,sxS]
  refine⟨fun h=>gX (fun hc=>?_),fun h=>⟨fun h1=>gX (fun hc=>?_),fun h1=>⟨fun h2=>gX (fun hc=>?_),fun h2=>⟨hp,fun _=>⟨fun h3=>gX (fun hc=>?_),fun h3=>⟨⟨by omega,fun i hi=>absurd hi (Nat.not_lt_zero _)⟩,rfl,fun x hx=>⟨fun h4=>?_,fun h4=>?_⟩⟩⟩⟩⟩⟩⟩
  ·have:=(dJ hc).1;simp only at this;omega
  ·have:=(dJ hc).2.1;simp only at this;omega
  ·have:=(dJ hc).2.2.1;simp only at this;omega
  ·have:=(dJ hc).2.2.2.2;simp only at this;omega
  ·obtain⟨Io,RQ⟩:=hx
   simp only[Int.toNat_zero,List.drop_zero]
   have nt:(es.take x).length=x:=by rw[List.length_take];omega
   have TY:∀ t,t<x->(es.take x).getD t ([],0,[],[])=es.getD t ([],0,[],[]):=fun t ht=>by
    rw[List.getD_eq_getElem?_getD,List.getD_eq_getElem?_getD,List.getElem?_take,if_pos ht]
   have cz:=zd (key:=(es.getD x ([],0,[],[])).1) (es:=es.take x) (k:=0) (Int.le_refl 0)
   refine⟨⟨by omega,by omega⟩,fun h5=>gX (fun hc=>?_),fun h5=>⟨⟨by omega,by omega,by omega⟩,fun _=>⟨fun h6=>gX (fun hc=>?_),fun h6=>?_⟩⟩⟩
   ·have:=((dJ hc).2.2.2.1 x (by show x<es.length;omega)).1
    simp only at this
    omega
   ·have h7:=((dJ hc).2.2.2.1 x (by show x<es.length;omega)).2
    have:=cz.2 (fun t ht=>by rw[nt] at ht;rw[TY t ht];exact h7 t ht)
    omega
   ·have h7:=cz.1 (by omega)
    exact⟨x+1,⟨by omega,C1 RQ (by omega) (fun j hj=>by have:=h7 j (by omega);rw[TY j hj] at this;exact this)⟩,by omega,bp (by omega)⟩
  ·obtain rfl:x=es.length:=by omega
   rw[yS (c:=(cap,es)) (by show 0<=cap;omega) (by show cap<=5000;omega) (by show es.length<=30;omega) hx.2,decide_eq_true (show ((cn es:Nat):Int)<=cap by omega)]
set_option maxRecDepth 10000
set_option maxRecDepth 10000
theorem SB(l:List Int):l.map (bu kT)=l:=by
 have:bu kT=id:=rfl
 rw[this];exact List.map_id l
theorem B6(l:List Int):l.map (bu ai)=l:=by
 have:bu ai=id:=rfl
 rw[this];exact List.map_id l
theorem Vb(e:eD):bu dx e=cx e:=by
 show (List.map (bu kT) e.1.2,e.2.1,List.map (bu ai) e.2.2.1.2,List.map (bu ai) e.2.2.2.2)=_
 rw[SB,B6,B6]
 rfl
theorem N7(L:List eD):gG dx L=L.map cx:=by
 show L.map (bu dx)=_
 congr 1
 funext f
 exact Vb f
theorem Ti(L:List eD):bu (.sl dx) L=L.map cx:=N7 L
theorem Km(r:Int×List eD):bu b8 r=(r.1,r.2.map cx):=by
 show (r.1,bu (.sl dx) r.2)=_
 rw[Ti];rfl
theorem Tj(e:eD):bu Ac e=cx e:=by
 show (List.map (bu kT) e.1.2,e.2.1,List.map (bu ai) e.2.2.1.2,List.map (bu ai) e.2.2.2.2)=_
 rw[SB,B6,B6]
 rfl
theorem Pa(r:Int×List eD):bu ez r=(r.1,r.2.map cx):=by
 show (r.1,r.2.map (bu Ac))=_
 congr 2
 funext f
 exact Tj f
theorem AE(wh:Bool)(k:IntKind)(p:PG):ids (.gs wh (.int k)) p=AD p:=by
 obtain⟨i,l⟩:=p
 rw[RV,show bV (.int k) l=[] from l6 (.sl (.int k)) rfl l]
 cases l<;>simp[AD]
theorem UY(e:eD):ids dx e=eJ e:=by
 obtain⟨a,b,c,d⟩:=e
 show ids (.gs true kT) a++([]++(ids (.gs true ai) c++ids (.gs true ai) d))=_
 rw[AE,AE,AE]
 rfl
theorem Nr(L:List eD):bV dx L=L.flatMap eJ:=by
 unfold bV
 congr 1
 funext f
 exact UY f
theorem UZ(L:List eD):ids (.sl dx) L=L.flatMap eJ:=Nr L
theorem BH(r:Int×List eD):ids b8 r=r.2.flatMap eJ:=by
 show[]++ids (.sl dx) r.2=_
 rw[UZ];simp
theorem n5{i:Nat}{p:PG}(h:i∈AD p):i=p.1:=by
 unfold AD at h
 split at h
 ·cases h
 ·exact List.mem_singleton.1 h
theorem wk(p:PG):(AD p).Nodup:=by unfold AD;split<;>simp
theorem Iq{b b1 b2:Nat}(h1:b1≠b)(h2:b2≠b1)(h3:b2≠b)(l:List Int)(c:Int)(o m:List Int):(eJ ((b,l),c,(b1,o),(b2,m))).Nodup:=by
 unfold eJ
 rw[List.nodup_append,List.nodup_append]
 refine⟨wk _,⟨wk _,wk _,fun x hx y hy e=>?_⟩,fun x hx y hy e=>?_⟩
 ·have:=n5 hx;have:=n5 hy;simp_all
 ·have:=n5 hx
  rcases List.mem_append.1 hy with hy|hy<;>(have:=n5 hy;simp_all)
theorem LA{b b1 b2:Nat}{l:List Int}{c:Int}{o m:List Int}{i:Nat}(h:i∈eJ ((b,l),c,(b1,o),(b2,m))):i=b\/i=b1\/i=b2:=by
 unfold eJ at h
 rcases List.mem_append.1 h with h|h
 ·exact .inl (n5 h)
 ·rcases List.mem_append.1 h with h|h
  ·exact .inr (.inl (n5 h))
  ·exact .inr (.inr (n5 h))
theorem NJ{L:List eD}{e:eD}(h:(L.flatMap eJ).Nodup)(he:(eJ e).Nodup)(hx:∀ b∈eJ e,b ∉ L.flatMap eJ):((L++[e]).flatMap eJ).Nodup:=by
 rw[List.flatMap_append,List.nodup_append]
 refine⟨h,by simpa using he,fun a ha b hb e=>?_⟩
 subst e
 exact hx a (by simpa using hb) ha
theorem PR{L:List eD}(h:(L.flatMap eJ).Nodup){b b1 b2:Nat}(hb:b ∉ L.flatMap eJ)(dW:b1 ∉ L.flatMap eJ/\b1≠b)(jW:b2 ∉ L.flatMap eJ/\b2≠b1/\b2≠b)(l:List Int)(c:Int)(o m:List Int) :
 ((L++[((b,l),c,(b1,o),(b2,m))]).flatMap eJ).Nodup:=by
 refine NJ h (Iq dW.2 jW.2.1 jW.2.2 l c o m) (fun i hi=>?_)
 rcases LA hi with rfl|rfl|rfl
 ·exact hb
 ·exact dW.1
 ·exact jW.1
theorem N2{L:List eD}{xs:List En}{k:Nat}(h:L.map cx=xs.take k)(hk:k<xs.length)(b b1 b2:Nat) :
 (L++[((b,(xs.getD k ja).1),(xs.getD k ja).2.1,(b1,(xs.getD k ja).2.2.1),(b2,(xs.getD k ja).2.2.2))]).map cx=xs.take (k+1):=by
 have h2:xs.getD k ja=xs[k]:=by simp[hk]
 rw[List.map_append,h,h2,List.take_succ_eq_append_getElem hk]
 rfl
theorem It{L:List eD}{xs:List En}(h:L.map cx=xs):L.length=xs.length:=by rw[<-h,List.length_map]
theorem DH :
 ∀(d:List Int×Int×List Int×List Int),Ty.wf gZ d->nj d->(((((0:Nat)+d.1.length)*(1:Nat)<=(140737488355328:Nat)/\dF d.2/\(Ty.wf cA d.2->([]++d.1,d.2)=d))/\((0:Nat)+d.1.length)*(1:Nat)<=(140737488355328:Nat)/\dF d.2/\(Ty.wf cA d.2->([]++d.1,d.2)=d))/\((0:Nat)+d.1.length)*(1:Nat)<=(140737488355328:Nat)/\dF d.2/\(Ty.wf cA d.2->([]++d.1,d.2)=d))/\(((((0:Nat)+d.1.length)*(1:Nat)<=(140737488355328:Nat)/\dF d.2/\(Ty.wf cA d.2->([]++d.1,d.2)=d))/\((0:Nat)+d.1.length)*(1:Nat)<=(140737488355328:Nat)/\dF d.2/\(Ty.wf cA d.2->([]++d.1,d.2)=d))/\((0:Nat)+d.1.length)*(1:Nat)<=(140737488355328:Nat)/\dF d.2/\(Ty.wf cA d.2->([]++d.1,d.2)=d))/\(((0:Nat)+d.1.length)*(1:Nat)<=(140737488355328:Nat)/\dF d.2/\(Ty.wf cA d.2->([]++d.1,d.2)=d))/\((0:Nat)+d.1.length)*(1:Nat)<=(140737488355328:Nat)/\dF d.2/\(Ty.wf cA d.2->([]++d.1,d.2)=d):=by
  intro d hw hp
  have h1:(0+d.1.length)*1<=140737488355328:=by have:=hp.1;omega
  have h2:dF d.2:=hp.2
  have h3:cA.wf d.2->([]++d.1,d.2)=d:=fun _=>rfl
  repeat' (first|assumption|apply And.intro)
def iP(d:Int×List Int×List Int):Prop :=
 (((0:Nat)+List.length (Prod.fst (Prod.snd d)))*(8:Nat)<=(140737488355328:Nat)/\((0:Nat)+List.length (Prod.snd (Prod.snd d)))*(8:Nat)<=(140737488355328:Nat)/\(Prod.fst d,[]++Prod.fst (Prod.snd
 d),[]++Prod.snd (Prod.snd d))=d)
def JG(d:Int×List Int×List Int):Prop :=
 ((iP d)/\(iP d)/\((0:Nat)+List.length (Prod.fst (Prod.snd d)))*(8:Nat)<=(140737488355328:Nat)/\(((0:Nat)+List.length (Prod.snd (Prod.snd d)))*(8:Nat)<=(140737488355328:Nat)/\(Prod.fst d,
 []++Prod.fst (Prod.snd d),[]++Prod.snd (Prod.snd d))=d)/\((0:Nat)+List.length (Prod.snd (Prod.snd d)))*(8:Nat)<=(140737488355328:Nat)/\(Prod.fst d,[]++Prod.fst (Prod.snd d),[]++Prod.snd
 (Prod.snd d))=d)
def sE(d:Int×List Int×List Int):Prop :=
 ((iP d)/\((0:Nat)+List.length (Prod.fst (Prod.snd d)))*(8:Nat)<=(140737488355328:Nat)/\((0:Nat)+List.length (Prod.snd (Prod.snd d)))*(8:Nat)<=(140737488355328:Nat)/\(Prod.fst d,[] ++
 Prod.fst (Prod.snd d),[]++Prod.snd (Prod.snd d))=d)
def Fo(d:Int×List Int×List Int):Prop :=
 ((sE d)/\(((0:Nat)+List.length (Prod.fst (Prod.snd d)))*(8:Nat)<=(140737488355328:Nat)/\(((0:Nat)+List.length (Prod.snd (Prod.snd d)))*(8:Nat)<=(140737488355328:Nat)/\(Prod.fst d,[] ++
 Prod.fst (Prod.snd d),[]++Prod.snd (Prod.snd d))=d)/\(((0:Nat)+List.length (Prod.snd (Prod.snd d)))*(8:Nat)<=(140737488355328:Nat)/\(Prod.fst d,[]++Prod.fst (Prod.snd d),[]++Prod.snd (Prod.snd
 d))=d)/\((0:Nat)+List.length (Prod.snd (Prod.snd d)))*(8:Nat)<=(140737488355328:Nat)/\(Prod.fst d,[]++Prod.fst (Prod.snd d),[]++Prod.snd (Prod.snd d))=d)/\(iP d)/\((0:Nat)+List.length
 (Prod.fst (Prod.snd d)))*(8:Nat)<=(140737488355328:Nat)/\(((0:Nat)+List.length (Prod.snd (Prod.snd d)))*(8:Nat)<=(140737488355328:Nat)/\(Prod.fst d,[]++Prod.fst (Prod.snd d),[]++Prod.snd
 (Prod.snd d))=d)/\((0:Nat)+List.length (Prod.snd (Prod.snd d)))*(8:Nat)<=(140737488355328:Nat)/\(Prod.fst d,[]++Prod.fst (Prod.snd d),[]++Prod.snd (Prod.snd d))=d)
def uA(d:Int×List Int×List Int):Prop :=
 ((sE d)/\((0:Nat)+List.length (Prod.fst (Prod.snd d)))*(8:Nat)<=(140737488355328:Nat)/\((0:Nat)+List.length (Prod.snd (Prod.snd d)))*(8:Nat)<=(140737488355328:Nat)/\(Prod.fst d,[] ++
 Prod.fst (Prod.snd d),[]++Prod.snd (Prod.snd d))=d)
def Fp(d:Int×List Int×List Int):Prop :=
 (((((0:Nat)+List.length (Prod.fst (Prod.snd d)))*(8:Nat)<=(140737488355328:Nat)/\(((0:Nat)+List.length (Prod.snd (Prod.snd d)))*(8:Nat)<=(140737488355328:Nat)/\(Prod.fst d,[]++Prod.fst
 (Prod.snd d),[]++Prod.snd (Prod.snd d))=d)/\((0:Nat)+List.length (Prod.snd (Prod.snd d)))*(8:Nat)<=(140737488355328:Nat)/\(Prod.fst d,[]++Prod.fst (Prod.snd d),[]++Prod.snd (Prod.snd d))=d) ∧
 (sE d)/\(iP d)/\((0:Nat)+List.length (Prod.fst (Prod.snd d)))*(8:Nat)<=(140737488355328:Nat)/\((0:Nat)+List.length (Prod.snd (Prod.snd d)))*(8:Nat)<=(140737488355328:Nat)/\(Prod.fst d,[]
 ++ Prod.fst (Prod.snd d),[]++Prod.snd (Prod.snd d))=d)/\(uA d)/\(sE d)/\((0:Nat)+List.length (Prod.fst (Prod.snd d)))*(8:Nat)<=(140737488355328:Nat)/\((0:Nat)+List.length (Prod.snd (Prod.snd
 d)))*(8:Nat)<=(140737488355328:Nat)/\(Prod.fst d,[]++Prod.fst (Prod.snd d),[]++Prod.snd (Prod.snd d))=d)
def y7(d:Int×List Int×List Int):Prop :=
 ((uA d)/\(Fo d)/\(iP d)/\(iP d)/\((0:Nat)+List.length (Prod.fst (Prod.snd d)))*(8:Nat)<=(140737488355328:Nat)/\(((0:Nat)+List.length (Prod.snd (Prod.snd d)))*(8:Nat)<=(140737488355328 :
 Nat)/\(Prod.fst d,[]++Prod.fst (Prod.snd d),[]++Prod.snd (Prod.snd d))=d)/\((0:Nat)+List.length (Prod.snd (Prod.snd d)))*(8:Nat)<=(140737488355328:Nat)/\(Prod.fst d,[]++Prod.fst (Prod.snd d),
 []++Prod.snd (Prod.snd d))=d)
def JF(d:Int×List Int×List Int):Prop :=
 ((Fp d)/\(((((0:Nat)+List.length (Prod.fst (Prod.snd d)))*(8:Nat)<=(140737488355328:Nat)/\(((0:Nat)+List.length (Prod.snd (Prod.snd d)))*(8:Nat)<=(140737488355328:Nat)/\(Prod.fst d,[] ++
 Prod.fst (Prod.snd d),[]++Prod.snd (Prod.snd d))=d)/\((0:Nat)+List.length (Prod.snd (Prod.snd d)))*(8:Nat)<=(140737488355328:Nat)/\(Prod.fst d,[]++Prod.fst (Prod.snd d),[]++Prod.snd (Prod.snd
 d))=d)/\(sE d)/\(iP d)/\((0:Nat)+List.length (Prod.fst (Prod.snd d)))*(8:Nat)<=(140737488355328:Nat)/\((0:Nat)+List.length (Prod.snd (Prod.snd d)))*(8:Nat)<=(140737488355328:Nat) ∧
 (Prod.fst d,[]++Prod.fst (Prod.snd d),[]++Prod.snd (Prod.snd d))=d)/\(((0:Nat)+List.length (Prod.fst (Prod.snd d)))*(8:Nat)<=(140737488355328:Nat)/\((((0:Nat)+List.length (Prod.snd (Prod.snd
 d)))*(8:Nat)<=(140737488355328:Nat)/\(Prod.fst d,[]++Prod.fst (Prod.snd d),[]++Prod.snd (Prod.snd d))=d)/\((0:Nat)+List.length (Prod.snd (Prod.snd d)))*(8:Nat)<=(140737488355328:Nat) ∧
 (Prod.fst d,[]++Prod.fst (Prod.snd d),[]++Prod.snd (Prod.snd d))=d)/\((((0:Nat)+List.length (Prod.snd (Prod.snd d)))*(8:Nat)<=(140737488355328:Nat)/\(Prod.fst d,[]++Prod.fst (Prod.snd d),[] ++
 Prod.snd (Prod.snd d))=d)/\(((0:Nat)+List.length (Prod.snd (Prod.snd d)))*(8:Nat)<=(140737488355328:Nat)/\(Prod.fst d,[]++Prod.fst (Prod.snd d),[]++Prod.snd (Prod.snd d))=d)/\((0:Nat) +
 List.length (Prod.snd (Prod.snd d)))*(8:Nat)<=(140737488355328:Nat)/\(Prod.fst d,[]++Prod.fst (Prod.snd d),[]++Prod.snd (Prod.snd d))=d)/\(((0:Nat)+List.length (Prod.snd (Prod.snd d)))*(8:Nat)
 ≤ (140737488355328:Nat)/\(Prod.fst d,[]++Prod.fst (Prod.snd d),[]++Prod.snd (Prod.snd d))=d)/\(((0:Nat)+List.length (Prod.snd (Prod.snd d)))*(8:Nat)<=(140737488355328:Nat)/\(Prod.fst d,[] ++
 Prod.fst (Prod.snd d),[]++Prod.snd (Prod.snd d))=d)/\((0:Nat)+List.length (Prod.snd (Prod.snd d)))*(8:Nat)<=(140737488355328:Nat)/\(Prod.fst d,[]++Prod.fst (Prod.snd d),[]++Prod.snd (Prod.snd
 d))=d)/\(Fo d)/\(sE d)/\(((0:Nat)+List.length (Prod.fst (Prod.snd d)))*(8:Nat)<=(140737488355328:Nat)/\(((0:Nat)+List.length (Prod.snd (Prod.snd d)))*(8:Nat)<=(140737488355328:Nat) ∧
 (Prod.fst d,[]++Prod.fst (Prod.snd d),[]++Prod.snd (Prod.snd d))=d)/\(((0:Nat)+List.length (Prod.snd (Prod.snd d)))*(8:Nat)<=(140737488355328:Nat)/\(Prod.fst d,[]++Prod.fst (Prod.snd d),[] ++
 Prod.snd (Prod.snd d))=d)/\((0:Nat)+List.length (Prod.snd (Prod.snd d)))*(8:Nat)<=(140737488355328:Nat)/\(Prod.fst d,[]++Prod.fst (Prod.snd d),[]++Prod.snd (Prod.snd d))=d)/\(iP d)/\((0 :
 Nat)+List.length (Prod.fst (Prod.snd d)))*(8:Nat)<=(140737488355328:Nat)/\(((0:Nat)+List.length (Prod.snd (Prod.snd d)))*(8:Nat)<=(140737488355328:Nat)/\(Prod.fst d,[]++Prod.fst (Prod.snd d),
 []++Prod.snd (Prod.snd d))=d)/\((0:Nat)+List.length (Prod.snd (Prod.snd d)))*(8:Nat)<=(140737488355328:Nat)/\(Prod.fst d,[]++Prod.fst (Prod.snd d),[]++Prod.snd (Prod.snd d))=d)/\(y7 d) ∧
 (uA d)/\(Fo d)/\(iP d)/\(iP d)/\((0:Nat)+List.length (Prod.fst (Prod.snd d)))*(8:Nat)<=(140737488355328:Nat)/\(((0:Nat)+List.length (Prod.snd (Prod.snd d)))*(8:Nat)<=(140737488355328 :
 Nat)/\(Prod.fst d,[]++Prod.fst (Prod.snd d),[]++Prod.snd (Prod.snd d))=d)/\((0:Nat)+List.length (Prod.snd (Prod.snd d)))*(8:Nat)<=(140737488355328:Nat)/\(Prod.fst d,[]++Prod.fst (Prod.snd d),
 []++Prod.snd (Prod.snd d))=d)
def Fq(d:Int×List Int×List Int):Prop :=
 ((uA d)/\(uA d)/\(iP d)/\((0:Nat)+List.length (Prod.fst (Prod.snd d)))*(8:Nat)<=(140737488355328:Nat)/\((0:Nat)+List.length (Prod.snd (Prod.snd d)))*(8:Nat)<=(140737488355328:Nat) ∧
 (Prod.fst d,[]++Prod.fst (Prod.snd d),[]++Prod.snd (Prod.snd d))=d)
theorem B_ :
 ∀(d:Int×List Int×List Int),Ty.wf cA d->dF d->((Fp d)/\(Fp d)/\(Fq d)/\(uA d)/\(uA d)/\(iP d)/\((0:Nat)+d.2.1.length)*(8:Nat)<=(140737488355328:Nat)/\((0:Nat)+d.2.2.length)*(8:Nat)<=(140737488355328:Nat)/\(d.1,[]++d.2.1,[]++d.2.2)=d)/\(JF d)/\(JF d)/\((Fq d)/\(y7 d)/\(y7 d)/\(sE d)/\(JG d)/\(iP d)/\(iP d)/\((0:Nat)+d.2.1.length)*(8:Nat)<=(140737488355328:Nat)/\(((0:Nat)+d.2.2.length)*(8:Nat)<=(140737488355328:Nat)/\(d.1,[]++d.2.1,[]++d.2.2)=d)/\((0:Nat)+d.2.2.length)*(8:Nat)<=(140737488355328:Nat)/\(d.1,[]++d.2.1,[]++d.2.2)=d)/\(Fq d)/\(y7 d)/\(y7 d)/\(sE d)/\(JG d)/\(iP d)/\(iP d)/\((0:Nat)+d.2.1.length)*(8:Nat)<=(140737488355328:Nat)/\(((0:Nat)+d.2.2.length)*(8:Nat)<=(140737488355328:Nat)/\(d.1,[]++d.2.1,[]++d.2.2)=d)/\((0:Nat)+d.2.2.length)*(8:Nat)<=(140737488355328:Nat)/\(d.1,[]++d.2.1,[]++d.2.2)=d:=by
  intro d hw hp
  have h1:(0+d.2.1.length)*8<=140737488355328:=by have:=hp.1;omega
  have h2:(0+d.2.2.length)*8<=140737488355328:=by have:=hp.2;omega
  have h3:(d.1,[]++d.2.1,[]++d.2.2)=d:=rfl
  have VA:iP d:=by
   unfold iP
   repeat' (first|assumption|apply And.intro)
  have VH:JG d:=by
   unfold JG
   repeat' (first|assumption|apply And.intro)
  have VI:sE d:=by
   unfold sE
   repeat' (first|assumption|apply And.intro)
  have VB:Fo d:=by
   unfold Fo
   repeat' (first|assumption|apply And.intro)
  have VC:uA d:=by
   unfold uA
   repeat' (first|assumption|apply And.intro)
  have VE:Fp d:=by
   unfold Fp
   repeat' (first|assumption|apply And.intro)
  have VF:y7 d:=by
   unfold y7
   repeat' (first|assumption|apply And.intro)
  have VD:JF d:=by
   unfold JF
   repeat' (first|assumption|apply And.intro)
  have VG:Fq d:=by
   unfold Fq
   repeat' (first|assumption|apply And.intro)
  repeat' (first|assumption|apply And.intro)
theorem Cg :
 ∀(d:Int×List Int×List Int),Ty.wf cA d->dF d->d.2.1.length<=(1048576:Nat)/\d.2.2.length<=(1048576:Nat)/\(Ty.wf al d.2.2->Ty.wf al d.2.1->d=d):=by
  intro d hw hp
  simp only[exists_const,forall_const,decide_eq_true_eq,decide_eq_false_iff_not,beq_iff_eq,sxS]
  exact hp
theorem GR :
 ∀(d:List Int),Ty.wf aC d->d.length<=(1048576:Nat)->(0:Nat)<=d.length/\((d=d/\an/\(0:Int)=(↑(0:Nat):Int))/\[]=List.take (0:Nat) d)/\∀(x:Nat),x<=d.length->(decide ((x:Int)<(d.length:Int))=true->((0:Int)<=(x:Int)/\(x:Int)<(d.length:Int))/\(List.length (List.take x d)+List.length [d.getD ((x:Int).toNat) (0:Int)])*(1:Nat)<=(140737488355328:Nat)/\∃(x':Nat),x'<=d.length/\d.length-x'<d.length-x/\(d=d/\an/\i64.wrap ((x:Int)+(1:Int))=(x':Int))/\List.take x d++[d.getD ((x:Int).toNat) (0:Int)]=List.take x' d)/\(decide ((x:Int)<(d.length:Int))=false->List.take x d=d):=by
  intro d hw hp
  have hp:d.length<=1048576:=hp
  simp only[exists_const,forall_const,decide_eq_true_eq,decide_eq_false_iff_not,beq_iff_eq,sxS]
  refine⟨Nat.zero_le _,⟨rfl,rfl⟩,fun x hx=>⟨fun h=>?_,fun h=>?_⟩⟩
  ·have h1:x<d.length:=by omega
   have eI:i64.wrap ((x:Int)+1)=((x+1:Nat):Int):=by rw[wrap_small (by omega)];rfl
   refine⟨⟨by omega,h⟩,by rw[List.length_take,List.length_singleton];omega,x+1,by omega,by omega,eI,?_⟩
   rw[List.take_succ_eq_append_getElem h1];simp[h1]
  ·have h1:x=d.length:=by omega
   rw[h1,List.take_length]
def JE(d:Int×List (List Int×Int×List Int×List Int))(x:Nat×List ((Nat×List Int)×Int×(Nat×List Int)×Nat×List Int))(x':Nat×List ((Nat×List Int)×Int×(Nat×List Int)×Nat×List
 Int)):Prop :=
 ((Prod.fst d=Prod.fst d/\Prod.snd d=Prod.snd d)/\Prod.fst d=Prod.fst d/\(Prod.fst d=Prod.fst d/\Value.slice none (0:Nat) (0:Nat)=Value.slice none (0:Nat) (0:Nat))/\Prod.snd d=Prod.snd d ∧
 (↑(List.length (Prod.snd d)):Int)=(↑(List.length (Prod.snd d)):Int)/\IntKind.wrap i64 ((↑(Prod.fst x):Int)+(1:Int))=(↑(Prod.fst x'):Int))
def JD(d:Int×List (List Int×Int×List Int×List Int))(x:Nat×List ((Nat×List Int)×Int×(Nat×List Int)×Nat×List Int)):Prop :=
 (nj (List.getD (Prod.snd d) (Int.toNat (↑(Prod.fst x):Int)) ([],(0:Int),[],[]))/\(Ty.wf gZ (List.getD (Prod.snd d) (Int.toNat (↑(Prod.fst x):Int)) ([],(0:Int),[],[]))->∀(b:Nat),¬b∈bV dx
 (Prod.snd x)->∀(gk:Nat),¬gk∈bV dx (Prod.snd x)/\gk≠b->∀(gl:Nat),¬gl∈bV dx (Prod.snd x)/\gl≠gk/\gl≠b->(List.length (Prod.snd x)+List.length [((b,Prod.fst (List.getD (Prod.snd d)
 (Int.toNat (↑(Prod.fst x):Int)) ([],(0:Int),[],[]))),Prod.fst (Prod.snd (List.getD (Prod.snd d) (Int.toNat (↑(Prod.fst x):Int)) ([],(0:Int),[],[]))),(gk,Prod.fst (Prod.snd (Prod.snd (List.getD
 (Prod.snd d) (Int.toNat (↑(Prod.fst x):Int)) ([],(0:Int),[],[]))))),gl,Prod.snd (Prod.snd (Prod.snd (List.getD (Prod.snd d) (Int.toNat (↑(Prod.fst x):Int)) ([],(0:Int),[],[])))))])*(80:Nat) ≤
 (140737488355328:Nat)/\∃(x':Nat×List ((Nat×List Int)×Int×(Nat×List Int)×Nat×List Int)),(Prod.fst x'<=List.length (Prod.snd d)/\List.map cx (Prod.snd x')=List.take (Prod.fst x') (Prod.snd d) ∧
 List.Nodup (List.flatMap eJ (Prod.snd x')))/\List.length (Prod.snd d)-Prod.fst x'<List.length (Prod.snd d)-Prod.fst x/\(JE d x x')/\(Prod.fst d=Prod.fst d/\Prod.snd d=Prod.snd d)/\((0:Int)=(0 :
 Int)/\Value.slice none (0:Nat) (0:Nat)=Value.slice none (0:Nat) (0:Nat))/\Prod.fst d=Prod.fst d/\Prod.snd x++[((b,Prod.fst (List.getD (Prod.snd d) (Int.toNat (↑(Prod.fst x):Int)) ([],(0:Int),[],
 []))),Prod.fst (Prod.snd (List.getD (Prod.snd d) (Int.toNat (↑(Prod.fst x):Int)) ([],(0:Int),[],[]))),(gk,Prod.fst (Prod.snd (Prod.snd (List.getD (Prod.snd d) (Int.toNat (↑(Prod.fst x):Int)) ([],(0 :
 Int),[],[]))))),gl,Prod.snd (Prod.snd (Prod.snd (List.getD (Prod.snd d) (Int.toNat (↑(Prod.fst x):Int)) ([],(0:Int),[],[])))))]=Prod.snd x'))
theorem B9 :
 ∀(d:Int×List (List Int×Int×List Int×List Int)),Ty.wf bE d->bH d.2->((0:Nat)<=d.2.length/\List.map cx []=List.take (0:Nat) d.2/\List.Nodup (List.flatMap eJ []))/\(((d.1=d.1/\d.2=d.2)/\d.1=d.1/\(d.1=d.1/\an)/\d.2=d.2/\ah (d.2.length:Int)/\(0:Int)=(↑(0:Nat):Int))/\(d.1=d.1/\d.2=d.2)/\(ah (0:Int)/\an)/\d.1=d.1/\([]:List eD)=[])/\∀(x:Nat×List ((Nat×List Int)×Int×(Nat×List Int)×Nat×List Int)),x.1<=d.2.length/\List.map cx x.2=List.take x.1 d.2/\List.Nodup (List.flatMap eJ x.2)->(decide ((x.1:Int)<(d.2.length:Int))=true->((0:Int)<=(x.1:Int)/\(x.1:Int)<(d.2.length:Int))/\(JD d x)/\(JD d x)/\nj (d.2.getD ((x.1:Int).toNat) ([],(0:Int),[],[]))/\(Ty.wf gZ (d.2.getD ((x.1:Int).toNat) ([],(0:Int),[],[]))->(∀(b:Nat),¬b∈bV dx x.2->∀(gk:Nat),¬gk∈bV dx x.2/\gk≠b->∀(gl:Nat),¬gl∈bV dx x.2/\gl≠gk/\gl≠b->(x.2.length+List.length [((b,(d.2.getD ((x.1:Int).toNat) ([],(0:Int),[],[])).1),(d.2.getD ((x.1:Int).toNat) ([],(0:Int),[],[])).2.1,(gk,(d.2.getD ((x.1:Int).toNat) ([],(0:Int),[],[])).2.2.1),gl,(d.2.getD ((x.1:Int).toNat) ([],(0:Int),[],[])).2.2.2)])*(80:Nat)<=(140737488355328:Nat)/\∃(x':Nat×List ((Nat×List Int)×Int×(Nat×List Int)×Nat×List Int)),(x'.1<=d.2.length/\List.map cx x'.2=List.take x'.1 d.2/\List.Nodup (List.flatMap eJ x'.2))/\d.2.length-x'.1<d.2.length-x.1/\(JE d x x')/\(d.1=d.1/\d.2=d.2)/\(ah (0:Int)/\an)/\d.1=d.1/\x.2++[((b,(d.2.getD ((x.1:Int).toNat) ([],(0:Int),[],[])).1),(d.2.getD ((x.1:Int).toNat) ([],(0:Int),[],[])).2.1,(gk,(d.2.getD ((x.1:Int).toNat) ([],(0:Int),[],[])).2.2.1),gl,(d.2.getD ((x.1:Int).toNat) ([],(0:Int),[],[])).2.2.2)]=x'.2)/\∀(b:Nat),¬b∈bV dx x.2->∀(gk:Nat),¬gk∈bV dx x.2/\gk≠b->∀(gl:Nat),¬gl∈bV dx x.2/\gl≠gk/\gl≠b->(x.2.length+List.length [((b,(d.2.getD ((x.1:Int).toNat) ([],(0:Int),[],[])).1),(d.2.getD ((x.1:Int).toNat) ([],(0:Int),[],[])).2.1,(gk,(d.2.getD ((x.1:Int).toNat) ([],(0:Int),[],[])).2.2.1),gl,(d.2.getD ((x.1:Int).toNat) ([],(0:Int),[],[])).2.2.2)])*(80:Nat)<=(140737488355328:Nat)/\∃(x':Nat×List ((Nat×List Int)×Int×(Nat×List Int)×Nat×List Int)),(x'.1<=d.2.length/\List.map cx x'.2=List.take x'.1 d.2/\List.Nodup (List.flatMap eJ x'.2))/\d.2.length-x'.1<d.2.length-x.1/\(JE d x x')/\(d.1=d.1/\d.2=d.2)/\(ah (0:Int)/\an)/\d.1=d.1/\x.2++[((b,(d.2.getD ((x.1:Int).toNat) ([],(0:Int),[],[])).1),(d.2.getD ((x.1:Int).toNat) ([],(0:Int),[],[])).2.1,(gk,(d.2.getD ((x.1:Int).toNat) ([],(0:Int),[],[])).2.2.1),gl,(d.2.getD ((x.1:Int).toNat) ([],(0:Int),[],[])).2.2.2)]=x'.2))/\(decide ((x.1:Int)<(d.2.length:Int))=false->bu b8 (d.1,x.2)=d/\List.Nodup (ids b8 (d.1,x.2))):=by
  intro d hw hp
  have hlen:=hp.1
  refine⟨⟨Nat.zero_le _,rfl,List.nodup_nil⟩,?_,fun x ⟨h1,h2,h3⟩=>⟨fun h5=>?_,fun h5=>?_⟩⟩
  ·repeat' (first|exact rfl|apply And.intro)
  ·have h5:(x.1:Int)<(d.2.length:Int):=of_decide_eq_true h5
   have h6:x.1<d.2.length:=by omega
   have h7:(0:Int)<=(x.1:Int)/\(x.1:Int)<(d.2.length:Int):=⟨by omega,h5⟩
   have eI:i64.wrap ((x.1:Int)+1)=((x.1+1:Nat):Int):=by rw[wrap_small (by omega)];rfl
   have hE:=qG hp h6
   have OA:=hE.1
   have ET:=hE.2
   have Wo:=It h2
   rw[List.length_take] at Wo
   have leaf:∀(b:Nat),¬b∈bV dx x.2->∀(gk:Nat),¬gk∈bV dx x.2/\gk≠b->∀(gl:Nat),¬gl∈bV dx x.2/\gl≠gk/\gl≠b →
    (List.length x.2+List.length [((b,(d.2.getD x.1 ja).1),(d.2.getD x.1 ja).2.1,(gk,(d.2.getD x.1 ja).2.2.1),(gl,(d.2.getD x.1 ja).2.2.2))])*80<=140737488355328/\∃ x':Nat×List eD,(x'.1<=d.2.length/\x'.2.map cx=d.2.take x'.1/\(x'.2.flatMap eJ).Nodup) ∧
      d.2.length-x'.1<d.2.length-x.1/\JE d x x'/\(d.1=d.1/\d.2=d.2)/\((0:Int)=0/\Value.slice none 0 0=Value.slice none 0 0)/\d.1=d.1/\x.2++[((b,(d.2.getD x.1 ja).1),(d.2.getD x.1 ja).2.1,(gk,(d.2.getD x.1 ja).2.2.1),(gl,(d.2.getD x.1 ja).2.2.2))]=x'.2:=by
    intro b hb b1 dW b2 jW
    rw[Nr] at hb dW jW
    refine⟨by simp only[List.length_singleton];omega,(x.1+1,_),⟨by simp only;omega,N2 h2 h6 b b1 b2,PR h3 hb dW jW _ _ _ _⟩,by simp only;omega,by repeat' (first|exact rfl|exact eI|apply And.intro),⟨rfl,rfl⟩,⟨rfl,rfl⟩,rfl,rfl⟩
   have Vz:JD d x:=by
    unfold JD
    repeat' (first|assumption|exact hE|exact OA|exact ET|exact leaf|apply And.intro|intro _)
   repeat' (first|assumption|exact hE|exact OA|exact ET|exact leaf|apply And.intro|intro _)
  ·have h5:¬(x.1:Int)<(d.2.length:Int):=of_decide_eq_false h5
   have h6:x.1=d.2.length:=by omega
   rw[Km,BH,h2,h6,List.take_length]
   exact⟨rfl,h3⟩
theorem HQ :
 ∀(d:Int×List (List Int×Int×List Int×List Int)),Ty.wf bE d->bH d.2->(0:Nat)<=d.2.length/\(((d.1=d.1/\d.2=d.2)/\(0:Int)=(↑(0:Nat):Int))/\(d.1=d.1/\d.2=d.2)/\(ah (0:Int)/\an)/\d.1=d.1/\List.take (0:Nat) d.2=[])/\∀(x:Nat),x<=d.2.length->(decide ((x:Int)<(d.2.length:Int))=true->((0:Int)<=(x:Int)/\(x:Int)<(d.2.length:Int))/\List.length (d.2.getD ((x:Int).toNat) ([],(0:Int),[],[])).1<=(1048576:Nat)/\((0:Int)<=(x:Int)/\(x:Int)<(d.2.length:Int))/\dF (d.2.getD ((x:Int).toNat) ([],(0:Int),[],[])).2/\(Ty.wf cA (d.2.getD ((x:Int).toNat) ([],(0:Int),[],[])).2->Ty.wf aC (d.2.getD ((x:Int).toNat) ([],(0:Int),[],[])).1->(List.length (List.take x d.2)+List.length [d.2.getD ((x:Int).toNat) ([],(0:Int),[],[])])*(80:Nat)<=(140737488355328:Nat)/\∃(x':Nat),x'<=d.2.length/\d.2.length-x'<d.2.length-x/\((d.1=d.1/\d.2=d.2)/\i64.wrap ((x:Int)+(1:Int))=(x':Int))/\(d.1=d.1/\d.2=d.2)/\(ah (0:Int)/\an)/\d.1=d.1/\List.take x d.2++[d.2.getD ((x:Int).toNat) ([],(0:Int),[],[])]=List.take x' d.2))/\(decide ((x:Int)<(d.2.length:Int))=false->(d.1,List.take x d.2)=d):=by
  intro d hw hp
  have hlen:=hp.1
  simp only[exists_const,forall_const,decide_eq_true_eq,decide_eq_false_iff_not,beq_iff_eq,sxS]
  refine⟨Nat.zero_le _,?_,fun x hx=>⟨fun h=>?_,fun h=>?_⟩⟩
  ·repeat' (first|exact rfl|apply And.intro)
  ·have h6:x<d.2.length:=by omega
   have hE:=qG hp h6
   have eI:i64.wrap ((x:Int)+1)=((x+1:Nat):Int):=by rw[wrap_small (by omega)];rfl
   refine⟨⟨by omega,h⟩,hE.1,⟨by omega,h⟩,hE.2,fun _ _=>⟨by rw[List.length_take,List.length_singleton];omega,x+1,by omega,by omega,eI,?_⟩⟩
   rw[List.take_succ_eq_append_getElem h6];simp[h6]
  ·have h6:x=d.2.length:=by omega
   rw[h6,List.take_length]
theorem IL(c:Int)(es:List En):∀ n,bA c es n<=n
 | 0=>Nat.le_refl _
 | n+1=>by
   unfold bA
   split
   ·have:=IL c es n;omega
   ·exact Nat.le_refl _
theorem MD{c:Int}{es:List En}{n:Nat}(h:30<n+1\/c<(cn (es.take (n+1)):Int)):bA c es (n+1)=bA c es n:=by
 conv=>lhs;unfold bA
 rw[if_pos h]
theorem Di{c:Int}{es:List En}:∀ {n:Nat},¬30<n->¬c<(cn (es.take n):Int)->bA c es n=n
 | 0,_,_=>rfl
 | n+1,h1,h2=>by
   unfold bA
   rw[if_neg (by omega)]
theorem EB{es:List En}(h:bH es)(n:Nat):bH (es.take n):=⟨by rw[List.length_take];have:=h.1;omega,fun e he=>h.2 e (List.mem_of_mem_take he)⟩
theorem N8(L:List eD)(n:Nat):gG dx (L.take n)=(L.map cx).take n:=by rw[N7,List.map_take]
theorem vB :
 ∀(c:Int) (xs:List ((Nat×List Int)×Int×(Nat×List Int)×Nat×List Int)),IntKind.min i64<=c/\c<=IntKind.max i64->Ty.wf (Ty.sl dx) xs->bH (List.map cx xs)/\(0:Int)<=c->(xs.length<=xs.length/\ah (bA c (List.map cx xs) xs.length))/\((c=c/\ah (xs.length))/\xs=xs/\(c=c/\ah (xs.length))/\ah (0:Int)/\an)/\∀(x:Nat),x<=xs.length/\bA c (List.map cx xs) x=bA c (List.map cx xs) xs.length->(decide ((30:Int)<(x:Int))=true->((0:Int)<=i64.wrap ((x:Int)-(1:Int))/\i64.wrap ((x:Int)-(1:Int))<=(x:Int))/\∃(x':Nat),(x'<=xs.length/\bA c (List.map cx xs) x'=bA c (List.map cx xs) xs.length)/\x'<x/\(c=c/\ah (xs.length))/\xs=xs/\(c=c/\Int.toNat (i64.wrap ((x:Int)-(1:Int)))=x')/\ah (0:Int)/\an)/\(decide ((30:Int)<(x:Int))=false->bH (gG dx (List.take x xs))/\(Ty.wf ai (↑(cn (gG dx (List.take x xs))):Int)->(decide (c<(↑(cn (gG dx (List.take x xs))):Int))=true->((0:Int)<=i64.wrap ((x:Int)-(1:Int))/\i64.wrap ((x:Int)-(1:Int))<=(x:Int))/\∃(x':Nat),(x'<=xs.length/\bA c (List.map cx xs) x'=bA c (List.map cx xs) xs.length)/\x'<x/\(c=c/\ah (xs.length))/\xs=xs/\(c=c/\Int.toNat (i64.wrap ((x:Int)-(1:Int)))=x')/\ah (0:Int)/\an)/\(decide (c<(↑(cn (gG dx (List.take x xs))):Int))=false->c=c/\x=bA c (List.map cx xs) xs.length/\xs=xs))):=by
  intro c xs hc hw hp
  have Lr:(0:Int)<=c:=hp.2
  have TT:bH (xs.map cx):=hp.1
  have Io:xs.length<=1048576:=by have:=TT.1;rw[List.length_map] at this;exact this
  simp only[exists_const,forall_const,decide_eq_true_eq,decide_eq_false_iff_not,beq_iff_eq,sxS]
  refine⟨Nat.le_refl _,fun x ⟨h1,h2⟩=>?_⟩
  have step:(30<x\/c<(cn ((xs.map cx).take x):Int))->((0:Int)<=i64.wrap ((x:Int)-1)/\i64.wrap ((x:Int)-1)<=(x:Int))/\∃ x':Nat,(x'<=xs.length/\bA c (xs.map cx) x'=bA c (xs.map cx) xs.length)/\x'<x/\(i64.wrap ((x:Int)-1)).toNat=x':=by
   intro h
   cases x with
   | zero=>simp[cn] at h;omega
   | succ n =>
     have eI:i64.wrap (((n+1:Nat):Int)-1)=(n:Int):=by rw[wrap_small (by omega)];omega
     rw[eI]
     refine⟨by omega,n,⟨by omega,?_⟩,by omega,by omega⟩
     rw[<-h2,MD h]
  rw[N8]
  refine⟨fun h3=>step (.inl (by omega)),fun h3=>⟨EB TT x,fun _=>⟨fun h4=>step (.inr h4),fun h4=>?_⟩⟩⟩
  rw[<-h2,Di (by omega) h4]
theorem HR :
 ∀(c:Int) (xs:List ((Nat×List Int)×Int×(Nat×List Int)×Nat×List Int)),IntKind.min i64<=c/\c<=IntKind.max i64->Ty.wf (Ty.sl Ac) xs->bH (List.map cx xs)/\(0:Int)<=c->(xs.length<=xs.length/\ah (bA c (List.map cx xs) xs.length))/\((c=c/\ah (xs.length))/\xs=xs/\(c=c/\ah (xs.length))/\ah (0:Int)/\an)/\∀(x:Nat),x<=xs.length/\bA c (List.map cx xs) x=bA c (List.map cx xs) xs.length->(decide ((30:Int)<(x:Int))=true->((0:Int)<=i64.wrap ((x:Int)-(1:Int))/\i64.wrap ((x:Int)-(1:Int))<=(x:Int))/\∃(x':Nat),(x'<=xs.length/\bA c (List.map cx xs) x'=bA c (List.map cx xs) xs.length)/\x'<x/\(c=c/\ah (xs.length))/\xs=xs/\(c=c/\Int.toNat (i64.wrap ((x:Int)-(1:Int)))=x')/\ah (0:Int)/\an)/\(decide ((30:Int)<(x:Int))=false->bH (gG Ac (List.take x xs))/\(Ty.wf ai (↑(cn (gG Ac (List.take x xs))):Int)->(decide (c<(↑(cn (gG Ac (List.take x xs))):Int))=true->((0:Int)<=i64.wrap ((x:Int)-(1:Int))/\i64.wrap ((x:Int)-(1:Int))<=(x:Int))/\∃(x':Nat),(x'<=xs.length/\bA c (List.map cx xs) x'=bA c (List.map cx xs) xs.length)/\x'<x/\(c=c/\ah (xs.length))/\xs=xs/\(c=c/\Int.toNat (i64.wrap ((x:Int)-(1:Int)))=x')/\ah (0:Int)/\an)/\(decide (c<(↑(cn (gG Ac (List.take x xs))):Int))=false->c=c/\x=bA c (List.map cx xs) xs.length/\xs=xs))):=by
  exact vB
theorem Tg{c:Ca}{r:List eD}{room:Int}(h:r.map cx=c.2):(room,(r.take (bA room (r.map cx) r.length)).map cx)=A9 (room,c.2):=by
 unfold A9
 have hl:r.length=c.2.length:=It h
 rw[List.map_take,h,hl]
theorem Ns{L:List eD}(h:(L.flatMap eJ).Nodup)(n:Nat):((L.take n).flatMap eJ).Nodup:=by
 have h1:L.flatMap eJ=(L.take n).flatMap eJ++(L.drop n).flatMap eJ:=by rw[<-List.flatMap_append,List.take_append_drop]
 rw[h1,List.nodup_append] at h
 exact h.1
theorem yR{r:Int×List eD}{c:Ca}(h:bu b8 r=c):r.1=c.1/\r.2.map cx=c.2:=by
 rw[Km] at h
 rw[<-h]
 exact⟨rfl,rfl⟩
def u1(b:Nat)(new:List Int)(q:PG):PG:=if q.1=b/\q.2.length=new.length then (q.1,new) else q
theorem ze{key:List Int}:∀ {es:List En} {k:Int},0<=k->0<=aJ key es k->∃ i:Nat,i<es.length/\aJ key es k=k+i/\(es.getD i ja).1=key
 | [],k,hk,h=>by unfold aJ at h;omega
 | e::es,k,hk,h=>by
   unfold aJ at h ⊢
   by_cases hh:e.1=key
   ·rw[if_pos hh];exact⟨0,by simp,by omega,by simpa using hh⟩
   ·rw[if_neg hh] at h ⊢
    obtain⟨i,h1,h2,h3⟩:=ze (by omega) h
    exact⟨i+1,by simp;omega,by rw[h2];omega,by simpa using h3⟩
theorem Ib{es:List En}{i:Nat}(hi:i<es.length)(hk:gu es es.length):es.filter (fun o=>decide (o.1≠(es.getD i ja).1))=es.take i++es.drop (i+1):=by
 have hd:es.getD i ja=es[i]:=by simp[hi]
 have hs:es=es.take i++es[i]::es.drop (i+1):=by rw[List.getElem_cons_drop,List.take_append_drop]
 have hg:∀ j (hj:j<es.length),es.getD j ([],0,[],[])=es[j]:=fun j hj=>by simp[hj]
 have bb:∀ a b (ha:a<es.length) (hb:b<es.length),a<b->es[a].1≠es[b].1:=fun a b ha hb rL=>by
  have:=(hk b hb).2 a rL
  rw[hg a ha,hg b hb] at this
  exact this
 conv=>lhs;rw[hs]
 rw[List.filter_append,List.filter_cons,if_neg (by rw[decide_eq_true_eq];simp only[ne_eq,Decidable.not_not];rw[<-hs,hd])]
 rw[List.filter_eq_self.2 (fun o ho=>?_),List.filter_eq_self.2 (fun o ho=>?_)]
 ·rw[decide_eq_true_eq,<-hs,hd]
  obtain⟨j,hj,rfl⟩:=List.getElem_of_mem ho
  rw[List.getElem_drop]
  rw[List.length_drop] at hj
  exact fun e=>bb i (i+1+j) hi (by omega) (by omega) e.symm
 ·rw[decide_eq_true_eq,<-hs,hd]
  obtain⟨j,hj,rfl⟩:=List.getElem_of_mem ho
  rw[List.getElem_take]
  rw[List.length_take] at hj
  exact bb j i (by omega) hi (by omega)
theorem K2{es:List En}{key:List Int}(h:aJ key es 0<0):es.filter (fun o=>decide (o.1≠key))=es:=by
 have h':=(zd (Int.le_refl 0)).1 h
 rw[List.filter_eq_self]
 intro o ho
 obtain⟨j,hj,rfl⟩:=List.getElem_of_mem ho
 have:=h' j hj
 rw[show es.getD j ([],0,[],[])=es[j] by simp[hj]] at this
 simpa using this
theorem CM(c:Ca)(e:En):(cq c e).2.length<=c.2.length+1:=by
 show (e::_).length<=_
 rw[List.length_cons]
 exact Nat.succ_le_succ (List.length_filter_le _ _)
theorem Jp{c:Int}{es:List En}{x:Nat}(hx:x<es.length)(e:En) :
 ((es.getD x ja).1=e.1->(cq (c,es.take x) e).2=(cq (c,es.take (x+1)) e).2)/\(¬(es.getD x ja).1=e.1->(cq (c,es.take x) e).2++[es.getD x ja]=(cq (c,es.take (x+1)) e).2):=by
 have h1:es.take (x+1)=es.take x++[es.getD x ja]:=by rw[List.take_succ_eq_append_getElem hx];simp[hx]
 unfold cq
 simp only
 rw[h1,List.filter_append]
 refine⟨fun h=>?_,fun h=>?_⟩
 ·rw[List.filter_cons,if_neg (by simpa using h)];simp
 ·rw[List.filter_cons,if_pos (by simpa using h)];simp
theorem vR{c:Ca}{e:En}(h:bH c.2)(he:nj e)(hl:c.2.length<=1000):bH (cq c e).2:=by
 refine⟨by have:=CM c e;omega,fun o ho=>?_⟩
 rcases List.mem_cons.1 ho with rfl|ho
 ·exact he
 ·exact h.2 o (List.mem_filter.1 ho).1
theorem G0 :
 ∀(d:(Int×List (List Int×Int×List Int×List Int))×List Int×Int×List Int×List Int),Ty.wf bE d.1/\Ty.wf gZ d.2->bH d.1.2/\nj d.2->d.2.1.length<=(1048576:Nat)/\dF d.2.2/\(Ty.wf cA d.2.2->Ty.wf aC d.2.1->bH d.1.2/\(Ty.wf bE d.1->(0:Nat)<=d.1.2.length/\(((ah d.1.1/\ah d.1.2)/\(ah d.2.1/\ah d.2.2.1/\ah d.2.2.2.1/\ah d.2.2.2.2)/\(0:Int)=(↑(0:Nat):Int))/\(ah d.1.1/\ah d.1.2)/\(ah d.2.1/\ah d.2.2.1/\ah d.2.2.2.1/\ah d.2.2.2.2)/\(ah (0:Int)/\an)/\[d.2]=(cq (d.1.1,List.take (0:Nat) d.1.2) d.2).2/\ah d.1.1/\ah d.1.2/\ah d.1.1)/\∀(x:Nat),x<=d.1.2.length->(decide ((x:Int)<(d.1.2.length:Int))=true->((0:Int)<=(x:Int)/\(x:Int)<(d.1.2.length:Int))/\True/\((!decide (Prod.fst (d.1.2.getD ((x:Int).toNat) ([],(0:Int),[],[]))=d.2.1))=true->((0:Int)<=(x:Int)/\(x:Int)<(d.1.2.length:Int))/\(List.length (cq (d.1.1,List.take x d.1.2) d.2).2+List.length [d.1.2.getD ((x:Int).toNat) ([],(0:Int),[],[])])*(80:Nat)<=(140737488355328:Nat)/\∃(x':Nat),x'<=d.1.2.length/\d.1.2.length-x'<d.1.2.length-x/\((ah d.1.1/\ah d.1.2)/\(ah d.2.1/\ah d.2.2.1/\ah d.2.2.2.1/\ah d.2.2.2.2)/\i64.wrap ((x:Int)+(1:Int))=(x':Int))/\(ah d.1.1/\ah d.1.2)/\(ah d.2.1/\ah d.2.2.1/\ah d.2.2.2.1/\ah d.2.2.2.2)/\(ah (0:Int)/\an)/\(cq (d.1.1,List.take x d.1.2) d.2).2++[d.1.2.getD ((x:Int).toNat) ([],(0:Int),[],[])]=(cq (d.1.1,List.take x' d.1.2) d.2).2/\ah d.1.1/\ah d.1.2/\ah d.1.1)/\((!decide (Prod.fst (d.1.2.getD ((x:Int).toNat) ([],(0:Int),[],[]))=d.2.1))=false->∃(x':Nat),x'<=d.1.2.length/\d.1.2.length-x'<d.1.2.length-x/\((ah d.1.1/\ah d.1.2)/\(ah d.2.1/\ah d.2.2.1/\ah d.2.2.2.1/\ah d.2.2.2.2)/\i64.wrap ((x:Int)+(1:Int))=(x':Int))/\(ah d.1.1/\ah d.1.2)/\(ah d.2.1/\ah d.2.2.1/\ah d.2.2.2.1/\ah d.2.2.2.2)/\(ah (0:Int)/\an)/\(cq (d.1.1,List.take x d.1.2) d.2).2=(cq (d.1.1,List.take x' d.1.2) d.2).2/\ah d.1.1/\ah d.1.2/\ah d.1.1))/\(decide ((x:Int)<(d.1.2.length:Int))=false->(d.1.1,(cq (d.1.1,List.take x d.1.2) d.2).2)=cq d.1 d.2))):=by
  intro d hw hp
  obtain⟨fb,lZ⟩:=hp
  have hlen:=fb.1
  simp only[exists_const,forall_const,decide_eq_true_eq,decide_eq_false_iff_not,beq_iff_eq,sxS]
  refine⟨lZ.1,lZ.2,fun _ _=>⟨fb,fun _=>⟨Nat.zero_le _,⟨rfl,by simp[cq]⟩,fun x hx=>⟨fun h=>?_,fun h=>?_⟩⟩⟩⟩
  ·have h6:x<d.1.2.length:=by omega
   have eI:i64.wrap ((x:Int)+1)=((x+1:Nat):Int):=by rw[wrap_small (by omega)];rfl
   have hs:=Jp (c:=d.1.1) h6 d.2
   have hl:=CM (d.1.1,d.1.2.take x) d.2
   simp only[List.length_take] at hl
   refine⟨⟨by omega,h⟩,fun h7=>⟨⟨by omega,h⟩,by rw[List.length_singleton];omega,x+1,by omega,by omega,eI,hs.2 h7⟩,fun h7=>⟨x+1,by omega,by omega,eI,hs.1 h7⟩⟩
  ·have h6:x=d.1.2.length:=by omega
   rw[h6,List.take_length]
   rfl
theorem Iv{c:Ca}{key:List Int}(h:bL c=false\/aJ key c.2 0<0):ea c key=(c,(0,[],[]),false):=by
 unfold ea
 rw[if_neg]
 intro⟨h1,h2⟩
 rcases h with h|h
 ·rw[h] at h1;cases h1
 ·omega
theorem SC(r:Rs):bu cA r=r:=by
 show (r.1,List.map (bu ai) r.2.1,List.map (bu ai) r.2.2)=r
 rw[B6,B6];rfl
theorem RU(r:Rs):ids cA r=[]:=l6 cA rfl r
theorem CY{L:List eD}{i:Nat}(hi:i<L.length)(h:(L.flatMap eJ).Nodup):((L.getD i rG::(L.take i++L.drop (i+1))).flatMap eJ).Nodup:=by
 have hs:L=L.take i++L.getD i rG::L.drop (i+1):=by
  have:L.getD i rG=L[i]:=by simp[hi]
  rw[this,List.getElem_cons_drop,List.take_append_drop]
 have hp:List.Perm (L.getD i rG::(L.take i++L.drop (i+1))) L:=by
  conv=>rhs;rw[hs]
  exact List.perm_middle.symm
 exact ((hp.flatMap_right eJ).nodup_iff).2 h
theorem PO{cap:Int}{r:Int×List eD}{es:List En}{key:List Int}(h1:r.1=cap)(h2:r.2.map cx=es)(h3:bL (cap,es)=true){i:Nat}(hi:i<es.length)(hk:aJ key es 0=i) :
 ea (cap,es) key=((r.1,(r.2.getD i rG::(r.2.take i++r.2.drop (i+1))).map cx),((r.2.getD i rG).2.1,(r.2.getD i rG).2.2.1.2,(r.2.getD i rG).2.2.2.2),true):=by
 obtain⟨_,_,c3,c4,_⟩:=dJ h3
 have he:es.getD i ja=cx (r.2.getD i rG):=by
  have hl:r.2.length=es.length:=by rw[<-h2,List.length_map]
  rw[<-h2]
  simp[List.getD_eq_getElem?_getD,hl,hi]
 unfold ea
 simp only
 rw[if_pos ⟨h3,by omega⟩,hk,Int.toNat_natCast]
 unfold cq
 simp only
 rw[Ib hi c4,he,List.map_cons,List.map_append,List.map_take,List.map_drop,h2,h1]
 rfl
def q7(d:(Int×List (List Int×Int×List Int×List Int))×List Int)(r:Int×List ((Nat×List Int)×Int×(Nat×List Int)×Nat×List Int)):Prop :=
 (Ty.wf cA (Prod.fst (Prod.snd (List.getD (Prod.snd r) (Int.toNat (aJ (Prod.snd d) (Prod.snd (Prod.fst d)) (0:Int))) (((0:Nat),[]),(0:Int),((0:Nat),[]),(0:Nat),[]))),Prod.snd (Prod.fst (Prod.snd
 (Prod.snd (List.getD (Prod.snd r) (Int.toNat (aJ (Prod.snd d) (Prod.snd (Prod.fst d)) (0:Int))) (((0:Nat),[]),(0:Int),((0:Nat),[]),(0:Nat),[]))))),Prod.snd (Prod.snd (Prod.snd (Prod.snd (List.getD
 (Prod.snd r) (Int.toNat (aJ (Prod.snd d) (Prod.snd (Prod.fst d)) (0:Int))) (((0:Nat),[]),(0:Int),((0:Nat),[]),(0:Nat),[]))))))->(bu b8 (Prod.fst r,List.take (Int.toNat (0:Int)) (List.take
 (Int.toNat (aJ (Prod.snd d) (Prod.snd (Prod.fst d)) (0:Int))) (Prod.snd r)++List.drop (Int.toNat (IntKind.wrap i64 (aJ (Prod.snd d) (Prod.snd (Prod.fst d)) (0:Int)+(1:Int)))) (Prod.snd r)) ++
 [List.getD (Prod.snd r) (Int.toNat (aJ (Prod.snd d) (Prod.snd (Prod.fst d)) (0:Int))) (((0:Nat),[]),(0:Int),((0:Nat),[]),(0:Nat),[])]++List.drop (Int.toNat (0:Int)) (List.take (Int.toNat (aJ
 (Prod.snd d) (Prod.snd (Prod.fst d)) (0:Int))) (Prod.snd r)++List.drop (Int.toNat (IntKind.wrap i64 (aJ (Prod.snd d) (Prod.snd (Prod.fst d)) (0:Int)+(1:Int)))) (Prod.snd r))),bu cA (Prod.fst
 (Prod.snd (List.getD (Prod.snd r) (Int.toNat (aJ (Prod.snd d) (Prod.snd (Prod.fst d)) (0:Int))) (((0:Nat),[]),(0:Int),((0:Nat),[]),(0:Nat),[]))),Prod.snd (Prod.fst (Prod.snd (Prod.snd (List.getD
 (Prod.snd r) (Int.toNat (aJ (Prod.snd d) (Prod.snd (Prod.fst d)) (0:Int))) (((0:Nat),[]),(0:Int),((0:Nat),[]),(0:Nat),[]))))),Prod.snd (Prod.snd (Prod.snd (Prod.snd (List.getD (Prod.snd r)
 (Int.toNat (aJ (Prod.snd d) (Prod.snd (Prod.fst d)) (0:Int))) (((0:Nat),[]),(0:Int),((0:Nat),[]),(0:Nat),[])))))),bu Ty.bool true)=ea (Prod.fst d) (Prod.snd d)/\List.Nodup (ids b8
 (Prod.fst r,List.take (Int.toNat (0:Int)) (List.take (Int.toNat (aJ (Prod.snd d) (Prod.snd (Prod.fst d)) (0:Int))) (Prod.snd r)++List.drop (Int.toNat (IntKind.wrap i64 (aJ (Prod.snd d) (Prod.snd
 (Prod.fst d)) (0:Int)+(1:Int)))) (Prod.snd r))++[List.getD (Prod.snd r) (Int.toNat (aJ (Prod.snd d) (Prod.snd (Prod.fst d)) (0:Int))) (((0:Nat),[]),(0:Int),((0:Nat),[]),(0:Nat),[])] ++
 List.drop (Int.toNat (0:Int)) (List.take (Int.toNat (aJ (Prod.snd d) (Prod.snd (Prod.fst d)) (0:Int))) (Prod.snd r)++List.drop (Int.toNat (IntKind.wrap i64 (aJ (Prod.snd d) (Prod.snd (Prod.fst d))
 (0:Int)+(1:Int)))) (Prod.snd r)))++(ids cA (Prod.fst (Prod.snd (List.getD (Prod.snd r) (Int.toNat (aJ (Prod.snd d) (Prod.snd (Prod.fst d)) (0:Int))) (((0:Nat),[]),(0:Int),((0:Nat),[]),(0 :
 Nat),[]))),Prod.snd (Prod.fst (Prod.snd (Prod.snd (List.getD (Prod.snd r) (Int.toNat (aJ (Prod.snd d) (Prod.snd (Prod.fst d)) (0:Int))) (((0:Nat),[]),(0:Int),((0:Nat),[]),(0:Nat),[]))))),Prod.snd
 (Prod.snd (Prod.snd (Prod.snd (List.getD (Prod.snd r) (Int.toNat (aJ (Prod.snd d) (Prod.snd (Prod.fst d)) (0:Int))) (((0:Nat),[]),(0:Int),((0:Nat),[]),(0:Nat),[]))))))++ids Ty.bool true)))
def q8(d:(Int×List (List Int×Int×List Int×List Int))×List Int)(r:Int×List ((Nat×List Int)×Int×(Nat×List Int)×Nat×List Int)):Prop :=
 (True/\(0:Int)<=(0:Int)/\(0:Int)<=(↑(List.length (List.take (Int.toNat (aJ (Prod.snd d) (Prod.snd (Prod.fst d)) (0:Int))) (Prod.snd r)++List.drop (Int.toNat (IntKind.wrap i64 (aJ (Prod.snd
 d) (Prod.snd (Prod.fst d)) (0:Int)+(1:Int)))) (Prod.snd r))):Int)/\List.length [List.getD (Prod.snd r) (Int.toNat (aJ (Prod.snd d) (Prod.snd (Prod.fst d)) (0:Int))) (((0:Nat),[]),(0:Int),((0 :
 Nat),[]),(0:Nat),[])]=(1:Nat)/\(List.length (List.take (Int.toNat (aJ (Prod.snd d) (Prod.snd (Prod.fst d)) (0:Int))) (Prod.snd r)++List.drop (Int.toNat (IntKind.wrap i64 (aJ (Prod.snd d)
 (Prod.snd (Prod.fst d)) (0:Int)+(1:Int)))) (Prod.snd r))+(1:Nat))*(80:Nat)<=(140737488355328:Nat))
def q9(d:(Int×List (List Int×Int×List Int×List Int))×List Int)(r:Int×List ((Nat×List Int)×Int×(Nat×List Int)×Nat×List Int)):Prop :=
 ((0:Int)<=aJ (Prod.snd d) (Prod.snd (Prod.fst d)) (0:Int)/\aJ (Prod.snd d) (Prod.snd (Prod.fst d)) (0:Int)<=IntKind.wrap i64 (aJ (Prod.snd d) (Prod.snd (Prod.fst d)) (0:Int)+(1:Int)) ∧
 IntKind.wrap i64 (aJ (Prod.snd d) (Prod.snd (Prod.fst d)) (0:Int)+(1:Int))<=(↑(List.length (Prod.snd r)):Int))
def y9(d:(Int×List (List Int×Int×List Int×List Int))×List Int)(r:Int×List ((Nat×List Int)×Int×(Nat×List Int)×Nat×List Int)):Prop :=
 ((q9 d r)/\(q8 d r)/\dF (Prod.fst (Prod.snd (List.getD (Prod.snd r) (Int.toNat (aJ (Prod.snd d) (Prod.snd (Prod.fst d)) (0:Int))) (((0:Nat),[]),(0:Int),((0:Nat),[]),(0:Nat),[]))),Prod.snd
 (Prod.fst (Prod.snd (Prod.snd (List.getD (Prod.snd r) (Int.toNat (aJ (Prod.snd d) (Prod.snd (Prod.fst d)) (0:Int))) (((0:Nat),[]),(0:Int),((0:Nat),[]),(0:Nat),[]))))),Prod.snd (Prod.snd (Prod.snd
 (Prod.snd (List.getD (Prod.snd r) (Int.toNat (aJ (Prod.snd d) (Prod.snd (Prod.fst d)) (0:Int))) (((0:Nat),[]),(0:Int),((0:Nat),[]),(0:Nat),[]))))))/\(q7 d r))
def JJ(d:(Int×List (List Int×Int×List Int×List Int))×List Int)(r:Int×List ((Nat×List Int)×Int×(Nat×List Int)×Nat×List Int)):Prop :=
 (((y9 d r)/\(y9 d r)/\(q9 d r)/\(q8 d r)/\dF (Prod.fst (Prod.snd (List.getD (Prod.snd r) (Int.toNat (aJ (Prod.snd d) (Prod.snd (Prod.fst d)) (0:Int))) (((0:Nat),[]),(0:Int),((0:Nat),[]),(0
 : Nat),[]))),Prod.snd (Prod.fst (Prod.snd (Prod.snd (List.getD (Prod.snd r) (Int.toNat (aJ (Prod.snd d) (Prod.snd (Prod.fst d)) (0:Int))) (((0:Nat),[]),(0:Int),((0:Nat),[]),(0:Nat),[]))))),
 Prod.snd (Prod.snd (Prod.snd (Prod.snd (List.getD (Prod.snd r) (Int.toNat (aJ (Prod.snd d) (Prod.snd (Prod.fst d)) (0:Int))) (((0:Nat),[]),(0:Int),((0:Nat),[]),(0:Nat),[]))))))/\(q7 d r))/\((y9
 d r)/\(q9 d r)/\(q8 d r)/\dF (Prod.fst (Prod.snd (List.getD (Prod.snd r) (Int.toNat (aJ (Prod.snd d) (Prod.snd (Prod.fst d)) (0:Int))) (((0:Nat),[]),(0:Int),((0:Nat),[]),(0:Nat),[]))),
 Prod.snd (Prod.fst (Prod.snd (Prod.snd (List.getD (Prod.snd r) (Int.toNat (aJ (Prod.snd d) (Prod.snd (Prod.fst d)) (0:Int))) (((0:Nat),[]),(0:Int),((0:Nat),[]),(0:Nat),[]))))),Prod.snd (Prod.snd
 (Prod.snd (Prod.snd (List.getD (Prod.snd r) (Int.toNat (aJ (Prod.snd d) (Prod.snd (Prod.fst d)) (0:Int))) (((0:Nat),[]),(0:Int),((0:Nat),[]),(0:Nat),[]))))))/\(q7 d r))/\(q9 d r)/\(q8 d r) ∧
 dF (Prod.fst (Prod.snd (List.getD (Prod.snd r) (Int.toNat (aJ (Prod.snd d) (Prod.snd (Prod.fst d)) (0:Int))) (((0:Nat),[]),(0:Int),((0:Nat),[]),(0:Nat),[]))),Prod.snd (Prod.fst (Prod.snd (Prod.snd
 (List.getD (Prod.snd r) (Int.toNat (aJ (Prod.snd d) (Prod.snd (Prod.fst d)) (0:Int))) (((0:Nat),[]),(0:Int),((0:Nat),[]),(0:Nat),[]))))),Prod.snd (Prod.snd (Prod.snd (Prod.snd (List.getD (Prod.snd
 r) (Int.toNat (aJ (Prod.snd d) (Prod.snd (Prod.fst d)) (0:Int))) (((0:Nat),[]),(0:Int),((0:Nat),[]),(0:Nat),[]))))))/\(q7 d r))
def JK(d:(Int×List (List Int×Int×List Int×List Int))×List Int)(r:Int×List ((Nat×List Int)×Int×(Nat×List Int)×Nat×List Int)):Prop :=
 (((y9 d r)/\(q9 d r)/\(q8 d r)/\dF (Prod.fst (Prod.snd (List.getD (Prod.snd r) (Int.toNat (aJ (Prod.snd d) (Prod.snd (Prod.fst d)) (0:Int))) (((0:Nat),[]),(0:Int),((0:Nat),[]),(0:Nat),
 []))),Prod.snd (Prod.fst (Prod.snd (Prod.snd (List.getD (Prod.snd r) (Int.toNat (aJ (Prod.snd d) (Prod.snd (Prod.fst d)) (0:Int))) (((0:Nat),[]),(0:Int),((0:Nat),[]),(0:Nat),[]))))),Prod.snd
 (Prod.snd (Prod.snd (Prod.snd (List.getD (Prod.snd r) (Int.toNat (aJ (Prod.snd d) (Prod.snd (Prod.fst d)) (0:Int))) (((0:Nat),[]),(0:Int),((0:Nat),[]),(0:Nat),[]))))))/\(q7 d r))/\(q9 d r) ∧
 (q8 d r)/\dF (Prod.fst (Prod.snd (List.getD (Prod.snd r) (Int.toNat (aJ (Prod.snd d) (Prod.snd (Prod.fst d)) (0:Int))) (((0:Nat),[]),(0:Int),((0:Nat),[]),(0:Nat),[]))),Prod.snd (Prod.fst
 (Prod.snd (Prod.snd (List.getD (Prod.snd r) (Int.toNat (aJ (Prod.snd d) (Prod.snd (Prod.fst d)) (0:Int))) (((0:Nat),[]),(0:Int),((0:Nat),[]),(0:Nat),[]))))),Prod.snd (Prod.snd (Prod.snd (Prod.snd
 (List.getD (Prod.snd r) (Int.toNat (aJ (Prod.snd d) (Prod.snd (Prod.fst d)) (0:Int))) (((0:Nat),[]),(0:Int),((0:Nat),[]),(0:Nat),[]))))))/\(q7 d r))
theorem HA :
 ∀(d:(Int×List (List Int×Int×List Int×List Int))×List Int),Ty.wf bE d.1/\Ty.wf aC d.2->bH d.1.2/\d.2.length<=(1048576:Nat)->bH d.1.2/\∀(r:Int×List ((Nat×List Int)×Int×(Nat×List Int)×Nat×List Int)),bu b8 r=d.1->List.Nodup (ids b8 r)->Ty.wf b8 r->True->True/\(Ty.wf ai (aJ d.2 d.1.2 (0:Int))->bH d.1.2/\((!bL d.1)=true->(bu b8 r,bu cA ((0:Int),[],[]),bu Ty.bool false)=ea d.1 d.2/\List.Nodup (ids b8 r++(ids cA ((0:Int),[],[])++ids Ty.bool false)))/\((!bL d.1)=false->(decide (aJ d.2 d.1.2 (0:Int)<(0:Int))=true->(bu b8 r,bu cA ((0:Int),[],[]),bu Ty.bool false)=ea d.1 d.2/\List.Nodup (ids b8 r++(ids cA ((0:Int),[],[])++ids Ty.bool false)))/\(decide (aJ d.2 d.1.2 (0:Int)<(0:Int))=false->((0:Int)<=aJ d.2 d.1.2 (0:Int)/\aJ d.2 d.1.2 (0:Int)<(r.2.length:Int))/\(JJ d r)/\(JJ d r)/\(JK d r)/\(JK d r)/\(y9 d r)/\(q9 d r)/\(q8 d r)/\dF (Prod.fst (r.2.getD (Int.toNat (aJ d.2 d.1.2 (0:Int))) (((0:Nat),[]),(0:Int),((0:Nat),[]),(0:Nat),[])).2,(r.2.getD (Int.toNat (aJ d.2 d.1.2 (0:Int))) (((0:Nat),[]),(0:Int),((0:Nat),[]),(0:Nat),[])).2.2.1.2,(r.2.getD (Int.toNat (aJ d.2 d.1.2 (0:Int))) (((0:Nat),[]),(0:Int),((0:Nat),[]),(0:Nat),[])).2.2.2.2)/\(q7 d r)))):=by
  intro d hw hp
  refine⟨hp.1,fun r h1 h2 h3 _=>⟨trivial,fun hk=>⟨hp.1,fun h4=>?_,fun h4=>⟨fun h5=>?_,fun h5=>?_⟩⟩⟩⟩
  ·have h4:bL d.1=false:=by simpa using h4
   refine⟨?_,?_⟩
   ·rw[Iv (.inl h4),SC]
    exact congrArg (fun x=>(x,((0:Int),([]:List Int),([]:List Int)),false)) h1
   ·rw[RU];simpa[ids] using h2
  ·have h5:aJ d.2 d.1.2 0<0:=by simpa using h5
   refine⟨?_,?_⟩
   ·rw[Iv (.inr h5),SC]
    exact congrArg (fun x=>(x,((0:Int),([]:List Int),([]:List Int)),false)) h1
   ·rw[RU];simpa[ids] using h2
  ·have h4:bL d.1=true:=by simpa using h4
   have h5:¬aJ d.2 d.1.2 0<0:=by simpa using h5
   obtain⟨q1,q2⟩:=yR h1
   obtain⟨i,hi,E4,Rm⟩:=ze (Int.le_refl 0) (by omega:0<=aJ d.2 d.1.2 0)
   rw[Int.zero_add] at E4
   have hl:r.2.length=d.1.2.length:=by rw[<-q2,List.length_map]
   have hlen:=hp.1.1
   have e1:(aJ d.2 d.1.2 0).toNat=i:=by omega
   have e2:i64.wrap (aJ d.2 d.1.2 0+1)=((i+1:Nat):Int):=by rw[wrap_small (by omega)];omega
   have hE:nj (cx (r.2.getD i rG)):=by
    have:=qG hp.1 hi
    rw[<-q2] at this
    have hx:(r.2.map cx).getD i ja=cx (r.2.getD i rG):=by simp[List.getD_eq_getElem?_getD,hl,hi]
    rw[show (([],0,[],[]):En)=ja from rfl,hx] at this
    exact this
   have L0:(0:Int)<=aJ d.2 d.1.2 0/\aJ d.2 d.1.2 0<(r.2.length:Int):=by omega
   have L4:q9 d r:=by
    unfold q9
    rw[e2,E4];omega
   have L2:q8 d r:=by
    unfold q8
    rw[e1,e2,Int.toNat_natCast,List.length_append,List.length_take,List.length_drop]
    refine⟨trivial,by omega,by omega,rfl,by omega⟩
   have LR:dF ((r.2.getD (aJ d.2 d.1.2 0).toNat rG).2.1,(r.2.getD (aJ d.2 d.1.2 0).toNat rG).2.2.1.2,(r.2.getD (aJ d.2 d.1.2 0).toNat rG).2.2.2.2):=by
    rw[e1];exact hE.2
   have L1:q7 d r:=by
    unfold q7
    intro _
    rw[e1,e2,Int.toNat_natCast,show Int.toNat 0=0 from rfl,List.take_zero,List.drop_zero,List.nil_append,List.singleton_append]
    rw[Km,SC,BH,RU]
    refine⟨(PO q1 q2 h4 hi E4).symm,?_⟩
    rw[show ids Ty.bool true=[] from rfl,List.append_nil,List.append_nil]
    rw[BH] at h2
    exact CY (by omega) h2
   have VJ:q7 d r:=by
    unfold q7
    repeat' (first|assumption|exact L1|exact L2|exact L4|exact LR|apply And.intro)
   have VK:q8 d r:=by
    unfold q8
    repeat' (first|assumption|exact L1|exact L2|exact L4|exact LR|apply And.intro)
   have VM:q9 d r:=by
    unfold q9
    repeat' (first|assumption|exact L1|exact L2|exact L4|exact LR|apply And.intro)
   have VL:y9 d r:=by
    unfold y9
    repeat' (first|assumption|exact L1|exact L2|exact L4|exact LR|apply And.intro)
   have VN:JJ d r:=by
    unfold JJ
    repeat' (first|assumption|exact L1|exact L2|exact L4|exact LR|apply And.intro)
   have VO:JK d r:=by
    unfold JK
    repeat' (first|assumption|exact L1|exact L2|exact L4|exact LR|apply And.intro)
   repeat' (first|assumption|exact L1|exact L2|exact L4|exact LR|apply And.intro)
theorem Hx :
 ∀(d:(Int×List (List Int×Int×List Int×List Int))×List Int),Ty.wf bE d.1/\Ty.wf aC d.2->bH d.1.2/\d.2.length<=(1048576:Nat)->(bH d.1.2/\d.2.length<=(1048576:Nat))/\∀(r:(Int×List ((Nat×List Int)×Int×(Nat×List Int)×Nat×List Int))×(Int×List Int×List Int)×Bool),(bu b8 r.1,bu cA r.2.1,bu Ty.bool r.2.2)=ea d.1 d.2->List.Nodup (ids b8 r.1++(ids cA r.2.1++ids Ty.bool r.2.2))->Ty.wf b8 r.1/\Ty.wf cA r.2.1/\Ty.wf Ty.bool r.2.2->True->(bu b8 r.1,bu cA r.2.1,bu Ty.bool r.2.2)=ea d.1 d.2/\List.Nodup (ids b8 r.1++(ids cA r.2.1++ids Ty.bool r.2.2)):=by
  intro d hw hp
  exact⟨hp,fun r h1 h2 _ _=>⟨h1,h2⟩⟩
theorem ot{c:Ca}{key:List Int}{r:Rs}(h:bL c=false\/5000<key.length\/c.1<(fm r:Int)):aQ c key r=(c,false):=by
 unfold aQ
 rw[if_neg]
 intro⟨h1,h2,h3⟩
 rcases h with h|h|h
 ·rw[h] at h1;cases h1
 ·omega
 ·omega
theorem KP{r:Int×List eD}{c:Ca}(h:bu ez r=c):r.1=c.1/\r.2.map cx=c.2:=by
 rw[Pa] at h
 exact⟨congrArg Prod.fst h,congrArg Prod.snd h⟩
theorem Dg{c:Ca}{key:List Int}{r:Rs}{x:List eD}{k:Int}(h1:bL c=true)(h2:¬5000<key.length)(h3:¬c.1<(fm r:Int))(hx:x.map cx=(cq c (key,r)).2)(hk:k=c.1) :
 ((k,(x.take (bA k (x.map cx) x.length)).map cx),true)=aQ c key r:=by
 unfold aQ
 rw[if_pos ⟨h1,by omega,by omega⟩,Tg hx,hk]
 rfl
theorem Kw :
 ∀(d:(Int×List (List Int×Int×List Int×List Int))×List Int×Int×List Int×List Int),Ty.wf bE d.1/\Ty.wf aC d.2.1/\Ty.wf cA d.2.2->bH d.1.2/\d.2.1.length<=(1048576:Nat)/\dF d.2.2->bH d.1.2/\((!bL d.1)=true->bH d.1.2/\∀(r:Int×List ((Nat×List Int)×Int×(Nat×List Int)×Nat×List Int)),bu ez r=d.1->True->Ty.wf ez r->True->(bu ez r,bu Ty.bool false)=aQ d.1 d.2.1 d.2.2)/\((!bL d.1)=false->(decide ((5000:Int)<(d.2.1.length:Int))=true->bH d.1.2/\∀(r:Int×List ((Nat×List Int)×Int×(Nat×List Int)×Nat×List Int)),bu ez r=d.1->True->Ty.wf ez r->True->(bu ez r,bu Ty.bool false)=aQ d.1 d.2.1 d.2.2)/\(decide ((5000:Int)<(d.2.1.length:Int))=false->dF d.2.2/\(Ty.wf ai (fm d.2.2:Int)->(decide (d.1.1<(fm d.2.2:Int))=true->bH d.1.2/\∀(r:Int×List ((Nat×List Int)×Int×(Nat×List Int)×Nat×List Int)),bu ez r=d.1->True->Ty.wf ez r->True->(bu ez r,bu Ty.bool false)=aQ d.1 d.2.1 d.2.2)/\(decide (d.1.1<(fm d.2.2:Int))=false->(bH d.1.2/\nj d.2)/\∀(r:Int×List ((Nat×List Int)×Int×(Nat×List Int)×Nat×List Int)),bu ez r=cq d.1 d.2->True->Ty.wf ez r->True->(bH (List.map cx r.2)/\(0:Int)<=r.1)/\True/\(bu ez (r.1,List.take (bA r.1 (List.map cx r.2) r.2.length) r.2),bu Ty.bool true)=aQ d.1 d.2.1 d.2.2)))):=by
  intro d hw hp
  obtain⟨fb,lZ,AA⟩:=hp
  have hu:∀ b:Bool,bu Ty.bool b=b:=fun b=>rfl
  simp only[exists_const,forall_const,decide_eq_true_eq,decide_eq_false_iff_not,beq_iff_eq,sxS]
  simp only[hu]
  refine⟨fb,fun h=>⟨fb,fun r h1 _=>by rw[ot (.inl h)];exact congrArg (fun x=>(x,false)) h1⟩,fun h=>⟨fun h5=>⟨fb,fun r h1 _=>by rw[ot (.inr (.inl (by omega)))];exact congrArg (fun x=>(x,false)) h1⟩,fun h5=>⟨AA,fun _=>⟨fun h6=>⟨fb,fun r h1 _=>by rw[ot (.inr (.inr h6))];exact congrArg (fun x=>(x,false)) h1⟩,fun h6=>⟨⟨fb,lZ,AA⟩,fun r h1 _=>?_⟩⟩⟩⟩⟩
  obtain⟨c1,c2,c3,c4,_⟩:=dJ h
  obtain⟨q1,q2⟩:=KP h1
  have hF:=vR (e:=d.2) fb ⟨lZ,AA⟩ (by omega)
  refine⟨⟨by rw[q2];exact hF,by rw[q1];exact c1⟩,?_⟩
  rw[Pa]
  exact Dg h (by omega) h6 q2 q1
theorem NI{L:List eD}{e:eD}(h:(L.flatMap eJ).Nodup)(he:(eJ e).Nodup)(hx:∀ b∈eJ e,b ∉ L.flatMap eJ):((e::L).flatMap eJ).Nodup:=by
 rw[List.flatMap_cons,List.nodup_append]
 exact⟨he,h,fun a ha b hb e=>by subst e;exact hx a ha hb⟩
theorem Ko :
 ∀(d:(Int×List (List Int×Int×List Int×List Int))×List Int×Int×List Int×List Int),Ty.wf bE d.1/\Ty.wf aC d.2.1/\Ty.wf cA d.2.2->bH d.1.2/\d.2.1.length<=(1048576:Nat)/\dF d.2.2->bH d.1.2/\∀(r:Int×List ((Nat×List Int)×Int×(Nat×List Int)×Nat×List Int)),bu b8 r=d.1->List.Nodup (ids b8 r)->Ty.wf b8 r->True->nj d.2/\(Ty.wf gZ d.2->bH d.1.2/\((!bL d.1)=true->(bu b8 r,bu Ty.bool false)=aQ d.1 d.2.1 d.2.2/\List.Nodup (ids b8 r++ids Ty.bool false))/\((!bL d.1)=false->(decide ((5000:Int)<(d.2.1.length:Int))=true->(bu b8 r,bu Ty.bool false)=aQ d.1 d.2.1 d.2.2/\List.Nodup (ids b8 r++ids Ty.bool false))/\(decide ((5000:Int)<(d.2.1.length:Int))=false->nj d.2/\(Ty.wf ai (fm d.2.2:Int)->(decide (d.1.1<(fm d.2.2:Int))=true->(bu b8 r,bu Ty.bool false)=aQ d.1 d.2.1 d.2.2/\List.Nodup (ids b8 r++ids Ty.bool false))/\(decide (d.1.1<(fm d.2.2:Int))=false->(True/\(Ty.wf ai (aJ d.2.1 (gG dx r.2) (0:Int))->(decide ((0:Int)<=aJ d.2.1 (gG dx r.2) (0:Int))=true->((0:Int)<=aJ d.2.1 (gG dx r.2) (0:Int)/\aJ d.2.1 (gG dx r.2) (0:Int)<=i64.wrap (aJ d.2.1 (gG dx r.2) (0:Int)+(1:Int))/\i64.wrap (aJ d.2.1 (gG dx r.2) (0:Int)+(1:Int))<=(r.2.length:Int))/\∃(x':List ((Nat×List Int)×Int×(Nat×List Int)×Nat×List Int)),(List.map cx x'=List.filter (fun (o:En)=>decide (o.1≠d.2.1)) d.1.2/\List.Nodup (y8 x')/\bL d.1=true/\d.2.1.length<=(5000:Nat)/\(fm d.2.2:Int)<=d.1.1)/\((ah d.1.1/\ah d.1.2)/\ah d.2.1/\ah d.2.2.1/\ah d.2.2.2.1/\ah d.2.2.2.2)/\(ah d.1.1/\ah d.1.2)/\(ah d.2.2.1/\ah d.2.2.2.1/\ah d.2.2.2.2)/\(ah (0:Int)/\an)/\List.take (Int.toNat (aJ d.2.1 (gG dx r.2) (0:Int))) r.2++List.drop (Int.toNat (i64.wrap (aJ d.2.1 (gG dx r.2) (0:Int)+(1:Int)))) r.2=x'/\r.1=d.1.1/\ah d.2.1/\ah d.2.2.2.1/\ah d.2.2.2.2/\ah d.2.2.1)/\(decide ((0:Int)<=aJ d.2.1 (gG dx r.2) (0:Int))=false->∃(x':List ((Nat×List Int)×Int×(Nat×List Int)×Nat×List Int)),(List.map cx x'=List.filter (fun (o:En)=>decide (o.1≠d.2.1)) d.1.2/\List.Nodup (y8 x')/\bL d.1=true/\d.2.1.length<=(5000:Nat)/\(fm d.2.2:Int)<=d.1.1)/\((ah d.1.1/\ah d.1.2)/\ah d.2.1/\ah d.2.2.1/\ah d.2.2.2.1/\ah d.2.2.2.2)/\(ah d.1.1/\ah d.1.2)/\(ah d.2.2.1/\ah d.2.2.2.1/\ah d.2.2.2.2)/\(ah (0:Int)/\an)/\r.2=x'/\r.1=d.1.1/\ah d.2.1/\ah d.2.2.2.1/\ah d.2.2.2.2/\ah d.2.2.1)))/\∀(x:List ((Nat×List Int)×Int×(Nat×List Int)×Nat×List Int)),List.map cx x=List.filter (fun (o:En)=>decide (o.1≠d.2.1)) d.1.2/\List.Nodup (y8 x)/\bL d.1=true/\d.2.1.length<=(5000:Nat)/\(fm d.2.2:Int)<=d.1.1->(∀(b:Nat),¬b∈bV dx x->∀(gk:Nat),(¬gk∈bV dx x/\¬gk∈ids (Ty.gs true kT) (b,d.2.1))/\gk≠b->∀(gl:Nat),(¬gl∈bV dx x/\¬gl∈ids (Ty.gs true kT) (b,d.2.1)/\¬gl∈ids (Ty.gs true (Ty.int i64)) (gk,d.2.2.2.1))/\gl≠gk/\gl≠b->(True/\(0:Int)<=(0:Int)/\(0:Int)<=(x.length:Int)/\List.length [((b,d.2.1),d.2.2.1,(gk,d.2.2.2.1),gl,d.2.2.2.2)]=(1:Nat)/\(x.length+(1:Nat))*(80:Nat)<=(140737488355328:Nat))/\∃(x':List ((Nat×List Int)×Int×(Nat×List Int)×Nat×List Int)),(List.map cx x'=(cq d.1 d.2).2/\List.Nodup (y8 x')/\bL d.1=true/\d.2.1.length<=(5000:Nat)/\(fm d.2.2:Int)<=d.1.1)/\((ah d.1.1/\ah d.1.2)/\ah d.2.1/\ah d.2.2.1/\ah d.2.2.2.1/\ah d.2.2.2.2)/\(ah d.1.1/\ah d.1.2)/\(ah d.2.2.1/\ah d.2.2.2.1/\ah d.2.2.2.2)/\(ah (0:Int)/\an)/\List.take ((0:Int).toNat) x++[((b,d.2.1),d.2.2.1,(gk,d.2.2.2.1),gl,d.2.2.2.2)]++List.drop ((0:Int).toNat) x=x'/\ah d.1.1)/\∀(x:List ((Nat×List Int)×Int×(Nat×List Int)×Nat×List Int)),List.map cx x=(cq d.1 d.2).2/\List.Nodup (y8 x)/\bL d.1=true/\d.2.1.length<=(5000:Nat)/\(fm d.2.2:Int)<=d.1.1->(bH (List.map cx x)/\(0:Int)<=d.1.1)/\True/\(bu b8 (d.1.1,List.take (bA d.1.1 (List.map cx x) x.length) x),bu Ty.bool true)=aQ d.1 d.2.1 d.2.2/\List.Nodup (ids b8 (d.1.1,List.take (bA d.1.1 (List.map cx x) x.length) x)++ids Ty.bool true)))))):=by
  intro d hw hp
  obtain⟨fb,lZ,AA⟩:=hp
  have hu:∀ b:Bool,bu Ty.bool b=b:=fun b=>rfl
  have hi:∀ b:Bool,ids Ty.bool b=[]:=fun b=>rfl
  simp only[exists_const,forall_const,decide_eq_true_eq,decide_eq_false_iff_not,beq_iff_eq,sxS]
  simp only[hu,hi,List.append_nil,N7,Nr,AE,show Int.toNat 0=0 from rfl,List.take_zero,List.drop_zero,List.nil_append,List.singleton_append]
  refine⟨fb,fun r h1 h2 _=>⟨⟨lZ,AA⟩,fun _=>⟨fb,fun h=>⟨?_,h2⟩,fun h=>⟨fun h5=>⟨?_,h2⟩,fun h5=>⟨⟨lZ,AA⟩,fun _=>⟨fun h6=>⟨?_,h2⟩,fun h6=>⟨fun _=>⟨fun h7=>?_,fun h7=>?_⟩,fun x hx=>⟨fun b hb b1 dW b2 jW=>?_,fun x hx=>?_⟩⟩⟩⟩⟩⟩⟩⟩
  ·rw[ot (.inl h)];exact congrArg (fun x=>(x,false)) h1
  ·rw[ot (.inr (.inl (by omega)))];exact congrArg (fun x=>(x,false)) h1
  ·rw[ot (.inr (.inr h6))];exact congrArg (fun x=>(x,false)) h1
  ·obtain⟨c1,c2,c3,c4,_⟩:=dJ h
   obtain⟨q1,q2⟩:=yR h1
   rw[q2] at h7 ⊢
   obtain⟨i,c7,E4,Rm⟩:=ze (Int.le_refl 0) h7
   rw[Int.zero_add] at E4
   have hl:r.2.length=d.1.2.length:=by rw[<-q2,List.length_map]
   have e2:i64.wrap (aJ d.2.1 d.1.2 0+1)=((i+1:Nat):Int):=by rw[wrap_small (by omega)];omega
   rw[e2,E4,Int.toNat_natCast,Int.toNat_natCast]
   refine⟨by omega,_,⟨?_,?_,h,by omega,by omega⟩,rfl,q1⟩
   ·rw[List.map_append,List.map_take,List.map_drop,q2,<-Rm]
    exact (Ib c7 c4).symm
   ·rw[BH] at h2
    have:=CY (i:=i) (by omega) h2
    rw[List.flatMap_cons,List.nodup_append] at this
    exact this.2.1
  ·obtain⟨q1,q2⟩:=yR h1
   rw[q2] at h7
   rw[BH] at h2
   exact⟨_,⟨by rw[K2 (by omega)];exact q2,h2,h,by omega,by omega⟩,rfl,q1⟩
  ·obtain⟨x1,x2,x3,x4,x5⟩:=hx
   obtain⟨c1,c2,c3,c4,_⟩:=dJ h
   have hl:x.length<=30:=by
    rw[<-List.length_map (f:=cx),x1]
    exact Nat.le_trans (List.length_filter_le _ _) c3
   refine⟨⟨by omega,by omega,rfl,by omega⟩,_,⟨?_,?_,h,x4,x5⟩,rfl⟩
   ·rw[List.map_cons,x1];rfl
   ·refine NI x2 (Iq dW.2 jW.2.1 jW.2.2 _ _ _ _) (fun i hi=>?_)
    rcases LA hi with rfl|rfl|rfl
    ·exact hb
    ·exact dW.1.1
    ·exact jW.1.1
  ·obtain⟨x1,x2,x3,x4,x5⟩:=hx
   obtain⟨c1,c2,c3,c4,_⟩:=dJ h
   refine⟨⟨by rw[x1];exact vR fb ⟨lZ,AA⟩ (by omega),c1⟩,?_,?_⟩
   ·rw[Km]
    exact Dg h (by omega) h6 x1 rfl
   ·rw[BH]
    exact Ns x2 _
theorem Kn :
 ∀(d:(Int×List (List Int×Int×List Int×List Int))×List Int×Int×List Int×List Int),Ty.wf bE d.1/\Ty.wf aC d.2.1/\Ty.wf cA d.2.2->bH d.1.2/\d.2.1.length<=(1048576:Nat)/\dF d.2.2->(bH d.1.2/\d.2.1.length<=(1048576:Nat)/\dF d.2.2)/\∀(r:(Int×List ((Nat×List Int)×Int×(Nat×List Int)×Nat×List Int))×Bool),(bu b8 r.1,bu Ty.bool r.2)=aQ d.1 d.2.1 d.2.2->List.Nodup (ids b8 r.1++ids Ty.bool r.2)->Ty.wf b8 r.1/\Ty.wf Ty.bool r.2->True->(bu b8 r.1,bu Ty.bool r.2)=aQ d.1 d.2.1 d.2.2/\List.Nodup (ids b8 r.1++ids Ty.bool r.2):=by
  intro d hw hp
  exact⟨hp,fun r h1 h2 _ _=>⟨h1,h2⟩⟩
theorem Qe :
 ∀(d:List Int),Ty.wf Ok d->True->decide ((1048576:Int)<(d.length:Int))=I2 d:=by
  intro d _ _;rfl
set_option maxRecDepth 10000
theorem xw{p A B k:Int}(h:A=B+p*k):A%p=B%p:=by rw[h,Int.add_mul_emod_self_left]
theorem rV(x p:Int):∃ k,x%p=x+p*k:=⟨-(x/p),by rw[Int.emod_def,Int.mul_neg];rfl⟩
theorem eh{p:Int}(h:0<p)(x:Int):El p (x%p):=⟨Int.emod_nonneg x (by omega),Int.emod_lt_of_pos x h⟩
theorem nS{p x:Int}(h:El p x):x%p=x:=Int.emod_eq_of_lt h.1 h.2
theorem dy(p a b:Int):a%p*b%p=a*b%p:=by
 obtain⟨k,hk⟩:=rV a p
 exact xw (k:=k*b) (by rw[hk];grind)
theorem dz(p a b:Int):a*(b%p)%p=a*b%p:=by rw[Int.mul_comm,dy,Int.mul_comm]
theorem gN(p a b:Int):(a%p+b)%p=(a+b)%p:=by
 obtain⟨k,hk⟩:=rV a p
 exact xw (k:=k) (by rw[hk];grind)
theorem gO(p a b:Int):(a+b%p)%p=(a+b)%p:=by rw[Int.add_comm,gN,Int.add_comm]
theorem My(p a b:Int):(a%p-b)%p=(a-b)%p:=by
 obtain⟨k,hk⟩:=rV a p
 exact xw (k:=k) (by rw[hk];grind)
theorem Mz(p a b:Int):(a-b%p)%p=(a-b)%p:=by
 obtain⟨k,hk⟩:=rV b p
 exact xw (k := -k) (by rw[hk];grind)
theorem pow_mod(p a:Int):∀ n:Nat,(a%p)^n%p=a^n%p
 | 0=>by rw[Int.pow_zero,Int.pow_zero]
 | n+1=>by
   rw[Int.pow_succ,Int.pow_succ,dz,<-dy,pow_mod p a n,dy]
theorem zt{p x:Int}(hx:0<=x):x.tmod p=x%p:=Int.tmod_eq_emod_of_nonneg hx
theorem tmod_neg{p x:Int}(hp:0<p)(hx:x<0):x.tmod p=x%p/\x%p=0\/x.tmod p=x%p-p/\0<x%p:=by
 have h:=Int.emod_nonneg x (show p≠0 by omega)
 by_cases hd:p ∣ x
 ·exact .inl ⟨by rw[Int.tmod_eq_emod,if_pos (.inr hd)];exact Int.sub_zero _,Int.emod_eq_zero_of_dvd hd⟩
 ·refine .inr ⟨?_,?_⟩
  ·rw[Int.tmod_eq_emod,if_neg (by rintro (h|h);omega;exact hd h)]
   omega
  ·have:x%p≠0:=fun e=>hd (Int.dvd_of_emod_eq_zero e)
   omega
theorem zq{p x:Int}(hp:0<p):x.tmod p=x%p/\(0<=x\/x%p=0)\/x.tmod p=x%p-p/\0<x%p/\x<0:=by
 by_cases h:0<=x
 ·exact .inl ⟨zt h,.inl h⟩
 ·rcases tmod_neg hp (show x<0 by omega) with h1|h1
  ·exact .inl ⟨h1.1,.inr h1.2⟩
  ·exact .inr ⟨h1.1,h1.2,by omega⟩
theorem L6(f:Int):ae f=0/\¬(0<=f/\f<9)\/bg (ae f)/\0<=f/\f<9:=by
 by_cases h:0<=f/\f<9
 ·have hb:=n9 h
  exact .inr ⟨⟨hb.1,hb.2.1⟩,h⟩
 ·exact .inl ⟨uE h,h⟩
theorem cH{f:Int}(h:ae f≠0):bg (ae f)/\0<=f/\f<9:=by
 rcases L6 f with h1|h1
 ·exact absurd h1.1 h
 ·exact h1
theorem l7{p a b:Int}(hp:bg p)(ha:El p a)(hb:El p b):0<=a*b/\a*b<=1009095135000000000:=by
 unfold bg at hp
 unfold El at ha hb
 have h1:a*b<=1004535808*1004535808:=Int.mul_le_mul (by omega) (by omega) hb.1 (by omega)
 exact⟨Int.mul_nonneg ha.1 hb.1,by omega⟩
theorem rW{p a b:Int}(hp:bg p)(ha:El p a)(hb:El p b):(i64.wrap (a*b)).tmod p=mulM p a b:=by
 have h:=l7 hp ha hb
 rw[wrap_small (by omega),zt h.1];rfl
theorem xm{p:Int}(hp:bg p)(a b:Int):El p (mulM p a b):=eh (by unfold bg at hp;omega) _
theorem Bx{p:Int}(hp:bg p)(a b:Int):El p (mq p a b):=eh (by unfold bg at hp;omega) _
theorem H9{p:Int}(hp:bg p)(a b:Int):El p (lP p a b):=eh (by unfold bg at hp;omega) _
theorem H7{p:Int}(hp:bg p)(a:Int)(e:Nat):El p (eO p a e):=eh (by unfold bg at hp;omega) _
theorem Pw{p:Int}(hp:bg p)(a:Int):El p (hD p a):=H7 hp _ _
theorem s7{p:Int}(hp:bg p):El p 1:=by unfold bg at hp;exact⟨by omega,by omega⟩
theorem s8{p:Int}(hp:bg p):El p 0:=by unfold bg at hp;exact⟨by omega,by omega⟩
theorem Mr{f:Int}(h:ae f=0)(x:Int):dt f x = -1:=by unfold dt;rw[if_pos h]
theorem iB{f:Int}(h:ae f≠0)(x:Int):dt f x=x%ae f:=by unfold dt;rw[if_neg h]
theorem Bo{f:Int}(h:ae f≠0)(a b:Int):mr f a b=mq (ae f) a b:=by unfold mr;rw[if_neg h]
theorem tM{f:Int}(h:ae f≠0)(a b:Int):gI f a b=lP (ae f) a b:=by unfold gI;rw[if_neg h]
theorem jn{f:Int}(h:ae f≠0)(a b:Int):cD f a b=mulM (ae f) a b:=by unfold cD;rw[if_neg h]
theorem tF{f:Int}(h:ae f≠0)(a e:Int):bk f a e=n_ (ae f) a e:=by unfold bk;rw[if_neg h]
theorem FU{p a:Int}(hp:bg p)(h:a%p≠0):n_ p a (-1)=hD p a:=by
 unfold bg at hp
 unfold n_ hD
 rw[if_neg h]
 congr 2
 have:=Int.add_mul_emod_self_left (p-2) (p-1) (-1)
 rw[show p-2+(p-1) * -1 = -1 by omega] at this
 rw[this]
 exact Int.emod_eq_of_lt (by omega) (by omega)
theorem NO{p r:Int}(hp:bg p){x:Int×Int×Nat}(h:sh p r x)(ho:(x.2.2:Int).tmod 2=1):sh p r (mulM p x.1 x.1,mulM p x.2.1 x.1,x.2.2/2):=by
 obtain⟨a,b,n⟩:=x
 obtain⟨h1,h2,h3,h4⟩:=h
 refine⟨xm hp _ _,xm hp _ _,?_,by simp only at h4 ⊢;omega⟩
 rw[<-h3]
 simp only at *
 have hn:n=n/2+n/2+1:=by
  have:(n:Int).tmod 2=((n%2:Nat):Int):=rfl
  omega
 unfold mulM
 rw[dy,<-dz,pow_mod,dz]
 conv=>rhs;rw[hn]
 congr 1
 rw[Int.pow_succ,Int.pow_add,Int.mul_pow]
 grind
theorem Mf{p r:Int}(hp:bg p){x:Int×Int×Nat}(h:sh p r x)(ho:¬(x.2.2:Int).tmod 2=1):sh p r (mulM p x.1 x.1,x.2.1,x.2.2/2):=by
 obtain⟨a,b,n⟩:=x
 obtain⟨h1,h2,h3,h4⟩:=h
 refine⟨xm hp _ _,h2,?_,by simp only at h4 ⊢;omega⟩
 rw[<-h3]
 simp only at *
 have hn:n=n/2+n/2:=by
  have:(n:Int).tmod 2=((n%2:Nat):Int):=rfl
  omega
 unfold mulM
 rw[<-dz,pow_mod,dz]
 conv=>rhs;rw[hn]
 congr 1
 rw[Int.pow_add,Int.mul_pow]
theorem NN{p r:Int}{x:Int×Int×Nat}(h:sh p r x)(ho:¬(0:Int)<(x.2.2:Int)):x.2.1=r:=by
 obtain⟨a,b,n⟩:=x
 obtain⟨h1,h2,h3,h4⟩:=h
 simp only at *
 obtain rfl:n=0:=by omega
 rw[Int.pow_zero,Int.mul_one,nS h2] at h3
 exact h3
theorem vY{n:Nat}(h:(n:Int)<=9223372036854775807):i64.wrap ((n:Int).tdiv 2)=((n/2:Nat):Int):=by
 have:(n:Int).tdiv 2=((n/2:Nat):Int):=rfl
 rw[this,wrap_small (by omega)]
theorem Kt :
 ∀(d:Int×Int),Ty.wf ai d.1/\Ty.wf ai d.2->True->True/\(Ty.wf ai (ae d.1)->(decide (ae d.1=(0:Int))=true->(-1:Int)=dt d.1 d.2)/\(decide (ae d.1=(0:Int))=false->ae d.1≠(0:Int)/\(decide (Int.tmod d.2 (ae d.1)<(0:Int))=true->i64.wrap (Int.tmod d.2 (ae d.1)+ae d.1)=dt d.1 d.2)/\(decide (Int.tmod d.2 (ae d.1)<(0:Int))=false->Int.tmod d.2 (ae d.1)=dt d.1 d.2))):=by
  intro (d:Int×Int) hw _
  obtain⟨f,x⟩:=d
  simp only[exists_const,forall_const,decide_eq_true_eq,decide_eq_false_iff_not,beq_iff_eq,sxS]
  intro _
  refine⟨fun h=>(Mr h x).symm,fun h=>⟨h,fun h1=>?_,fun h1=>?_⟩⟩
  all_goals
   have hp:=(cH h).1
   unfold bg at hp
   rw[iB h]
   rcases zq (p:=ae f) (x:=x) (by omega) with ⟨e,h2⟩|⟨e,h2,h3⟩
  ·have:=Int.emod_nonneg x h;omega
  ·rw[e,Int.sub_add_cancel,wrap_small]
   have:=eh (p:=ae f) (by omega) x
   unfold El at this
   omega
  ·exact e
  ·have:=eh (p:=ae f) (by omega) x
   unfold El at this
   omega
theorem Qf :
 ∀(d:Int×Int×Int),Ty.wf ai d.1/\Ty.wf ai d.2.1/\Ty.wf ai d.2.2->True->True/\(Ty.wf ai (ae d.1)->(decide (ae d.1=(0:Int))=true->(-1:Int)=mr d.1 d.2.1 d.2.2)/\(decide (ae d.1=(0:Int))=false->True/\(Ty.wf ai (dt d.1 d.2.1)->True/\(Ty.wf ai (dt d.1 d.2.2)->True/\(Ty.wf ai (dt d.1 (i64.wrap (dt d.1 d.2.1+dt d.1 d.2.2)))->dt d.1 (i64.wrap (dt d.1 d.2.1+dt d.1 d.2.2))=mr d.1 d.2.1 d.2.2))))):=by
  intro (d:Int×Int×Int) hw _
  obtain⟨f,a,b⟩:=d
  simp only[exists_const,forall_const,decide_eq_true_eq,decide_eq_false_iff_not,beq_iff_eq,sxS]
  intro _
  refine⟨fun h=>by unfold mr;rw[if_pos h],fun h _ _ _=>?_⟩
  have hp:=(cH h).1
  have h0:=eh (p:=ae f) (by unfold bg at hp;omega) a
  have h1:=eh (p:=ae f) (by unfold bg at hp;omega) b
  unfold El at h0 h1
  unfold bg at hp
  rw[iB h,iB h,iB h,Bo h,wrap_small (by omega),mq,gN,gO]
theorem Qh :
 ∀(d:Int×Int×Int),Ty.wf ai d.1/\Ty.wf ai d.2.1/\Ty.wf ai d.2.2->True->True/\(Ty.wf ai (ae d.1)->(decide (ae d.1=(0:Int))=true->(-1:Int)=gI d.1 d.2.1 d.2.2)/\(decide (ae d.1=(0:Int))=false->True/\(Ty.wf ai (dt d.1 d.2.1)->True/\(Ty.wf ai (dt d.1 d.2.2)->True/\(Ty.wf ai (dt d.1 (i64.wrap (dt d.1 d.2.1-dt d.1 d.2.2)))->dt d.1 (i64.wrap (dt d.1 d.2.1-dt d.1 d.2.2))=gI d.1 d.2.1 d.2.2))))):=by
  intro (d:Int×Int×Int) hw _
  obtain⟨f,a,b⟩:=d
  simp only[exists_const,forall_const,decide_eq_true_eq,decide_eq_false_iff_not,beq_iff_eq,sxS]
  intro _
  refine⟨fun h=>by unfold gI;rw[if_pos h],fun h _ _ _=>?_⟩
  have hp:=(cH h).1
  have h0:=eh (p:=ae f) (by unfold bg at hp;omega) a
  have h1:=eh (p:=ae f) (by unfold bg at hp;omega) b
  unfold El at h0 h1
  unfold bg at hp
  rw[iB h,iB h,iB h,tM h,wrap_small (by omega),lP,My,Mz]
theorem Qg :
 ∀(d:Int×Int×Int),Ty.wf ai d.1/\Ty.wf ai d.2.1/\Ty.wf ai d.2.2->True->True/\(Ty.wf ai (ae d.1)->(decide (ae d.1=(0:Int))=true->(-1:Int)=cD d.1 d.2.1 d.2.2)/\(decide (ae d.1=(0:Int))=false->True/\(Ty.wf ai (dt d.1 d.2.1)->True/\(Ty.wf ai (dt d.1 d.2.2)->True/\(Ty.wf ai (dt d.1 (i64.wrap (dt d.1 d.2.1*dt d.1 d.2.2)))->dt d.1 (i64.wrap (dt d.1 d.2.1*dt d.1 d.2.2))=cD d.1 d.2.1 d.2.2))))):=by
  intro (d:Int×Int×Int) hw _
  obtain⟨f,a,b⟩:=d
  simp only[exists_const,forall_const,decide_eq_true_eq,decide_eq_false_iff_not,beq_iff_eq,sxS]
  intro _
  refine⟨fun h=>by unfold cD;rw[if_pos h],fun h _ _ _=>?_⟩
  have hp:=(cH h).1
  have h0:=eh (p:=ae f) (by unfold bg at hp;omega) a
  have h1:=eh (p:=ae f) (by unfold bg at hp;omega) b
  have h2:=l7 hp h0 h1
  rw[iB h,iB h,iB h,jn h,wrap_small (by omega),mulM,dy,dz]
theorem MI :
 ∀(d:Int×Int×Int),Ty.wf ai d.1/\Ty.wf ai d.2.1/\Ty.wf ai d.2.2->True->True/\(Ty.wf ai (ae d.1)->(decide (ae d.1=(0:Int))=true->(-1:Int)=bk d.1 d.2.1 d.2.2)/\(decide (ae d.1=(0:Int))=false->True/\(Ty.wf ai (dt d.1 d.2.1)->(decide (dt d.1 d.2.1=(0:Int))=true->(decide (d.2.2=(0:Int))=true->(1:Int)=bk d.1 d.2.1 d.2.2)/\(decide (d.2.2=(0:Int))=false->(decide (d.2.2<(0:Int))=true->(-1:Int)=bk d.1 d.2.1 d.2.2)/\(decide (d.2.2<(0:Int))=false->(0:Int)=bk d.1 d.2.1 d.2.2)))/\(decide (dt d.1 d.2.1=(0:Int))=false->i64.wrap (ae d.1-(1:Int))≠(0:Int)/\((decide (Int.tmod d.2.2 (i64.wrap (ae d.1-(1:Int)))<(0:Int))=true->∃(x':Unit),True/\d.1=d.1/\ah d.2.1/\ah d.2.2/\ah (0:Int)/\ah (ae d.1)/\ah (dt d.1 d.2.1)/\i64.wrap (i64.wrap (Int.tmod d.2.2 (i64.wrap (ae d.1-(1:Int)))+ae d.1)-(1:Int))=(↑(Int.toNat (d.2.2%(ae d.1-(1:Int)))):Int))/\(decide (Int.tmod d.2.2 (i64.wrap (ae d.1-(1:Int)))<(0:Int))=false->∃(x':Unit),True/\d.1=d.1/\ah d.2.1/\ah d.2.2/\ah (0:Int)/\ah (ae d.1)/\ah (dt d.1 d.2.1)/\Int.tmod d.2.2 (i64.wrap (ae d.1-(1:Int)))=(↑(Int.toNat (d.2.2%(ae d.1-(1:Int)))):Int)))/\∀(x:Unit),True->sh (ae d.1) (eO (ae d.1) d.2.1 (Int.toNat (d.2.2%(ae d.1-(1:Int))))) (d.2.1%ae d.1,(1:Int),Int.toNat (d.2.2%(ae d.1-(1:Int))))/\(d.1=d.1/\ah d.2.1/\ah d.2.2/\ah (0:Int)/\ah (ae d.1)/\dt d.1 d.2.1=d.2.1%ae d.1/\ah (↑(Int.toNat (d.2.2%(ae d.1-(1:Int)))):Int)/\ah (1:Int))/\∀(x:Int×Int×Nat),sh (ae d.1) (eO (ae d.1) d.2.1 (Int.toNat (d.2.2%(ae d.1-(1:Int))))) x->(decide ((0:Int)<(x.2.2:Int))=true->(2:Int)≠(0:Int)/\(decide (Int.tmod (x.2.2:Int) (2:Int)=(1:Int))=true->ae d.1≠(0:Int)/\ae d.1≠(0:Int)/\(2:Int)≠(0:Int)/\∃(x':Int×Int×Nat),sh (ae d.1) (eO (ae d.1) d.2.1 (Int.toNat (d.2.2%(ae d.1-(1:Int))))) x'/\x'.2.2<x.2.2/\d.1=d.1/\ah d.2.1/\ah d.2.2/\ah (0:Int)/\ah (ae d.1)/\Int.tmod (i64.wrap (x.1*x.1)) (ae d.1)=x'.1/\i64.wrap (Int.tdiv (x.2.2:Int) (2:Int))=(x'.2.2:Int)/\Int.tmod (i64.wrap (x.2.1*x.1)) (ae d.1)=x'.2.1)/\(decide (Int.tmod (x.2.2:Int) (2:Int)=(1:Int))=false->ae d.1≠(0:Int)/\(2:Int)≠(0:Int)/\∃(x':Int×Int×Nat),sh (ae d.1) (eO (ae d.1) d.2.1 (Int.toNat (d.2.2%(ae d.1-(1:Int))))) x'/\x'.2.2<x.2.2/\d.1=d.1/\ah d.2.1/\ah d.2.2/\ah (0:Int)/\ah (ae d.1)/\Int.tmod (i64.wrap (x.1*x.1)) (ae d.1)=x'.1/\i64.wrap (Int.tdiv (x.2.2:Int) (2:Int))=(x'.2.2:Int)/\x.2.1=x'.2.1))/\(decide ((0:Int)<(x.2.2:Int))=false->x.2.1=bk d.1 d.2.1 d.2.2))))):=by
  intro (d:Int×Int×Int) hw _
  obtain⟨f,a,e⟩:=d
  simp only[exists_const,forall_const,decide_eq_true_eq,decide_eq_false_iff_not,beq_iff_eq,sxS]
  intro _
  refine⟨fun h=>by unfold bk;rw[if_pos h],fun h _=>?_⟩
  have hp:=(cH h).1
  have aH:=hp
  unfold bg at hp
  rw[iB h,tF h,wrap_small (n:=ae f-1) (by omega)]
  have V5:=eh (p:=ae f-1) (by omega) e
  unfold El at V5
  refine⟨fun h1=>⟨fun h2=>by unfold n_;rw[if_pos h1,if_pos h2],fun h2=>⟨fun h3=>by unfold n_;rw[if_pos h1,if_neg h2,if_pos h3],fun h3=>by unfold n_;rw[if_pos h1,if_neg h2,if_neg h3]⟩⟩,fun h1=>⟨by omega,⟨fun h2=>?_,fun h2=>?_⟩,?_⟩⟩
  ·rcases zq (p:=ae f-1) (x:=e) (by omega) with ⟨g,_⟩|⟨g,h3,h4⟩
   ·omega
   ·rw[g,wrap_small (n:=e%(ae f-1)-(ae f-1)+ae f) (by omega),wrap_small (by omega)]
    omega
  ·rcases zq (p:=ae f-1) (x:=e) (by omega) with ⟨g,_⟩|⟨g,h3,h4⟩<;>omega
  ·refine⟨⟨eh (by omega) a,s7 aH,?_,by simp only;omega⟩,rfl,fun x hx=>⟨fun h2=>⟨by decide,fun h3=>⟨h,h,by decide,?_⟩,fun h3=>⟨h,by decide,?_⟩⟩,fun h2=>?_⟩⟩
   ·simp only[Int.one_mul];exact pow_mod _ _ _
   ·exact⟨_,NO aH hx h3,by show x.2.2/2<x.2.2;omega,rW aH hx.1 hx.1,vY hx.2.2.2,rW aH hx.2.1 hx.1⟩
   ·exact⟨_,Mf aH hx h3,by show x.2.2/2<x.2.2;omega,rW aH hx.1 hx.1,vY hx.2.2.2,rfl⟩
   ·rw[NN hx h2]
    unfold n_
    rw[if_neg h1]
theorem HH :
 ∀(d:Int×Int),Ty.wf ai d.1/\Ty.wf ai d.2->True->True/\(Ty.wf ai (bk d.1 d.2 (-1:Int))->ah (bk d.1 d.2 (-1:Int))):=by
  intro (d:Int×Int) hw _
  simp only[exists_const,forall_const,decide_eq_true_eq,decide_eq_false_iff_not,beq_iff_eq,sxS]
set_option maxRecDepth 10000
def Iy(p lo:Nat):Nat->Bool
 | 0=>p%lo != 0
 | n+1=>Iy p lo n&&Iy p (lo+2^n) n
theorem FH{p:Nat}:∀(n lo:Nat),Iy p lo n=true->∀ d,lo<=d->d<lo+2^n->p%d≠0
 | 0,lo,h,d,h1,h2=>by
   obtain rfl:d=lo:=by simp at h2;omega
   simpa[Iy] using h
 | n+1,lo,h,d,h1,h2=>by
   unfold Iy at h
   rw[Bool.and_eq_true] at h
   rw[Nat.pow_succ] at h2
   by_cases hd:d<lo+2^n
   ·exact FH n lo h.1 d h1 hd
   ·exact FH n (lo+2^n) h.2 d (by omega) (by omega)
theorem Td{d n:Nat}{p:Nat}(h:d*d<=p)(hn:p<n*n):d<n:=by
 by_cases hd:d<n
 ·exact hd
 ·have:=Nat.mul_le_mul (Nat.le_of_not_lt hd) (Nat.le_of_not_lt hd)
  omega
theorem qd{p n:Nat}(h:Iy p 2 n=true)(hn:p<(2+2^n)*(2+2^n)){d:Nat}(h2:2<=d)(hd:d*d<=p):p%d≠0 :=
 FH n 2 h d h2 (Td hd hn)
theorem NK{f:Int}(h:0<=f/\f<9){d:Nat}(h2:2<=d)(hd:d*d<=(ae f).toNat):(ae f).toNat%d≠0:=by
 rcases f_ h with rfl|rfl|rfl|rfl|rfl|rfl|rfl|rfl|rfl
 ·exact qd (p:=17) (n:=2) (by decide +kernel) (by decide) h2 hd
 ·exact qd (p:=97) (n:=3) (by decide +kernel) (by decide) h2 hd
 ·exact qd (p:=193) (n:=4) (by decide +kernel) (by decide) h2 hd
 ·exact qd (p:=257) (n:=4) (by decide +kernel) (by decide) h2 hd
 ·exact qd (p:=7681) (n:=7) (by decide +kernel) (by decide) h2 hd
 ·exact qd (p:=12289) (n:=7) (by decide +kernel) (by decide) h2 hd
 ·exact qd (p:=998244353) (n:=15) (by decide +kernel) (by decide) h2 hd
 ·exact qd (p:=469762049) (n:=15) (by decide +kernel) (by decide) h2 hd
 ·exact qd (p:=1004535809) (n:=15) (by decide +kernel) (by decide) h2 hd
theorem L_{p:Nat}(hp:2<=p)(h:∀ d,2<=d->d*d<=p->p%d≠0){a b:Nat}(hd:p ∣ a*b):p ∣ a\/p ∣ b:=by
 obtain⟨k,hk⟩:=Nat.gcd_dvd_left p a
 generalize hg:Nat.gcd p a=g at hk
 have V9:g ∣ a:=hg▸Nat.gcd_dvd_right p a
 by_cases h1:g=1
 ·subst h1
  exact .inr (Nat.Coprime.dvd_of_dvd_mul_left hg hd)
 ·by_cases h2:k=1
  ·subst h2
   rw[Nat.mul_one] at hk
   exact .inl (hk▸V9)
  ·have X2:g≠0:=by rintro rfl;omega
   have TL:k≠0:=by rintro rfl;omega
   exfalso
   by_cases hle:g<=k
   ·refine h g (by omega) ?_ (by rw[hk,Nat.mul_mod_right])
    rw[hk];exact Nat.mul_le_mul_left g hle
   ·refine h k (by omega) ?_ (by rw[hk,Nat.mul_mod_left])
    rw[hk];exact Nat.mul_le_mul_right k (by omega)
structure IW (p:Int):Prop where
 mod:bg p
 pr:∀ a b:Int,a*b%p=0->a%p=0\/b%p=0
theorem re{f:Int}(h:ae f≠0):IW (ae f):=by
 obtain⟨h1,h2⟩:=cH h
 refine⟨h1,fun a b rL=>?_⟩
 have h0:0<=ae f:=by unfold bg at h1;omega
 have hn:ae f=(((ae f).toNat:Nat):Int):=(Int.toNat_of_nonneg h0).symm
 have hd:(ae f).toNat ∣ a.natAbs*b.natAbs:=by
  rw[<-Int.natAbs_mul]
  exact Int.natAbs_dvd_natAbs.2 (Int.dvd_of_emod_eq_zero rL) |> fun h=>by rwa [show (ae f).natAbs=(ae f).toNat by omega] at h
 have hs:∀ x:Int,(ae f).toNat ∣ x.natAbs->x%ae f=0:=fun x hx=>by
  refine Int.emod_eq_zero_of_dvd (Int.natAbs_dvd_natAbs.1 ?_)
  rwa [show (ae f).natAbs=(ae f).toNat by omega]
 rcases L_ (by unfold bg at h1;omega) (fun d=>NK h2) hd with h|h
 ·exact .inl (hs a h)
 ·exact .inr (hs b h)
theorem SP{p x y:Int}(hx:El p x)(hy:El p y)(h:x≠y):(x-y)%p≠0:=by
 intro e
 obtain⟨k,hk⟩:=Int.dvd_of_emod_eq_zero e
 unfold El at hx hy
 have h1:k=0:=by
  have hp:0<p:=by omega
  rcases Int.lt_trichotomy k 0 with h0|h0|h0
  ·have:=Int.mul_le_mul_of_nonneg_left (show k ≤ -1 by omega) (Int.le_of_lt hp)
   omega
  ·exact h0
  ·have:=Int.mul_le_mul_of_nonneg_left (show 1<=k by omega) (Int.le_of_lt hp)
   omega
 subst h1
 omega
theorem Sa{p a b:Int}(hp:IW p)(ha:a%p≠0)(hb:b%p≠0):a*b%p≠0:=fun e=>(hp.pr a b e).elim ha hb
theorem mod_mod(p x:Int):x%p%p=x%p:=Int.emod_emod_of_dvd _ (Int.dvd_refl p)
set_option maxRecDepth 10000
theorem DW{p:Int}{xs:List Int}(h:bw p xs=true){i:Nat}(hi:i<xs.length):El p (xs.getD i 0):=by
 unfold bw at h
 rw[decide_eq_true_eq] at h
 have h1:=h (xs.getD i 0) (by rw[List.getD_eq_getElem?_getD,List.getElem?_eq_getElem hi];exact List.getElem_mem hi)
 unfold El
 omega
theorem uK{f:Int}{xs:List Int}(h:cm f xs=true):ae f≠0/\1<=xs.length/\xs.length<=40/\bw (ae f) xs=true/\xs.Nodup:=by
 unfold cm aB at h
 simp only[Bool.and_eq_true,decide_eq_true_eq] at h
 exact⟨h.1.2.1,h.1.1.1,h.1.1.2,h.1.2.2,h.2⟩
theorem O2{f:Int}{xs:List Int}(h1:ae f≠0)(h2:1<=xs.length)(h3:xs.length<=40)(h4:bw (ae f) xs=true)(h5:xs.Nodup):cm f xs=true:=by
 unfold cm aB
 simp only[Bool.and_eq_true,decide_eq_true_eq]
 exact⟨⟨⟨h2,h3⟩,h1,h4⟩,h5⟩
theorem AN{xs:List Int}{x:Nat}(hx:x<xs.length):(xs.take (x+1)).Nodup↔(xs.take x).Nodup/\xs.getD x 0 ∉ xs.take x:=by
 rw[<-oz (z:=(0:Int)) hx,List.nodup_append]
 constructor
 ·rintro⟨h1,_,h2⟩
  exact⟨h1,fun hm=>h2 _ hm _ (List.mem_singleton.2 rfl) rfl⟩
 ·rintro⟨h1,h2⟩
  refine⟨h1,List.nodup_cons.2 ⟨by simp,List.nodup_nil⟩,fun a ha b hb e=>?_⟩
  rw[List.mem_singleton.1 hb] at e
  subst e
  exact h2 ha
theorem JT{xs:List Int}(h:xs.Nodup)(n:Nat):(xs.take n).Nodup:=h.sublist (List.take_sublist n xs)
theorem NH{xs:List Int}{x:Nat}{y:Int}(hx:x<xs.length)(h:y ∉ xs.take x)(hy:¬xs.getD x 0=y):y ∉ xs.take (x+1):=by
 rw[<-oz (z:=(0:Int)) hx]
 intro hm
 rcases List.mem_append.1 hm with hm|hm
 ·exact h hm
 ·exact hy (List.mem_singleton.1 hm).symm
theorem CO{xs:List Int}{x y:Nat}(h:y<x):(xs.take x).getD y 0=xs.getD y 0:=by
 rw[List.getD_eq_getElem?_getD,List.getD_eq_getElem?_getD,List.getElem?_take,if_pos h]
theorem FE{xs:List Int}{x:Nat}(h:x<xs.length):xs.getD x 0∈xs:=by
 rw[List.getD_eq_getElem?_getD,List.getElem?_eq_getElem h];exact List.getElem_mem h
theorem NL{xs:List Int}(h:xs.Nodup){i j:Nat}(hi:i<xs.length)(hj:j<xs.length)(Ik:i≠j):xs.getD i 0≠xs.getD j 0:=by
 rw[List.getD_eq_getElem?_getD,List.getD_eq_getElem?_getD,List.getElem?_eq_getElem hi,List.getElem?_eq_getElem hj]
 exact fun e=>Ik ((List.getElem_inj h).1 e)
theorem I5{p:Int}(hp:IW p){xs:List Int}(he:bw p xs=true)(hn:xs.Nodup){i:Nat}(hi:i<xs.length):∀ n,n<=xs.length->my p xs i n%p≠0
 | 0,_=>by
   rw[show my p xs i 0=1 from rfl,nS (s7 hp.mod)];decide
 | n+1,h=>by
   unfold my
   split
   ·exact I5 hp he hn hi n (by omega)
   ·rename_i bb
    unfold mulM lP
    rw[mod_mod]
    refine Sa hp (I5 hp he hn hi n (by omega)) ?_
    rw[mod_mod]
    exact SP (DW he hi) (DW he (by omega)) (NL hn hi (by omega) (Ne.symm bb))
theorem Kx :
 ∀(d:List Int×Int),Ty.wf al d.1/\Ty.wf ai d.2->True->((0:Nat)<=d.1.length/\¬d.2∈List.take (0:Nat) d.1)/\(d.1=d.1/\d.2=d.2/\(0:Int)=(↑(0:Nat):Int))/\∀(x:Nat),x<=d.1.length/\¬d.2∈List.take x d.1->(decide ((x:Int)<(d.1.length:Int))=true->((0:Int)<=(x:Int)/\(x:Int)<(d.1.length:Int))/\(decide (d.1.getD ((x:Int).toNat) (0:Int)=d.2)=true->true=pH d.1 d.2)/\(decide (d.1.getD ((x:Int).toNat) (0:Int)=d.2)=false->∃(x':Nat),(x'<=d.1.length/\¬d.2∈List.take x' d.1)/\d.1.length-x'<d.1.length-x/\d.1=d.1/\d.2=d.2/\i64.wrap ((x:Int)+(1:Int))=(x':Int)))/\(decide ((x:Int)<(d.1.length:Int))=false->false=pH d.1 d.2):=by
  intro (d:List Int×Int) hw _
  obtain⟨l,y⟩:=d
  have hl:l.length<=9223372036854775807:=hw.1.1
  simp only[exists_const,forall_const,decide_eq_true_eq,decide_eq_false_iff_not,beq_iff_eq,sxS]
  refine⟨⟨by omega,by simp⟩,rfl,fun x hx=>⟨fun h=>⟨⟨by omega,by omega⟩,fun h1=>?_,fun h1=>?_⟩,fun h=>?_⟩⟩
  ·unfold pH
   refine (decide_eq_true ?_).symm
   rw[<-h1];exact FE (by omega)
  ·exact⟨x+1,⟨by omega,NH (by omega) hx.2 h1⟩,by omega,bp (by omega)⟩
  ·unfold pH
   refine (decide_eq_false ?_).symm
   have:=hx.2
   rwa [List.take_of_length_le (by omega)] at this
theorem GL :
 ∀(d:Int×List Int),Ty.wf ai d.1/\Ty.wf al d.2->True->True/\((!(decide ((1:Int)<=(d.2.length:Int))&&decide ((d.2.length:Int)<=(40:Int))))=true->false=cm d.1 d.2)/\((!(decide ((1:Int)<=(d.2.length:Int))&&decide ((d.2.length:Int)<=(40:Int))))=false->True/\((!aB d.1 d.2)=true->false=cm d.1 d.2)/\((!aB d.1 d.2)=false->((0:Nat)<=d.2.length/\List.Nodup (List.take (0:Nat) d.2))/\(d.1=d.1/\d.2=d.2/\(0:Int)=(↑(0:Nat):Int))/\∀(x:Nat),x<=d.2.length/\List.Nodup (List.take x d.2)->(decide ((x:Int)<(d.2.length:Int))=true->((0:Int)<=(0:Int)/\(0:Int)<=(x:Int)/\(x:Int)<=(d.2.length:Int))/\((0:Int)<=(x:Int)/\(x:Int)<(d.2.length:Int))/\True/\(pH (List.drop ((0:Int).toNat) (List.take ((x:Int).toNat) d.2)) (d.2.getD ((x:Int).toNat) (0:Int))=true->false=cm d.1 d.2)/\(pH (List.drop ((0:Int).toNat) (List.take ((x:Int).toNat) d.2)) (d.2.getD ((x:Int).toNat) (0:Int))=false->∃(x':Nat),(x'<=d.2.length/\List.Nodup (List.take x' d.2))/\d.2.length-x'<d.2.length-x/\d.1=d.1/\d.2=d.2/\i64.wrap ((x:Int)+(1:Int))=(x':Int)))/\(decide ((x:Int)<(d.2.length:Int))=false->true=cm d.1 d.2))):=by
  intro (d:Int×List Int) hw _
  obtain⟨f,xs⟩:=d
  have hl:xs.length<=9223372036854775807:=hw.2.1
  simp only[exists_const,forall_const,decide_eq_true_eq,decide_eq_false_iff_not,beq_iff_eq,sxS]
  refine⟨fun h=>?_,fun h=>⟨fun h1=>?_,fun h1=>⟨⟨by omega,by simp⟩,rfl,fun x hx=>⟨fun h2=>⟨⟨by omega,by omega,by omega⟩,⟨by omega,by omega⟩,fun h3=>?_,fun h3=>?_⟩,fun h2=>?_⟩⟩⟩⟩
  ·cases hp:cm f xs with
   | false=>rfl
   | true =>
     have:=uK hp
     rw[decide_eq_true (show (1:Int)<=xs.length by omega),decide_eq_true (show (xs.length:Int)<=40 by omega)] at h
     cases h
  ·unfold cm
   rw[h1,Bool.and_false];rfl
  ·simp only[Int.toNat_zero,List.drop_zero] at h3
   cases hp:cm f xs with
   | false=>rfl
   | true =>
     have h4:=JT (uK hp).2.2.2.2 (x+1)
     rw[AN (by omega)] at h4
     exact absurd (of_decide_eq_true h3) h4.2
  ·simp only[Int.toNat_zero,List.drop_zero] at h3
   exact⟨x+1,⟨by omega,(AN (by omega)).2 ⟨hx.2,of_decide_eq_false h3⟩⟩,by omega,bp (by omega)⟩
  ·have h3:=hx.2
   rw[List.take_of_length_le (by omega)] at h3
   simp only[Bool.and_eq_true,decide_eq_true_eq] at h
   unfold aB at h1
   rw[Bool.and_eq_true,decide_eq_true_eq] at h1
   exact (O2 h1.1 (by omega) (by omega) h1.2 h3).symm
set_option maxRecDepth 10000
theorem o_{α:Type}(g:Nat->α)(n:Nat):((List.range n).map g).length=n:=by rw[List.length_map,List.length_range]
theorem FG(g:Nat->Int)(n i:Nat):((List.range n).map g).getD i 0=if i<n then g i else 0:=by
 rw[List.getD_eq_getElem?_getD,List.getElem?_map]
 by_cases h:i<n
 ·rw[List.getElem?_range h,if_pos h];rfl
 ·rw[List.getElem?_eq_none (by rw[List.length_range];omega),if_neg h];rfl
theorem tw{α:Type}(g:Nat->α)(n:Nat):(List.range n).map g++[g n]=(List.range (n+1)).map g:=by rw[List.range_succ,List.map_append];rfl
theorem rf{α:Type}{g h:Nat->α}{n:Nat}(e:∀ i,i<n->g i=h i):(List.range n).map g=(List.range n).map h :=
 List.map_congr_left (fun i hi=>e i (List.mem_range.1 hi))
theorem L7{α:Type}(g:Nat->α)(n i:Nat)(v:α):((List.range n).map g).set i v=(List.range n).map (fun t=>if t=i then v else g t):=by
 apply List.ext_getElem?
 intro j
 simp only[List.getElem?_set,List.getElem?_map,List.length_map,List.length_range]
 by_cases h:i=j
 ·subst h
  by_cases hn:i<n
  ·simp[hn]
  ·simp[hn]
 ·by_cases hn:j<n
  ·simp[h,hn,Ne.symm h]
  ·simp[h,hn]
theorem FF{α:Type}(v:α)(n:Nat):List.replicate n v=(List.range n).map (fun _=>v):=by rw[List.map_const',List.length_range]
theorem vO{p:Int}(hp:bg p){xs:List Int}(h:bw p xs=true)(i:Nat):El p (xs.getD i 0):=by
 by_cases hi:i<xs.length
 ·exact DW h hi
 ·rw[List.getD_eq_getElem?_getD,List.getElem?_eq_none (by omega)]
  exact s8 hp
theorem t_{p:Int}{xs:List Int}(h:∀ i,i<xs.length->El p (xs.getD i 0)):bw p xs=true:=by
 unfold bw
 rw[decide_eq_true_eq]
 intro x hx
 obtain⟨i,hi,rfl⟩:=List.getElem_of_mem hx
 have:=h i hi
 rw[List.getD_eq_getElem?_getD,List.getElem?_eq_getElem hi] at this
 unfold El at this
 simp only[Option.getD_some] at this
 omega
theorem yU{p:Int}{g:Nat->Int}{n:Nat}(h:∀ i,i<n->El p (g i)):bw p ((List.range n).map g)=true:=by
 refine t_ (fun i hi=>?_)
 rw[o_] at hi
 rw[FG,if_pos hi]
 exact h i hi
theorem Jj{p:Int}{xs:List Int}(h:bw p xs=true)(n:Nat):bw p (xs.take n)=true:=by
 unfold bw at *
 rw[decide_eq_true_eq] at *
 exact fun x hx=>h x (List.mem_of_mem_take hx)
theorem js{f:Int}{a:List Int}(h:aB f a=true):ae f≠0/\bw (ae f) a=true:=by
 unfold aB at h
 rw[Bool.and_eq_true,decide_eq_true_eq] at h
 exact h
theorem qv{f:Int}{a:List Int}(h:ae f≠0)(h1:bw (ae f) a=true):aB f a=true:=by
 unfold aB
 rw[Bool.and_eq_true,decide_eq_true_eq]
 exact⟨h,h1⟩
theorem xi(l:List Int):∀ n,lB l n<=n
 | 0=>Nat.le_refl _
 | n+1=>by
   unfold lB
   split
   ·have:=xi l n;omega
   ·exact Nat.le_refl _
theorem s4(l:List Int):pw l<=l.length:=xi l _
theorem KR(l:List Int):tP l l.length:=⟨Nat.le_refl _,rfl⟩
theorem MV{l:List Int}{k:Nat}(h:tP l (k+1))(h0:l.getD k 0=0):tP l k:=by
 refine⟨by have:=h.1;omega,?_⟩
 have:=h.2
 unfold lB at this
 rwa [if_pos h0] at this
theorem MW{l:List Int}{k:Nat}(h:tP l (k+1))(h0:¬l.getD k 0=0):k+1=pw l:=by
 have:=h.2
 unfold lB at this
 rwa [if_neg h0] at this
theorem Pk{l:List Int}(h:tP l 0):0=pw l:=h.2
theorem oA(l:List Int):(bj l).length=pw l:=by
 unfold bj
 rw[List.length_take,Nat.min_eq_left (s4 l)]
theorem qw(l:List Int):iC l=true↔l.length=0\/l.getD (l.length-1) 0≠0:=by
 unfold iC pw
 rw[decide_eq_true_eq]
 match h:l.length with
 | 0=>exact⟨fun _=>.inl rfl,fun _=>rfl⟩
 | n+1 =>
   rw[Nat.add_sub_cancel]
   unfold lB
   split
   ·rename_i h0
    have:=xi l n
    exact⟨fun e=>by omega,fun e=>e.elim (fun e=>by omega) (fun e=>absurd h0 e)⟩
   ·rename_i h0
    exact⟨fun _=>.inr h0,fun _=>rfl⟩
theorem iA{f:Int}{a:List Int}(h:bC f a=true):ae f≠0/\bw (ae f) a=true/\a.length<=400/\iC a=true:=by
 unfold bC at h
 simp only[Bool.and_eq_true,decide_eq_true_eq] at h
 have:=js h.1.2
 exact⟨this.1,this.2,h.1.1,h.2⟩
theorem qo{f:Int}{a:List Int}(h:ae f≠0)(h1:bw (ae f) a=true)(h2:a.length<=400)(h3:iC a=true):bC f a=true:=by
 unfold bC
 simp only[Bool.and_eq_true,decide_eq_true_eq]
 exact⟨⟨h2,qv h h1⟩,h3⟩
theorem Qq(a:List Int)(x:Nat):jT a (x:Int)=a.getD x 0:=by
 unfold jT
 rw[if_pos (by omega),Int.toNat_natCast]
theorem I0(p:Int)(a b:List Int)(n:Nat):gv p a b n++[mq p (a.getD n 0) (b.getD n 0)]=gv p a b (n+1):=tw _ n
theorem Cu(p:Int)(a b:List Int)(n:Nat):(gv p a b n).length=n:=o_ _ n
theorem Mv(p:Int)(a:List Int)(c:Int)(n:Nat):oo p a c n++[mulM p (a.getD n 0) c]=oo p a c (n+1):=tw _ n
theorem Gp(p:Int)(a:List Int)(c:Int)(n:Nat):(oo p a c n).length=n:=o_ _ n
theorem JS(p:Int)(a b:List Int)(n:Nat):eL p a b n++[fh p a b n (min (n+1) a.length)]=eL p a b (n+1):=tw (fun i=>fh p a b i (min (i+1) a.length)) n
theorem C4(p:Int)(a b:List Int)(n:Nat):(eL p a b n).length=n:=o_ _ n
theorem H8{p:Int}(hp:bg p)(a b:List Int)(i:Nat):∀ j,El p (fh p a b i j)
 | 0=>s8 hp
 | j+1=>by
   unfold fh
   split
   ·exact eh (by unfold bg at hp;omega) _
   ·exact H8 hp a b i j
theorem wE{p:Int}{a b:List Int}{i j:Nat}(h:i-j<b.length):fh p a b i (j+1)=(fh p a b i j+a.getD j 0*b.getD (i-j) 0)%p:=by
 show (if _ then _ else _)=_
 rw[if_pos h]
theorem C8{p:Int}{a b:List Int}{i j:Nat}(h:¬i-j<b.length):fh p a b i (j+1)=fh p a b i j:=by
 show (if _ then _ else _)=_
 rw[if_neg h]
theorem MN{p s a b:Int}(hp:bg p)(hs:El p s)(ha:El p a)(hb:El p b):(i64.wrap (s+i64.wrap (a*b))).tmod p=(s+a*b)%p:=by
 have h:=l7 hp ha hb
 unfold bg at hp;unfold El at hs
 rw[wrap_small (n:=a*b) (by omega),wrap_small (by omega),zt (by omega)]
theorem B0(p:Int)(a b:List Int)(x y:Nat):(R_ p a b x y).length=a.length+b.length-1:=o_ _ _
theorem rn(l:List Int):iC (bj l)=true:=by
 have key:∀ n,n<=l.length->lB l n=0\/l.getD (lB l n-1) 0≠0:=by
  intro n
  induction n with
  | zero=>intro _;exact .inl rfl
  | succ n ih =>
    intro h
    unfold lB
    split
    ·exact ih (by omega)
    ·rename_i h0;exact .inr h0
 rw[qw,oA]
 rcases key l.length (Nat.le_refl _) with h|h
 ·exact .inl h
 ·by_cases h0:pw l=0
  ·exact .inl h0
  ·refine .inr ?_
   unfold bj
   rw[CO (by omega)]
   exact h
theorem Ky :
 ∀(d:List Int),Ty.wf al d->d.length<=(1048576:Nat)->tP d d.length/\(d=d/\an/\ah (d.length:Int))/\∀(x:Nat),tP d x->(decide ((0:Int)<(x:Int))=true->((0:Int)<=i64.wrap ((x:Int)-(1:Int))/\i64.wrap ((x:Int)-(1:Int))<(d.length:Int))/\(decide (d.getD (Int.toNat (i64.wrap ((x:Int)-(1:Int)))) (0:Int)=(0:Int))=true->∃(x':Nat),tP d x'/\x'<x/\d=d/\an/\i64.wrap ((x:Int)-(1:Int))=(x':Int))/\(decide (d.getD (Int.toNat (i64.wrap ((x:Int)-(1:Int)))) (0:Int)=(0:Int))=false->((0:Int)<=(0:Int)/\(0:Int)<=(x:Int)/\(x:Int)<=(d.length:Int))/\List.length (List.drop ((0:Int).toNat) (List.take ((x:Int).toNat) d))<=(1048576:Nat)/\(Ty.wf al (List.drop ((0:Int).toNat) (List.take ((x:Int).toNat) d))->List.drop ((0:Int).toNat) (List.take ((x:Int).toNat) d)=bj d)))/\(decide ((0:Int)<(x:Int))=false->((0:Int)<=(0:Int)/\(0:Int)<=(x:Int)/\(x:Int)<=(d.length:Int))/\List.length (List.drop ((0:Int).toNat) (List.take ((x:Int).toNat) d))<=(1048576:Nat)/\(Ty.wf al (List.drop ((0:Int).toNat) (List.take ((x:Int).toNat) d))->List.drop ((0:Int).toNat) (List.take ((x:Int).toNat) d)=bj d)):=by
  intro (a:List Int) hw hp
  replace hp:a.length<=1048576:=hp
  simp only[exists_const,forall_const,decide_eq_true_eq,decide_eq_false_iff_not,beq_iff_eq,sxS]
  refine⟨KR a,fun x hx=>?_⟩
  have Io:=hx.1
  match x,hx with
  | 0,hx =>
    refine⟨fun h=>absurd h (by omega),fun _=>?_⟩
    have hc:=Pk hx
    simp only[Int.toNat_zero,List.drop_zero,Int.natCast_zero,List.take_zero]
    refine⟨⟨by omega,by omega,by omega⟩,by simp,fun _=>?_⟩
    unfold bj
    rw[<-hc];rfl
  | x+1,hx =>
    have Io:x+1<=a.length:=hx.1
    have eI:i64.wrap (((x+1:Nat):Int)-1)=(x:Int):=by rw[wrap_small (by omega)];omega
    rw[eI]
    simp only[Int.toNat_natCast,Int.toNat_zero,List.drop_zero]
    refine⟨fun _=>⟨⟨by omega,by omega⟩,fun h=>⟨x,MV hx h,by omega,rfl⟩,fun h=>?_⟩,fun h=>absurd h (by omega)⟩
    have hc:=MW hx h
    refine⟨⟨by omega,by omega,by omega⟩,by rw[List.length_take];omega,fun _=>?_⟩
    unfold bj
    rw[<-hc]
theorem Ks :
 ∀(d:Int×List Int),Ty.wf ai d.1/\Ty.wf al d.2->True->(decide ((400:Int)<(d.2.length:Int))=true->false=bC d.1 d.2)/\(decide ((400:Int)<(d.2.length:Int))=false->True/\((!aB d.1 d.2)=true->false=bC d.1 d.2)/\((!aB d.1 d.2)=false->(decide ((d.2.length:Int)=(0:Int))=true->true=bC d.1 d.2)/\(decide ((d.2.length:Int)=(0:Int))=false->((0:Int)<=i64.wrap ((d.2.length:Int)-(1:Int))/\i64.wrap ((d.2.length:Int)-(1:Int))<(d.2.length:Int))/\(!decide (d.2.getD (Int.toNat (i64.wrap ((d.2.length:Int)-(1:Int)))) (0:Int)=(0:Int)))=bC d.1 d.2))):=by
  intro (d:Int×List Int) hw _
  obtain⟨f,a⟩:=d
  have hl:a.length<=9223372036854775807:=hw.2.1
  simp only[exists_const,forall_const,decide_eq_true_eq,decide_eq_false_iff_not,beq_iff_eq,sxS]
  have no:∀ {b},(bC f a=true->False)->b=false->b=bC f a:=fun h e=>by
   subst e
   cases hp:bC f a with
   | false=>rfl
   | true=>exact (h hp).elim
  refine⟨fun h=>no (fun hp=>?_) rfl,fun h=>⟨fun h1=>no (fun hp=>?_) rfl,fun h1=>⟨fun h2=>?_,fun h2=>?_⟩⟩⟩
  ·have:=(iA hp).2.2.1;omega
  ·have:=iA hp
   rw[qv this.1 this.2.1] at h1;cases h1
  ·have h3:=js h1
   exact (qo h3.1 h3.2 (by omega) ((qw a).2 (.inl (by omega)))).symm
  ·have h3:=js h1
   have eI:i64.wrap ((a.length:Int)-1)=((a.length-1:Nat):Int):=by rw[wrap_small (by omega)];omega
   rw[eI,Int.toNat_natCast]
   refine⟨⟨by omega,by omega⟩,?_⟩
   by_cases h4:a.getD (a.length-1) 0=0
   ·rw[decide_eq_true h4]
    refine no (fun hp=>?_) rfl
    rcases (qw a).1 (iA hp).2.2.2 with h5|h5
    ·omega
    ·exact h5 h4
   ·rw[decide_eq_false h4]
    exact (qo h3.1 h3.2 (by omega) ((qw a).2 (.inr h4))).symm
theorem MK :
 ∀(d:List Int×Int),Ty.wf al d.1/\Ty.wf ai d.2->True->(decide ((0:Int)<=d.2)=true->(decide (d.2<(d.1.length:Int))=true->((0:Int)<=d.2/\d.2<(d.1.length:Int))/\d.1.getD d.2.toNat (0:Int)=jT d.1 d.2)/\(decide (d.2<(d.1.length:Int))=false->(0:Int)=jT d.1 d.2))/\(decide ((0:Int)<=d.2)=false->(0:Int)=jT d.1 d.2):=by
  intro (d:List Int×Int) hw _
  obtain⟨a,i⟩:=d
  simp only[exists_const,forall_const,decide_eq_true_eq,decide_eq_false_iff_not,beq_iff_eq,sxS]
  unfold jT
  refine⟨fun h=>⟨fun h1=>⟨⟨h,h1⟩,by rw[if_pos h]⟩,fun h1=>?_⟩,fun h=>by rw[if_neg h]⟩
  rw[if_pos h,List.getD_eq_getElem?_getD,List.getElem?_eq_none (by omega)];rfl
theorem HE :
 ∀(d:Int×List Int×List Int),Ty.wf ai d.1/\Ty.wf al d.2.1/\Ty.wf al d.2.2->True->True/\((!bC d.1 d.2.1)=true->[]=oE d.1 d.2.1 d.2.2)/\((!bC d.1 d.2.1)=false->True/\((!bC d.1 d.2.2)=true->[]=oE d.1 d.2.1 d.2.2)/\((!bC d.1 d.2.2)=false->(0:Nat)<=max d.2.1.length d.2.2.length/\((d.1=d.1/\ah d.2.1/\ah d.2.2/\an/\(0:Int)=(↑(0:Nat):Int))/\[]=gv (ae d.1) d.2.1 d.2.2 (0:Nat))/\∀(x:Nat),x<=max d.2.1.length d.2.2.length->(decide ((x:Int)<(d.2.1.length:Int))=true->True/\(Ty.wf ai (jT d.2.1 (x:Int))->True/\(Ty.wf ai (jT d.2.2 (x:Int))->True/\(Ty.wf ai (mr d.1 (jT d.2.1 (x:Int)) (jT d.2.2 (x:Int)))->(List.length (gv (ae d.1) d.2.1 d.2.2 x)+List.length [mr d.1 (jT d.2.1 (x:Int)) (jT d.2.2 (x:Int))])*(8:Nat)<=(140737488355328:Nat)/\∃(x':Nat),x'<=max d.2.1.length d.2.2.length/\max d.2.1.length d.2.2.length-x'<max d.2.1.length d.2.2.length-x/\(d.1=d.1/\ah d.2.1/\ah d.2.2/\an/\i64.wrap ((x:Int)+(1:Int))=(x':Int))/\gv (ae d.1) d.2.1 d.2.2 x++[mr d.1 (jT d.2.1 (x:Int)) (jT d.2.2 (x:Int))]=gv (ae d.1) d.2.1 d.2.2 x'))))/\(decide ((x:Int)<(d.2.1.length:Int))=false->(decide ((x:Int)<(d.2.2.length:Int))=true->True/\(Ty.wf ai (jT d.2.1 (x:Int))->True/\(Ty.wf ai (jT d.2.2 (x:Int))->True/\(Ty.wf ai (mr d.1 (jT d.2.1 (x:Int)) (jT d.2.2 (x:Int)))->(List.length (gv (ae d.1) d.2.1 d.2.2 x)+List.length [mr d.1 (jT d.2.1 (x:Int)) (jT d.2.2 (x:Int))])*(8:Nat)<=(140737488355328:Nat)/\∃(x':Nat),x'<=max d.2.1.length d.2.2.length/\max d.2.1.length d.2.2.length-x'<max d.2.1.length d.2.2.length-x/\(d.1=d.1/\ah d.2.1/\ah d.2.2/\an/\i64.wrap ((x:Int)+(1:Int))=(x':Int))/\gv (ae d.1) d.2.1 d.2.2 x++[mr d.1 (jT d.2.1 (x:Int)) (jT d.2.2 (x:Int))]=gv (ae d.1) d.2.1 d.2.2 x'))))/\(decide ((x:Int)<(d.2.2.length:Int))=false->List.length (gv (ae d.1) d.2.1 d.2.2 x)<=(1048576:Nat)/\(Ty.wf al (bj (gv (ae d.1) d.2.1 d.2.2 x))->bj (gv (ae d.1) d.2.1 d.2.2 x)=oE d.1 d.2.1 d.2.2))))):=by
  intro (d:Int×List Int×List Int) hw _
  obtain⟨f,a,b⟩:=d
  simp only[exists_const,forall_const,decide_eq_true_eq,decide_eq_false_iff_not,beq_iff_eq,sxS]
  have no:∀ {P:Prop},((bC f a&&bC f b)=false)->[]=oE f a b:=fun h=>by unfold oE;rw[h];rfl
  refine⟨fun h=>no (P:=True) (by rw[h];rfl),fun h=>⟨fun h1=>no (P:=True) (by rw[h1,Bool.and_false]),fun h1=>⟨by omega,⟨rfl,rfl⟩,fun x hx=>?_⟩⟩⟩
  have ha:=iA h
  have hb:=iA h1
  simp only[Qq,Bo ha.1,Cu]
  have step:x<max a.length b.length->(x+[mq (ae f) (a.getD x 0) (b.getD x 0)].length)*8<=140737488355328/\∃ x',x'<=max a.length b.length/\max a.length b.length-x'<max a.length b.length-x/\i64.wrap ((x:Int)+1)=(x':Int) ∧
   gv (ae f) a b x++[mq (ae f) (a.getD x 0) (b.getD x 0)]=gv (ae f) a b x' :=
   fun aZ=>⟨by simp only[List.length_cons,List.length_nil];omega,x+1,by omega,by omega,bp (by omega),I0 _ _ _ _⟩
  refine⟨fun h2 _ _ _=>step (by omega),fun h2=>⟨fun h3 _ _ _=>step (by omega),fun h3=>⟨by omega,fun _=>?_⟩⟩⟩
  unfold oE yP
  rw[h,h1,show x=max a.length b.length by omega];rfl
theorem DN :
 ∀(d:Int×List Int×Int),Ty.wf ai d.1/\Ty.wf al d.2.1/\Ty.wf ai d.2.2->True->True/\((!bC d.1 d.2.1)=true->[]=jr d.1 d.2.1 d.2.2)/\((!bC d.1 d.2.1)=false->(0:Nat)<=d.2.1.length/\((d.1=d.1/\ah d.2.1/\ah d.2.2/\an/\(0:Int)=(↑(0:Nat):Int))/\[]=oo (ae d.1) d.2.1 d.2.2 (0:Nat))/\∀(x:Nat),x<=d.2.1.length->(decide ((x:Int)<(d.2.1.length:Int))=true->((0:Int)<=(x:Int)/\(x:Int)<(d.2.1.length:Int))/\True/\(Ty.wf ai (cD d.1 (d.2.1.getD ((x:Int).toNat) (0:Int)) d.2.2)->(List.length (oo (ae d.1) d.2.1 d.2.2 x)+List.length [cD d.1 (d.2.1.getD ((x:Int).toNat) (0:Int)) d.2.2])*(8:Nat)<=(140737488355328:Nat)/\∃(x':Nat),x'<=d.2.1.length/\d.2.1.length-x'<d.2.1.length-x/\(d.1=d.1/\ah d.2.1/\ah d.2.2/\an/\i64.wrap ((x:Int)+(1:Int))=(x':Int))/\oo (ae d.1) d.2.1 d.2.2 x++[cD d.1 (d.2.1.getD ((x:Int).toNat) (0:Int)) d.2.2]=oo (ae d.1) d.2.1 d.2.2 x'))/\(decide ((x:Int)<(d.2.1.length:Int))=false->List.length (oo (ae d.1) d.2.1 d.2.2 x)<=(1048576:Nat)/\(Ty.wf al (bj (oo (ae d.1) d.2.1 d.2.2 x))->bj (oo (ae d.1) d.2.1 d.2.2 x)=jr d.1 d.2.1 d.2.2))):=by
  intro (d:Int×List Int×Int) hw _
  obtain⟨f,a,c⟩:=d
  simp only[exists_const,forall_const,decide_eq_true_eq,decide_eq_false_iff_not,beq_iff_eq,sxS]
  refine⟨fun h=>by unfold jr;rw[h];rfl,fun h=>⟨by omega,⟨rfl,rfl⟩,fun x hx=>?_⟩⟩
  have ha:=iA h
  simp only[jn ha.1,Gp]
  refine⟨fun h2=>⟨⟨by omega,by omega⟩,fun _=>⟨by simp only[List.length_cons,List.length_nil];omega,x+1,by omega,by omega,bp (by omega),Mv _ _ _ _⟩⟩,fun h2=>⟨by omega,fun _=>?_⟩⟩
  unfold jr lj
  rw[h,show x=a.length by omega];rfl
theorem Kz :
 ∀(d:Int×List Int×List Int),Ty.wf ai d.1/\Ty.wf al d.2.1/\Ty.wf al d.2.2->aB d.1 d.2.1=true/\aB d.1 d.2.2=true/\d.2.1.length<=(1000:Nat)/\d.2.2.length<=(1000:Nat)->True/\(Ty.wf ai (ae d.1)->(decide ((d.2.1.length:Int)=(0:Int))=true->[]=hJ (ae d.1) d.2.1 d.2.2)/\(decide ((d.2.1.length:Int)=(0:Int))=false->(decide ((d.2.2.length:Int)=(0:Int))=true->[]=hJ (ae d.1) d.2.1 d.2.2)/\(decide ((d.2.2.length:Int)=(0:Int))=false->(0:Nat)<=d.2.1.length+d.2.2.length-(1:Nat)/\((d.1=d.1/\ah d.2.1/\ah d.2.2/\an/\ah (ae d.1)/\(0:Int)=(↑(0:Nat):Int))/\[]=eL (ae d.1) d.2.1 d.2.2 (0:Nat))/\∀(x:Nat),x<=d.2.1.length+d.2.2.length-(1:Nat)->(decide ((x:Int)<i64.wrap (i64.wrap ((d.2.1.length:Int)+(d.2.2.length:Int))-(1:Int)))=true->(0:Nat)<=min (x+(1:Nat)) d.2.1.length/\((d.1=d.1/\ah d.2.1/\ah d.2.2/\an/\ah (ae d.1)/\ah (x:Int)/\(0:Int)=fh (ae d.1) d.2.1 d.2.2 x (0:Nat)/\(0:Int)=(↑(0:Nat):Int))/\ah (eL (ae d.1) d.2.1 d.2.2 x))/\∀(x_1:Nat),x_1<=min (x+(1:Nat)) d.2.1.length->(decide ((x_1:Int)<=(x:Int))=true->(decide ((x_1:Int)<(d.2.1.length:Int))=true->(decide (i64.wrap ((x:Int)-(x_1:Int))<(d.2.2.length:Int))=true->((0:Int)<=(x_1:Int)/\(x_1:Int)<(d.2.1.length:Int))/\((0:Int)<=i64.wrap ((x:Int)-(x_1:Int))/\i64.wrap ((x:Int)-(x_1:Int))<(d.2.2.length:Int))/\ae d.1≠(0:Int)/\∃(x':Nat),x'<=min (x+(1:Nat)) d.2.1.length/\min (x+(1:Nat)) d.2.1.length-x'<min (x+(1:Nat)) d.2.1.length-x_1/\(d.1=d.1/\ah d.2.1/\ah d.2.2/\an/\ah (ae d.1)/\ah (x:Int)/\Int.tmod (i64.wrap (fh (ae d.1) d.2.1 d.2.2 x x_1+i64.wrap (d.2.1.getD ((x_1:Int).toNat) (0:Int)*d.2.2.getD (Int.toNat (i64.wrap ((x:Int)-(x_1:Int)))) (0:Int)))) (ae d.1)=fh (ae d.1) d.2.1 d.2.2 x x'/\i64.wrap ((x_1:Int)+(1:Int))=(x':Int))/\ah (eL (ae d.1) d.2.1 d.2.2 x))/\(decide (i64.wrap ((x:Int)-(x_1:Int))<(d.2.2.length:Int))=false->∃(x':Nat),x'<=min (x+(1:Nat)) d.2.1.length/\min (x+(1:Nat)) d.2.1.length-x'<min (x+(1:Nat)) d.2.1.length-x_1/\(d.1=d.1/\ah d.2.1/\ah d.2.2/\an/\ah (ae d.1)/\ah (x:Int)/\fh (ae d.1) d.2.1 d.2.2 x x_1=fh (ae d.1) d.2.1 d.2.2 x x'/\i64.wrap ((x_1:Int)+(1:Int))=(x':Int))/\ah (eL (ae d.1) d.2.1 d.2.2 x)))/\(decide ((x_1:Int)<(d.2.1.length:Int))=false->(List.length (eL (ae d.1) d.2.1 d.2.2 x)+List.length [fh (ae d.1) d.2.1 d.2.2 x x_1])*(8:Nat)<=(140737488355328:Nat)/\∃(x':Nat),x'<=d.2.1.length+d.2.2.length-(1:Nat)/\d.2.1.length+d.2.2.length-(1:Nat)-x'<d.2.1.length+d.2.2.length-(1:Nat)-x/\(d.1=d.1/\ah d.2.1/\ah d.2.2/\an/\ah (ae d.1)/\i64.wrap ((x:Int)+(1:Int))=(x':Int))/\eL (ae d.1) d.2.1 d.2.2 x++[fh (ae d.1) d.2.1 d.2.2 x x_1]=eL (ae d.1) d.2.1 d.2.2 x'))/\(decide ((x_1:Int)<=(x:Int))=false->(List.length (eL (ae d.1) d.2.1 d.2.2 x)+List.length [fh (ae d.1) d.2.1 d.2.2 x x_1])*(8:Nat)<=(140737488355328:Nat)/\∃(x':Nat),x'<=d.2.1.length+d.2.2.length-(1:Nat)/\d.2.1.length+d.2.2.length-(1:Nat)-x'<d.2.1.length+d.2.2.length-(1:Nat)-x/\(d.1=d.1/\ah d.2.1/\ah d.2.2/\an/\ah (ae d.1)/\i64.wrap ((x:Int)+(1:Int))=(x':Int))/\eL (ae d.1) d.2.1 d.2.2 x++[fh (ae d.1) d.2.1 d.2.2 x x_1]=eL (ae d.1) d.2.1 d.2.2 x'))/\(decide ((x:Int)<i64.wrap (i64.wrap ((d.2.1.length:Int)+(d.2.2.length:Int))-(1:Int)))=false->List.length (eL (ae d.1) d.2.1 d.2.2 x)<=(1048576:Nat)/\(Ty.wf al (bj (eL (ae d.1) d.2.1 d.2.2 x))->bj (eL (ae d.1) d.2.1 d.2.2 x)=hJ (ae d.1) d.2.1 d.2.2))))):=by
  intro (d:Int×List Int×List Int) hw hp
  obtain⟨f,a,b⟩:=d
  replace hp:aB f a=true/\aB f b=true/\a.length<=1000/\b.length<=1000:=hp
  simp only[exists_const,forall_const,decide_eq_true_eq,decide_eq_false_iff_not,beq_iff_eq,sxS]
  intro _
  obtain⟨Wy,Wz,Wm,E7⟩:=hp
  obtain⟨hm,Ii⟩:=js Wy
  obtain⟨_,rO⟩:=js Wz
  have hp:=(cH hm).1
  refine⟨fun h=>by unfold hJ;rw[if_pos (by omega)],fun h=>⟨fun h1=>by unfold hJ;rw[if_pos (by omega)],fun h1=>⟨by omega,⟨rfl,rfl⟩,fun x hx=>?_⟩⟩⟩
  have eI:i64.wrap (i64.wrap ((a.length:Int)+(b.length:Int))-1)=((a.length+b.length-1:Nat):Int):=by
   rw[wrap_small (n:=(a.length:Int)+(b.length:Int)) (by omega),wrap_small (by omega)];omega
  rw[eI,C4]
  refine⟨fun h2=>⟨by omega,⟨rfl,rfl⟩,fun y hy=>?_⟩,fun h2=>⟨by omega,fun _=>?_⟩⟩
  ·have fin:y=min (x+1) a.length->(x+[fh (ae f) a b x y].length)*8<=140737488355328/\∃ x',x'<=a.length+b.length-1/\a.length+b.length-1-x'<a.length+b.length-1-x/\i64.wrap ((x:Int)+1)=(x':Int) ∧
    eL (ae f) a b x++[fh (ae f) a b x y]=eL (ae f) a b x':=fun e =>
    ⟨by simp only[List.length_cons,List.length_nil];omega,x+1,by omega,by omega,bp (by omega),by rw[e];exact JS _ _ _ _⟩
   refine⟨fun h3=>⟨fun h4=>?_,fun h4=>fin (by omega)⟩,fun h3=>fin (by omega)⟩
   have wj:i64.wrap ((x:Int)-(y:Int))=((x-y:Nat):Int):=by rw[wrap_small (by omega)];omega
   rw[wj,Int.toNat_natCast]
   refine⟨fun h5=>⟨⟨by omega,by omega⟩,⟨by omega,by omega⟩,hm,y+1,by omega,by omega,?_,bp (by omega)⟩,fun h5=>⟨y+1,by omega,by omega,(C8 (by omega)).symm,bp (by omega)⟩⟩
   rw[MN hp (H8 hp _ _ _ _) (vO hp Ii _) (vO hp rO _),wE (by omega)]
  ·unfold hJ
   rw[if_neg (by omega),show x=a.length+b.length-1 by omega]
set_option maxRecDepth 10000
theorem lI{a:List Int}{t:Nat}(h:a.length<=t):a.getD t 0=0:=by
 rw[List.getD_eq_getElem?_getD,List.getElem?_eq_none h];rfl
def Gq(A:List Int)(t:Nat):Int:=if t=0 then 0 else A.getD (t-1) 0
def wq(p r:Int)(A:List Int):List Int:=(List.range (A.length+1)).map (fun t=>(A.getD t 0*r+Gq A t)%p)
theorem Iu(p r:Int)(A:List Int):(wq p r A).length=A.length+1:=o_ _ _
theorem PM{p:Int}(r:Int)(A:List Int)(t:Nat):(wq p r A).getD t 0=(A.getD t 0*r+Gq A t)%p:=by
 unfold wq
 rw[FG]
 split
 ·rfl
 ·have h1:Gq A t=0:=by
   unfold Gq
   rw[if_neg (by omega)]
   exact lI (by omega)
  rw[lI (show A.length<=t by omega),h1,Int.zero_mul]
  rfl
theorem FV{p r:Int}{A:List Int}{t:Nat}:∀ j,j+1<=t->fh p A [r,1] t j=0
 | 0,_=>rfl
 | j+1,h=>by
   rw[C8 (by simp only[List.length_cons,List.length_nil];omega)]
   exact FV j (by omega)
theorem LS{p:Int}(hp:bg p)(r:Int)(A:List Int):bw p (wq p r A)=true:=yU (fun _ _=>eh (by unfold bg at hp;omega) _)
theorem Fz{p:Int}{r:Int}{A:List Int}(hl:1<=A.length)(he:bw p A=true):(wq p r A).getD A.length 0=A.getD (A.length-1) 0:=by
 rw[PM,lI (Nat.le_refl _),Int.zero_mul,Int.zero_add]
 unfold Gq
 rw[if_neg (by omega)]
 exact nS (DW he (by omega))
theorem tY{l:List Int}(h:iC l=true):bj l=l:=by
 unfold iC at h
 rw[decide_eq_true_eq] at h
 unfold bj
 rw[h,List.take_length]
theorem Ix{p:Int}(hp:bg p){r:Int}{A:List Int}(hl:1<=A.length)(he:bw p A=true)(ht:A.getD (A.length-1) 0≠0):hJ p A [r,1]=wq p r A:=by
 have key:eL p A [r,1] (A.length+1)=wq p r A:=by
  refine rf (fun t TZ=>?_)
  have dW:∀ {x},x=1->([r,1]:List Int).getD x 0=1:=fun h=>by subst h;rfl
  have dD:1<=t->fh p A [r,1] t t=A.getD (t-1) 0%p:=fun h=>by
   obtain⟨u,rfl⟩:∃ u,t=u+1:=⟨t-1,by omega⟩
   rw[wE (by simp only[List.length_cons,List.length_nil];omega),FV u (by omega),dW (by omega),Int.zero_add,Int.mul_one,Nat.add_sub_cancel]
  by_cases h:t<A.length
  ·rw[Nat.min_eq_left (by omega),wE (by simp only[List.length_cons,List.length_nil];omega),Nat.sub_self]
   show (_+A.getD t 0*r)%p=_
   unfold Gq
   by_cases h0:t=0
   ·subst h0
    rw[if_pos rfl]
    show (0+_)%p=_
    rw[Int.zero_add,Int.add_zero]
   ·rw[if_neg h0,dD (by omega),gN,Int.add_comm]
  ·rw[Nat.min_eq_right (by omega)]
   obtain rfl:t=A.length:=by omega
   rw[dD (by omega),lI (Nat.le_refl _),Int.zero_mul,Int.zero_add]
   unfold Gq
   rw[if_neg (by omega)]
 unfold hJ
 rw[if_neg (by simp only[List.length_cons,List.length_nil];omega)]
 show bj (eL p A [r,1] (A.length+1+1-1))=_
 rw[Nat.add_sub_cancel,key]
 refine tY ((qw _).2 (.inr ?_))
 rw[Iu,Nat.add_sub_cancel,Fz hl he]
 exact ht
theorem G1{p:Int}(hp:bg p)(xs:List Int):∀ n,(hY p xs n).length=n+1/\bw p (hY p xs n)=true/\(hY p xs n).getD n 0=1/\hY p xs (n+1)=wq p (lP p 0 (xs.getD n 0)) (hY p xs n)
 | 0=>by
   have he:bw p [1]=true:=t_ (fun i hi=>by
    obtain rfl:i=0:=by simp only[List.length_cons,List.length_nil] at hi;omega
    exact s7 hp)
   exact⟨rfl,he,rfl,Ix hp (A:=[1]) (Nat.le_refl _) he (by decide)⟩
 | n+1=>by
   obtain⟨h1,h2,h3,h4⟩:=G1 hp xs n
   have e1:(hY p xs (n+1)).length=n+1+1:=by rw[h4,Iu,h1]
   have e2:bw p (hY p xs (n+1))=true:=by rw[h4];exact LS hp _ _
   have e3:(hY p xs (n+1)).getD (n+1) 0=1:=by
    have:=Fz (p:=p) (r:=lP p 0 (xs.getD n 0)) (A:=hY p xs n) (by omega) h2
    rw[h1,Nat.add_sub_cancel,h3] at this
    rw[h4];exact this
   refine⟨e1,e2,e3,?_⟩
   refine Ix hp (by omega) e2 ?_
   rw[e1,Nat.add_sub_cancel,e3];decide
theorem Ch{p:Int}(hp:bg p)(xs:List Int):(ke p xs).length=xs.length+1/\bw p (ke p xs)=true/\iC (ke p xs)=true:=by
 obtain⟨h1,h2,h3,_⟩:=G1 hp xs xs.length
 refine⟨h1,h2,(qw _).2 (.inr ?_)⟩
 show (hY p xs xs.length).getD ((hY p xs xs.length).length-1) 0≠0
 rw[h1,Nat.add_sub_cancel,h3];decide
theorem tz(xs:List Int)(i:Nat):∀ n,(dO xs i n).length<=n
 | 0=>Nat.le_refl _
 | n+1=>by
   have:=tz xs i n
   unfold dO
   split
   ·omega
   ·rw[List.length_append];simp only[List.length_cons,List.length_nil];omega
theorem FM{xs:List Int}{i n:Nat}(h:n=i):dO xs i (n+1)=dO xs i n:=by
 show (if _ then _ else _)=_
 rw[if_pos h]
theorem FO{xs:List Int}{i n:Nat}(h:n≠i):dO xs i (n+1)=dO xs i n++[xs.getD n 0]:=by
 show (if _ then _ else _)=_
 rw[if_neg h]
theorem C5{p:Int}{xs:List Int}(he:bw p xs=true)(i:Nat):∀ n,n<=xs.length->bw p (dO xs i n)=true
 | 0,_=>by simp[dO,bw]
 | n+1,h=>by
   have h1:=C5 he i n (by omega)
   by_cases e:n=i
   ·rw[FM e];exact h1
   ·rw[FO e]
    unfold bw at *
    rw[decide_eq_true_eq] at *
    intro x hx
    rcases List.mem_append.1 hx with hx|hx
    ·exact h1 x hx
    ·rw[List.mem_singleton.1 hx]
     exact he _ (FE (by omega))
theorem uX{p:Int}{l:List Int}(h:bw p l=true):bw p (bj l)=true:=Jj h _
theorem zY{p:Int}(hp:bg p)(a b:List Int):bw p (yP p a b)=true/\(yP p a b).length<=max a.length b.length/\iC (yP p a b)=true:=by
 refine⟨uX (yU (fun _ _=>Bx hp _ _)),?_,rn _⟩
 unfold yP
 rw[oA]
 have:=s4 (gv p a b (max a.length b.length))
 rwa [Cu] at this
theorem zm{p:Int}(hp:bg p)(a:List Int)(c:Int):bw p (lj p a c)=true/\(lj p a c).length<=a.length/\iC (lj p a c)=true:=by
 refine⟨uX (yU (fun _ _=>xm hp _ _)),?_,rn _⟩
 unfold lj
 rw[oA]
 have:=s4 (oo p a c a.length)
 rwa [Gp] at this
theorem w6{p:Int}(hp:bg p){xs:List Int}(ys:List Int)(hl:xs.length<=40):∀ n,bw p (fM p xs ys n)=true/\(fM p xs ys n).length<=41/\iC (fM p xs ys n)=true
 | 0=>⟨by simp[fM,bw],by simp[fM],by unfold fM;rfl⟩
 | n+1=>by
   obtain⟨h1,h2,h3⟩:=w6 hp ys hl n
   unfold fM
   refine⟨(zY hp _ _).1,?_,(zY hp _ _).2.2⟩
   have e1:=(zY hp (fM p xs ys n) (lj p (ke p (dO xs n xs.length)) (mulM p (ys.getD n 0) (Bj p xs n)))).2.1
   have e2:=(zm hp (ke p (dO xs n xs.length)) (mulM p (ys.getD n 0) (Bj p xs n))).2.1
   have e3:=(Ch hp (dO xs n xs.length)).1
   have e4:=tz xs n xs.length
   omega
set_option maxRecDepth 10000
theorem EH:(∀ y:Fin 17,y.val≠0->y.val^16%17=1)/\(∀ y:Fin 97,y.val≠0->y.val^96%97=1)/\(∀ y:Fin 193,y.val≠0->y.val^192%193=1)/\(∀ y:Fin 257,y.val≠0->y.val^256%257=1):=by decide +kernel
theorem rI{P:Nat}(h:∀ y:Fin P,y.val≠0->y.val^(P-1)%P=1){x:Int}(hP:0<P)(hx:x%(P:Int)≠0):x^(P-1)%(P:Int)=1:=by
 have h0:=Int.emod_nonneg x (show (P:Int)≠0 by omega)
 have h1:=Int.emod_lt_of_pos x (show (0:Int)<P by omega)
 obtain⟨n,hn⟩:=Int.eq_ofNat_of_zero_le h0
 have h2:=h ⟨n,by omega⟩ (by show n≠0;omega)
 simp only at h2
 rw[<-pow_mod,hn,<-Int.natCast_pow,<-Int.natCast_emod,h2]
 rfl
theorem K1{f:Int}(h:0<=f/\f<4){x:Int}(hx:x%ae f≠0):x^(ae f-1).toNat%ae f=1:=by
 obtain⟨h1,h2,h3,h4⟩:=EH
 have hc:f=0\/f=1\/f=2\/f=3:=by omega
 rcases hc with rfl|rfl|rfl|rfl
 ·exact rI (P:=17) h1 (by decide) hx
 ·exact rI (P:=97) h2 (by decide) hx
 ·exact rI (P:=193) h3 (by decide) hx
 ·exact rI (P:=257) h4 (by decide) hx
theorem yu(p:Int)(hp:bg p){y:Int}(h:y%p=1):∀ q:Nat,y^q%p=1
 | 0=>by rw[Int.pow_zero];exact nS (s7 hp)
 | q+1=>by rw[Int.pow_succ,<-dy,yu p hp h q,Int.one_mul,h]
theorem NQ{f:Int}(hm:ae f≠0)(x:Int){i:Nat}(hi:i<=400):n_ (ae f) x (i:Int)=eO (ae f) x i:=by
 obtain⟨hp,hf⟩:=cH hm
 unfold n_
 by_cases hx:x%ae f=0
 ·rw[if_pos hx]
  match i with
  | 0 =>
    rw[if_pos (show ((0:Nat):Int)=0 from rfl)]
    unfold eO
    rw[Int.pow_zero];exact (nS (s7 hp)).symm
  | i+1 =>
    rw[if_neg (by omega),if_neg (by omega)]
    unfold eO
    rw[Int.pow_succ,<-dz,hx,Int.mul_zero,Int.zero_emod]
 ·rw[if_neg hx]
  by_cases hs:f<4
  ·have TA:=K1 ⟨hf.1,hs⟩ hx
   have UO:=hp
   unfold bg at UO
   obtain⟨P,hP⟩:=Int.eq_ofNat_of_zero_le (show 0<=ae f-1 by omega)
   have hr:((i:Int)%(ae f-1)).toNat=i%P:=by rw[hP];rfl
   rw[hr]
   rw[hP,Int.toNat_natCast] at TA
   unfold eO
   conv=>rhs;rw[<-Nat.div_add_mod i P,Int.pow_add,Int.pow_mul,<-dy,yu _ hp TA,Int.one_mul]
  ·have v7:7681<=ae f:=by
    have hc:f=4\/f=5\/f=6\/f=7\/f=8:=by omega
    rcases hc with rfl|rfl|rfl|rfl|rfl<;>decide
   rw[Int.emod_eq_of_lt (by omega) (by omega),Int.toNat_natCast]
theorem QI{p:Int}(hp:bg p)(a:List Int)(x:Int):∀ n,El p (qH p a x n)
 | 0=>s8 hp
 | n+1=>Bx hp _ _
theorem QJ{p:Int}(hp:bg p)(a:List Int)(x:Int):El p (x8 p a x):=QI hp a x _
theorem JZ{p:Int}{a b:Int}(ha:El p a)(hb:El p b):bw p [a,b]=true:=t_ (fun i hi=>by
 simp only[List.length_cons,List.length_nil] at hi
 match i with
 | 0=>exact ha
 | 1=>exact hb
 | n+2=>omega)
theorem uB{f:Int}{xs ys:List Int}(h:(cm f xs&&decide (ys.length=xs.length)&&aB f ys)=false):([],false)=dN f xs ys:=by unfold dN;rw[h];rfl
theorem Fu{f:Int}{xs ys:List Int}(h1:cm f xs=true)(h2:ys.length=xs.length)(h3:aB f ys=true):dN f xs ys=(sM (ae f) xs ys,true):=by
 unfold dN
 rw[h1,h3,decide_eq_true h2];rfl
theorem LH{f:Int}{xs ys:List Int}(h:(dN f xs ys).2=true):cm f xs=true/\ys.length=xs.length/\aB f ys=true/\dN f xs ys=(sM (ae f) xs ys,true):=by
 by_cases hc:(cm f xs&&decide (ys.length=xs.length)&&aB f ys)=true
 ·have eu:=hc
  simp only[Bool.and_eq_true,decide_eq_true_eq] at eu
  exact⟨eu.1.1,eu.1.2,eu.2,Fu eu.1.1 eu.1.2 eu.2⟩
 ·rw[<-uB (by simpa using hc)] at h
  cases h
theorem DS :
 ∀(d:Int×List Int),Ty.wf ai d.1/\Ty.wf al d.2->aB d.1 d.2=true/\d.2.length<=(40:Nat)->(0:Nat)<=d.2.length/\((d.1=d.1/\d.2=d.2/\an/\(0:Int)=(↑(0:Nat):Int))/\[(1:Int)]=hY (ae d.1) d.2 (0:Nat))/\∀(x:Nat),x<=d.2.length->(decide ((x:Int)<(d.2.length:Int))=true->((0:Int)<=(x:Int)/\(x:Int)<(d.2.length:Int))/\True/\(Ty.wf ai (gI d.1 (0:Int) (d.2.getD ((x:Int).toNat) (0:Int)))->(aB d.1 (hY (ae d.1) d.2 x)=true/\aB d.1 [gI d.1 (0:Int) (d.2.getD ((x:Int).toNat) (0:Int)),(1:Int)]=true/\List.length (hY (ae d.1) d.2 x)<=(1000:Nat)/\List.length [gI d.1 (0:Int) (d.2.getD ((x:Int).toNat) (0:Int)),(1:Int)]<=(1000:Nat))/\(Ty.wf al (hJ (ae d.1) (hY (ae d.1) d.2 x) [gI d.1 (0:Int) (d.2.getD ((x:Int).toNat) (0:Int)),(1:Int)])->∃(x':Nat),x'<=d.2.length/\d.2.length-x'<d.2.length-x/\(d.1=d.1/\d.2=d.2/\an/\i64.wrap ((x:Int)+(1:Int))=(x':Int))/\hJ (ae d.1) (hY (ae d.1) d.2 x) [gI d.1 (0:Int) (d.2.getD ((x:Int).toNat) (0:Int)),(1:Int)]=hY (ae d.1) d.2 x')))/\(decide ((x:Int)<(d.2.length:Int))=false->hY (ae d.1) d.2 x=ke (ae d.1) d.2):=by
  intro (d:Int×List Int) hw hp
  obtain⟨f,xs⟩:=d
  replace hp:aB f xs=true/\xs.length<=40:=hp
  simp only[exists_const,forall_const,decide_eq_true_eq,decide_eq_false_iff_not,beq_iff_eq,sxS]
  obtain⟨hs,hl⟩:=hp
  obtain⟨hm,he⟩:=js hs
  have h0:=(cH hm).1
  refine⟨by omega,⟨rfl,rfl⟩,fun x hx=>⟨fun h=>⟨⟨by omega,by omega⟩,fun _=>?_⟩,fun h=>by rw[show x=xs.length by omega];rfl⟩⟩
  rw[tM hm]
  have hv:=G1 h0 xs x
  exact⟨⟨qv hm hv.2.1,qv hm (JZ (H9 h0 _ _) (s7 h0)),by omega,by simp⟩,fun _=>⟨x+1,by omega,by omega,bp (by omega),rfl⟩⟩
theorem Ce :
 ∀(d:Int×List Int×List Int),Ty.wf ai d.1/\Ty.wf al d.2.1/\Ty.wf al d.2.2->cm d.1 d.2.1=true/\d.2.2.length=d.2.1.length->(0:Nat)<=d.2.1.length/\((d.1=d.1/\ah d.2.1/\ah d.2.2/\an/\(0:Int)=(↑(0:Nat):Int))/\[]=fM (ae d.1) d.2.1 d.2.2 (0:Nat))/\∀(x:Nat),x<=d.2.1.length->(decide ((x:Int)<(d.2.1.length:Int))=true->(0:Nat)<=d.2.1.length/\((d.1=d.1/\ah d.2.1/\ah d.2.2/\an/\ah (x:Int)/\(1:Int)=my (ae d.1) d.2.1 x (0:Nat)/\(0:Int)=(↑(0:Nat):Int))/\ah (fM (ae d.1) d.2.1 d.2.2 x)/\[]=dO d.2.1 x (0:Nat))/\∀(x_1:Nat),x_1<=d.2.1.length->(decide ((x_1:Int)<(d.2.1.length:Int))=true->((!decide ((x_1:Int)=(x:Int)))=true->((0:Int)<=(x_1:Int)/\(x_1:Int)<(d.2.1.length:Int))/\(List.length (dO d.2.1 x x_1)+List.length [d.2.1.getD ((x_1:Int).toNat) (0:Int)])*(8:Nat)<=(140737488355328:Nat)/\((0:Int)<=(x:Int)/\(x:Int)<(d.2.1.length:Int))/\((0:Int)<=(x_1:Int)/\(x_1:Int)<(d.2.1.length:Int))/\True/\True/\(Ty.wf ai (cD d.1 (my (ae d.1) d.2.1 x x_1) (gI d.1 (d.2.1.getD ((x:Int).toNat) (0:Int)) (d.2.1.getD ((x_1:Int).toNat) (0:Int))))->Ty.wf ai (gI d.1 (d.2.1.getD ((x:Int).toNat) (0:Int)) (d.2.1.getD ((x_1:Int).toNat) (0:Int)))->∃(x':Nat),x'<=d.2.1.length/\d.2.1.length-x'<d.2.1.length-x_1/\(d.1=d.1/\ah d.2.1/\ah d.2.2/\an/\ah (x:Int)/\cD d.1 (my (ae d.1) d.2.1 x x_1) (gI d.1 (d.2.1.getD ((x:Int).toNat) (0:Int)) (d.2.1.getD ((x_1:Int).toNat) (0:Int)))=my (ae d.1) d.2.1 x x'/\i64.wrap ((x_1:Int)+(1:Int))=(x':Int))/\ah (fM (ae d.1) d.2.1 d.2.2 x)/\dO d.2.1 x x_1++[d.2.1.getD ((x_1:Int).toNat) (0:Int)]=dO d.2.1 x x'))/\((!decide ((x_1:Int)=(x:Int)))=false->∃(x':Nat),x'<=d.2.1.length/\d.2.1.length-x'<d.2.1.length-x_1/\(d.1=d.1/\ah d.2.1/\ah d.2.2/\an/\ah (x:Int)/\my (ae d.1) d.2.1 x x_1=my (ae d.1) d.2.1 x x'/\i64.wrap ((x_1:Int)+(1:Int))=(x':Int))/\ah (fM (ae d.1) d.2.1 d.2.2 x)/\dO d.2.1 x x_1=dO d.2.1 x x'))/\(decide ((x_1:Int)<(d.2.1.length:Int))=false->(aB d.1 (dO d.2.1 x x_1)=true/\List.length (dO d.2.1 x x_1)<=(40:Nat))/\((0:Int)<=(x:Int)/\(x:Int)<(d.2.2.length:Int))/\True/\True/\True/\True/\(Ty.wf al (oE d.1 (fM (ae d.1) d.2.1 d.2.2 x) (jr d.1 (ke (ae d.1) (dO d.2.1 x x_1)) (cD d.1 (d.2.2.getD ((x:Int).toNat) (0:Int)) (bk d.1 (my (ae d.1) d.2.1 x x_1) (-1:Int)))))->Ty.wf al (jr d.1 (ke (ae d.1) (dO d.2.1 x x_1)) (cD d.1 (d.2.2.getD ((x:Int).toNat) (0:Int)) (bk d.1 (my (ae d.1) d.2.1 x x_1) (-1:Int))))->Ty.wf ai (cD d.1 (d.2.2.getD ((x:Int).toNat) (0:Int)) (bk d.1 (my (ae d.1) d.2.1 x x_1) (-1:Int)))->Ty.wf ai (bk d.1 (my (ae d.1) d.2.1 x x_1) (-1:Int))->Ty.wf al (ke (ae d.1) (dO d.2.1 x x_1))->∃(x':Nat),x'<=d.2.1.length/\d.2.1.length-x'<d.2.1.length-x/\(d.1=d.1/\ah d.2.1/\ah d.2.2/\an/\i64.wrap ((x:Int)+(1:Int))=(x':Int))/\oE d.1 (fM (ae d.1) d.2.1 d.2.2 x) (jr d.1 (ke (ae d.1) (dO d.2.1 x x_1)) (cD d.1 (d.2.2.getD ((x:Int).toNat) (0:Int)) (bk d.1 (my (ae d.1) d.2.1 x x_1) (-1:Int))))=fM (ae d.1) d.2.1 d.2.2 x')))/\(decide ((x:Int)<(d.2.1.length:Int))=false->List.length (fM (ae d.1) d.2.1 d.2.2 x)<=(1048576:Nat)/\(Ty.wf al (bj (fM (ae d.1) d.2.1 d.2.2 x))->bj (fM (ae d.1) d.2.1 d.2.2 x)=sM (ae d.1) d.2.1 d.2.2)):=by
  intro (d:Int×List Int×List Int) hw hp
  obtain⟨f,xs,ys⟩:=d
  replace hp:cm f xs=true/\ys.length=xs.length:=hp
  simp only[exists_const,forall_const,decide_eq_true_eq,decide_eq_false_iff_not,beq_iff_eq,sxS]
  obtain⟨rR,Lo⟩:=hp
  obtain⟨hm,E6,jf,he,hn⟩:=uK rR
  have hp:=re hm
  refine⟨by omega,⟨rfl,rfl⟩,fun x hx=>⟨fun h=>⟨by omega,⟨⟨rfl,rfl⟩,rfl⟩,fun y hy=>⟨fun h1=>⟨fun h2=>?_,fun h2=>?_⟩,fun h1=>?_⟩⟩,fun h=>?_⟩⟩
  ·have Wx:=tz xs x y
   rw[jn hm,tM hm]
   refine⟨⟨by omega,by omega⟩,by simp only[List.length_cons,List.length_nil];omega,⟨by omega,by omega⟩,⟨by omega,by omega⟩,fun _ _=>⟨y+1,by omega,by omega,⟨?_,bp (by omega)⟩,(FO (by omega)).symm⟩⟩
   show _=if y=x then _ else _
   rw[if_neg (by omega)]
  ·refine⟨y+1,by omega,by omega,⟨?_,bp (by omega)⟩,(FM (by omega)).symm⟩
   show _=if y=x then _ else _
   rw[if_pos (by omega)]
  ·obtain rfl:y=xs.length:=by omega
   have Wx:=tz xs x xs.length
   have hv:=Ch hp.mod (dO xs x xs.length)
   have hinv:bk f (my (ae f) xs x xs.length) (-1)=Bj (ae f) xs x:=by
    rw[tF hm,FU hp.mod (I5 hp he hn (by omega) _ (Nat.le_refl _))];rfl
   have TX:=zm hp.mod (ke (ae f) (dO xs x xs.length)) (mulM (ae f) (ys.getD x 0) (Bj (ae f) xs x))
   have OW:=w6 hp.mod ys jf x
   have UP:jr f (ke (ae f) (dO xs x xs.length)) (mulM (ae f) (ys.getD x 0) (Bj (ae f) xs x))=lj (ae f) (ke (ae f) (dO xs x xs.length)) (mulM (ae f) (ys.getD x 0) (Bj (ae f) xs x)):=by
    unfold jr
    rw[if_pos (qo hm hv.2.1 (by omega) hv.2.2)]
   rw[hinv,jn hm,UP]
   refine⟨⟨qv hm (C5 he x _ (Nat.le_refl _)),by omega⟩,⟨by omega,by omega⟩,fun _ _ _ _ _=>⟨x+1,by omega,by omega,bp (by omega),?_⟩⟩
   unfold oE
   rw[qo hm OW.1 (by omega) OW.2.2,qo hm TX.1 (by omega) TX.2.2]
   rfl
  ·obtain rfl:x=xs.length:=by omega
   have OW:=w6 hp.mod ys jf xs.length
   exact⟨by omega,fun _=>tY OW.2.2⟩
theorem Bb :
 ∀(d:Int×List Int×List Int),Ty.wf ai d.1/\Ty.wf al d.2.1/\Ty.wf al d.2.2->True->True/\((!cm d.1 d.2.1)=true->([],false)=dN d.1 d.2.1 d.2.2)/\((!cm d.1 d.2.1)=false->((!decide ((d.2.2.length:Int)=(d.2.1.length:Int)))=true->([],false)=dN d.1 d.2.1 d.2.2)/\((!decide ((d.2.2.length:Int)=(d.2.1.length:Int)))=false->True/\((!aB d.1 d.2.2)=true->([],false)=dN d.1 d.2.1 d.2.2)/\((!aB d.1 d.2.2)=false->(cm d.1 d.2.1=true/\d.2.2.length=d.2.1.length)/\(Ty.wf al (sM (ae d.1) d.2.1 d.2.2)->(sM (ae d.1) d.2.1 d.2.2,true)=dN d.1 d.2.1 d.2.2)))):=by
  intro (d:Int×List Int×List Int) hw hp
  obtain⟨f,xs,ys⟩:=d
  simp only[exists_const,forall_const,decide_eq_true_eq,decide_eq_false_iff_not,beq_iff_eq,sxS]
  refine⟨fun h=>uB (by rw[h];rfl),fun h=>⟨fun h1=>uB (by rw[decide_eq_false (by omega),Bool.and_false];rfl),fun h1=>⟨fun h2=>uB (by rw[h2,Bool.and_false]),fun h2=>⟨⟨h,by omega⟩,fun _=>(Fu h (by omega) h2).symm⟩⟩⟩⟩
theorem GK :
 ∀(d:Int×List Int×Int),Ty.wf ai d.1/\Ty.wf al d.2.1/\Ty.wf ai d.2.2->True->True/\((!bC d.1 d.2.1)=true->(-1:Int)=rH d.1 d.2.1 d.2.2)/\((!bC d.1 d.2.1)=false->(0:Nat)<=d.2.1.length/\(d.1=d.1/\ah d.2.1/\ah d.2.2/\ah (0:Int)/\(0:Int)=qH (ae d.1) d.2.1 d.2.2 (0:Nat)/\(0:Int)=(↑(0:Nat):Int))/\∀(x:Nat),x<=d.2.1.length->(decide ((x:Int)<(d.2.1.length:Int))=true->((0:Int)<=(x:Int)/\(x:Int)<(d.2.1.length:Int))/\True/\True/\True/\(Ty.wf ai (mr d.1 (qH (ae d.1) d.2.1 d.2.2 x) (cD d.1 (d.2.1.getD ((x:Int).toNat) (0:Int)) (bk d.1 d.2.2 (x:Int))))->Ty.wf ai (cD d.1 (d.2.1.getD ((x:Int).toNat) (0:Int)) (bk d.1 d.2.2 (x:Int)))->Ty.wf ai (bk d.1 d.2.2 (x:Int))->∃(x':Nat),x'<=d.2.1.length/\d.2.1.length-x'<d.2.1.length-x/\d.1=d.1/\ah d.2.1/\ah d.2.2/\ah (0:Int)/\mr d.1 (qH (ae d.1) d.2.1 d.2.2 x) (cD d.1 (d.2.1.getD ((x:Int).toNat) (0:Int)) (bk d.1 d.2.2 (x:Int)))=qH (ae d.1) d.2.1 d.2.2 x'/\i64.wrap ((x:Int)+(1:Int))=(x':Int)))/\(decide ((x:Int)<(d.2.1.length:Int))=false->qH (ae d.1) d.2.1 d.2.2 x=rH d.1 d.2.1 d.2.2)):=by
  intro (d:Int×List Int×Int) hw hp
  obtain⟨f,a,y⟩:=d
  simp only[exists_const,forall_const,decide_eq_true_eq,decide_eq_false_iff_not,beq_iff_eq,sxS]
  refine⟨fun h=>by unfold rH;rw[h];rfl,fun h=>?_⟩
  obtain⟨hm,he,hl,ht⟩:=iA h
  refine⟨by omega,⟨rfl,rfl⟩,fun x hx=>⟨fun h1=>⟨⟨by omega,by omega⟩,fun _ _ _=>⟨x+1,by omega,by omega,?_,bp (by omega)⟩⟩,fun h1=>?_⟩⟩
  ·rw[tF hm,NQ hm y (by omega),jn hm,Bo hm];rfl
  ·rw[show x=a.length by omega]
   unfold rH
   rw[if_pos h];rfl
set_option maxRecDepth 10000
theorem C3(n:Int):∀ m:Nat,m<=10->0<=oR n m->∃ k:Nat,k<=9/\oR n m=(k:Int)/\n=2^k
 | 0,_,h=>by have:oR n 0 = -1:=rfl;omega
 | m+1,hm,h=>by
   unfold oR at h ⊢
   by_cases e:n=2^(9-m)
   ·rw[if_pos e];exact⟨9-m,by omega,rfl,e⟩
   ·rw[if_neg e] at h ⊢
    exact C3 n m (by omega) h
theorem PN{n:Nat}(h:0<=cC (n:Int)):cC (n:Int)<=9/\n=2^(cC (n:Int)).toNat:=by
 obtain⟨k,h1,h2,h3⟩:=C3 (n:Int) 10 (Nat.le_refl _) h
 have h4:cC (n:Int)=(k:Int):=h2
 rw[h4,Int.toNat_natCast]
 refine⟨by omega,?_⟩
 rw[show (2:Int)^k=((2^k:Nat):Int) from (Int.natCast_pow 2 k).symm] at h3
 exact Int.ofNat.inj h3
theorem AR{k:Nat}(h:k<=9):2^k<=512:=Nat.pow_le_pow_right (n:=2) (by omega) h
theorem Nw(x i:Nat)(hi:i<=63):ix .i64 (x:Int) (i:Int)=((x/2^i:Nat):Int):=by
 unfold ix
 rw[Int.toNat_natCast,show min i i64.bits=i by show min i 64=i;omega,Int.fdiv_eq_ediv_of_nonneg _ (Int.le_of_lt (Int.pow_pos (by omega)))]
 rw[show ((2:Int)^i)=((2^i:Nat):Int) from (Int.natCast_pow 2 i).symm]
 rfl
theorem N3(n:Nat):((n:Nat):Int).tmod 2=((n%2:Nat):Int):=rfl
set_option maxRecDepth 10000
theorem Na{f:Int}(h:¬(0<=f/\f<9)):bQ f=0:=by unfold bQ;rw[ui h]
theorem K5{f:Int}(h:ae f≠0):El (ae f) (bQ f)/\bQ f%ae f≠0:=by
 rcases f_ (cH h).2 with rfl|rfl|rfl|rfl|rfl|rfl|rfl|rfl|rfl<;>exact⟨⟨by decide,by decide⟩,by decide⟩
theorem IM{f:Int}(h:ae f≠0):∃ o:Nat,(ae f-1).toNat=2^(dE f).toNat*o:=by
 rcases f_ (cH h).2 with rfl|rfl|rfl|rfl|rfl|rfl|rfl|rfl|rfl
 ·exact⟨1,by decide +kernel⟩
 ·exact⟨3,by decide +kernel⟩
 ·exact⟨3,by decide +kernel⟩
 ·exact⟨1,by decide +kernel⟩
 ·exact⟨15,by decide +kernel⟩
 ·exact⟨3,by decide +kernel⟩
 ·exact⟨119,by decide +kernel⟩
 ·exact⟨7,by decide +kernel⟩
 ·exact⟨479,by decide +kernel⟩
theorem kH{f:Int}{v:List Int}(h:bo f v=true):ae f≠0/\bw (ae f) v=true/\∃ K:Nat,cC v.length=(K:Int)/\K<=9/\v.length=2^K/\(K:Int)<=dE f:=by
 have h':=h
 unfold bo at h
 simp only[Bool.and_eq_true,decide_eq_true_eq] at h
 obtain⟨⟨h1,h2⟩,h3⟩:=h
 obtain⟨hm,he⟩:=js h3
 obtain⟨k1,k2⟩:=PN h1
 obtain⟨K,hK⟩:=Int.eq_ofNat_of_zero_le h1
 rw[hK,Int.toNat_natCast] at k2
 exact⟨hm,he,K,hK,by omega,k2,by omega⟩
theorem uQ{f g:Nat->Int}:∀ n,(∀ j,j<n->f j=g j)->b6 f n=b6 g n
 | 0,_=>rfl
 | n+1,h=>by rw[b6,b6,uQ n (fun j hj=>h j (by omega)),h n (Nat.lt_succ_self n)]
theorem zp{p:Int}{f g:Nat->Int}:∀ n,(∀ j,j<n->f j%p=g j%p)->b6 f n%p=b6 g n%p
 | 0,_=>rfl
 | n+1,h=>by
   rw[b6,b6,<-gN,<-gO,zp n (fun j hj=>h j (by omega)),h n (Nat.lt_succ_self n),gO,gN]
theorem Gr(f g:Nat->Int):∀ n,b6 (fun j=>f j+g j) n=b6 f n+b6 g n
 | 0=>rfl
 | n+1=>by rw[b6,b6,b6,Gr f g n];omega
theorem Gs(c:Int)(f:Nat->Int):∀ n,b6 (fun j=>c*f j) n=c*b6 f n
 | 0=>by rw[b6,b6,Int.mul_zero]
 | n+1=>by rw[b6,b6,Gs c f n,Int.mul_add]
def C9(p a:Nat):Nat->Nat->Nat
 | 0,_=>1%p
 | n+1,e=>if e%2=0 then C9 p a n (e/2)*C9 p a n (e/2)%p else C9 p a n (e/2)*C9 p a n (e/2)%p*a%p
theorem FX(p a:Nat):∀ n e,e<2^n->C9 p a n e=a^e%p
 | 0,e,h=>by rw[show e=0 by omega];rfl
 | n+1,e,h=>by
   have ih:=FX p a n (e/2) (by rw[Nat.pow_succ] at h;omega)
   rw[C9,ih,<-Nat.mul_mod,<-Nat.pow_add]
   split
   ·rw[show e/2+e/2=e by omega]
   ·rw[Nat.mod_mul_mod,<-Nat.pow_succ,show (e/2+e/2).succ=e by omega]
theorem FT(p a e:Nat):eO (p:Int) (a:Int) e=((a^e%p:Nat):Int):=by
 unfold eO
 rw[Int.natCast_emod,Int.natCast_pow]
theorem kp{p g n e:Nat}(h:C9 p g n e=p-1)(he:e<2^n)(hp:1<=p):eO (p:Int) (g:Int) e=(p:Int)-1:=by
 rw[FT,<-FX p g n e he,h];omega
theorem EO{f:Int}(h:ae f≠0):eO (ae f) (bQ f) ((ae f-1).toNat/2)=ae f-1:=by
 rcases f_ (cH h).2 with e|e|e|e|e|e|e|e|e<;>subst e
 ·exact kp (p:=17) (g:=3) (n:=30) (by decide +kernel) (by decide +kernel) (by decide)
 ·exact kp (p:=97) (g:=5) (n:=30) (by decide +kernel) (by decide +kernel) (by decide)
 ·exact kp (p:=193) (g:=5) (n:=30) (by decide +kernel) (by decide +kernel) (by decide)
 ·exact kp (p:=257) (g:=3) (n:=30) (by decide +kernel) (by decide +kernel) (by decide)
 ·exact kp (p:=7681) (g:=17) (n:=30) (by decide +kernel) (by decide +kernel) (by decide)
 ·exact kp (p:=12289) (g:=11) (n:=30) (by decide +kernel) (by decide +kernel) (by decide)
 ·exact kp (p:=998244353) (g:=3) (n:=30) (by decide +kernel) (by decide +kernel) (by decide)
 ·exact kp (p:=469762049) (g:=3) (n:=30) (by decide +kernel) (by decide +kernel) (by decide)
 ·exact kp (p:=1004535809) (g:=3) (n:=30) (by decide +kernel) (by decide +kernel) (by decide)
theorem vg{p a b c d:Int}(h1:a%p=c%p)(h2:b%p=d%p):(a+b)%p=(c+d)%p:=by
 rw[<-gN,h1,gN,<-gO,h2,gO]
theorem oS{p a b:Int}(h:a%p=1%p):a*b%p=b%p:=by
 rw[<-dy,h,dy,Int.one_mul]
theorem mZ{p a:Int}(h:a%p=1%p):∀ n:Nat,a^n%p=1%p
 | 0=>by rw[Int.pow_zero]
 | n+1=>by rw[Int.pow_succ,Int.mul_comm,oS h,mZ h n]
theorem kh{p:Int}(hp:bg p){v:List Int}(h:bw p v=true)(t:Nat):El p (v.getD t 0):=by
 unfold bw at h
 have h:=of_decide_eq_true h
 rw[List.getD_eq_getElem?_getD]
 cases e:v[t]? with
 | none=>exact s8 hp
 | some x =>
   have:=h x (List.mem_of_getElem? e)
   exact⟨this.1,by show x<p;omega⟩
theorem FR(p w:Int)(n:Nat):(kb p w n).length=n:=mc _ _
theorem yT(p:Int)(v:List Int)(w:Int)(n:Nat):(eF p v w n).length=n:=mc _ _
theorem Mg(p w:Int)(n:Nat):kb p w n++[w^n%p]=kb p w (n+1):=by simp[kb,List.range_succ]
theorem KU(p:Int)(v:List Int)(w:Int)(n:Nat):eF p v w n++[oG p v w n]=eF p v w (n+1):=by simp[eF,List.range_succ]
theorem NP(p w:Int){n m:Nat}(h:m<n):(kb p w n).getD m 0=w^m%p:=by simp[kb,List.getD_eq_getElem?_getD,h]
theorem KA :
 ∀(d:Int×List Int×Int),Ty.wf ai d.1/\Ty.wf al d.2.1/\Ty.wf ai d.2.2->bo d.1 d.2.1=true/\El (ae d.1) d.2.2->True/\(Ty.wf ai (ae d.1)->(0:Nat)<=d.2.1.length/\((d.1=d.1/\ah d.2.1/\ah d.2.2/\an/\ah (ae d.1)/\ah (d.2.1.length:Int)/\(1:Int)=d.2.2^(0:Nat)%ae d.1/\(0:Int)=(↑(0:Nat):Int))/\[]=kb (ae d.1) d.2.2 (0:Nat))/\∀(x:Nat),x<=d.2.1.length->(decide ((x:Int)<(d.2.1.length:Int))=true->(List.length (kb (ae d.1) d.2.2 x)+List.length [d.2.2^x%ae d.1])*(8:Nat)<=(140737488355328:Nat)/\ae d.1≠(0:Int)/\∃(x':Nat),x'<=d.2.1.length/\d.2.1.length-x'<d.2.1.length-x/\(d.1=d.1/\ah d.2.1/\ah d.2.2/\an/\ah (ae d.1)/\ah (d.2.1.length:Int)/\Int.tmod (i64.wrap (d.2.2^x%ae d.1*d.2.2)) (ae d.1)=d.2.2^x'%ae d.1/\i64.wrap ((x:Int)+(1:Int))=(x':Int))/\kb (ae d.1) d.2.2 x++[d.2.2^x%ae d.1]=kb (ae d.1) d.2.2 x')/\(decide ((x:Int)<(d.2.1.length:Int))=false->(0:Nat)<=d.2.1.length/\((d.1=d.1/\ah d.2.1/\ah d.2.2/\an/\ah (ae d.1)/\ah (d.2.1.length:Int)/\(0:Int)=(↑(0:Nat):Int))/\ah (kb (ae d.1) d.2.2 x)/\[]=eF (ae d.1) d.2.1 d.2.2 (0:Nat))/\∀(x_1:Nat),x_1<=d.2.1.length->(decide ((x_1:Int)<(d.2.1.length:Int))=true->(0:Nat)<=d.2.1.length/\((d.1=d.1/\ah d.2.1/\ah d.2.2/\an/\ah (ae d.1)/\ah (d.2.1.length:Int)/\ah (x_1:Int)/\(0:Int)=b6 (sk d.2.1 d.2.2 x_1) (0:Nat)%ae d.1/\(0:Int)=(↑(0:Nat):Int))/\ah (kb (ae d.1) d.2.2 x)/\ah (eF (ae d.1) d.2.1 d.2.2 x_1))/\∀(x_2:Nat),x_2<=d.2.1.length->(decide ((x_2:Int)<(d.2.1.length:Int))=true->((0:Int)<=(x_2:Int)/\(x_2:Int)<(d.2.1.length:Int))/\(d.2.1.length:Int)≠(0:Int)/\((0:Int)<=Int.tmod (i64.wrap ((x_1:Int)*(x_2:Int))) (d.2.1.length:Int)/\Int.tmod (i64.wrap ((x_1:Int)*(x_2:Int))) (d.2.1.length:Int)<(↑(List.length (kb (ae d.1) d.2.2 x)):Int))/\ae d.1≠(0:Int)/\∃(x':Nat),x'<=d.2.1.length/\d.2.1.length-x'<d.2.1.length-x_2/\(d.1=d.1/\ah d.2.1/\ah d.2.2/\an/\ah (ae d.1)/\ah (d.2.1.length:Int)/\ah (x_1:Int)/\Int.tmod (i64.wrap (b6 (sk d.2.1 d.2.2 x_1) x_2%ae d.1+i64.wrap (d.2.1.getD ((x_2:Int).toNat) (0:Int)*List.getD (kb (ae d.1) d.2.2 x) (Int.toNat (Int.tmod (i64.wrap ((x_1:Int)*(x_2:Int))) (d.2.1.length:Int))) (0:Int)))) (ae d.1)=b6 (sk d.2.1 d.2.2 x_1) x'%ae d.1/\i64.wrap ((x_2:Int)+(1:Int))=(x':Int))/\ah (kb (ae d.1) d.2.2 x)/\ah (eF (ae d.1) d.2.1 d.2.2 x_1))/\(decide ((x_2:Int)<(d.2.1.length:Int))=false->(List.length (eF (ae d.1) d.2.1 d.2.2 x_1)+List.length [b6 (sk d.2.1 d.2.2 x_1) x_2%ae d.1])*(8:Nat)<=(140737488355328:Nat)/\∃(x':Nat),x'<=d.2.1.length/\d.2.1.length-x'<d.2.1.length-x_1/\(d.1=d.1/\ah d.2.1/\ah d.2.2/\an/\ah (ae d.1)/\ah (d.2.1.length:Int)/\i64.wrap ((x_1:Int)+(1:Int))=(x':Int))/\ah (kb (ae d.1) d.2.2 x)/\eF (ae d.1) d.2.1 d.2.2 x_1++[b6 (sk d.2.1 d.2.2 x_1) x_2%ae d.1]=eF (ae d.1) d.2.1 d.2.2 x'))/\(decide ((x_1:Int)<(d.2.1.length:Int))=false->eF (ae d.1) d.2.1 d.2.2 x_1=eF (ae d.1) d.2.1 d.2.2 d.2.1.length))):=by
  intro d hw hp
  obtain⟨f,v,wt⟩:=d
  obtain⟨hv,EX⟩:=hp
  replace hv:bo f v=true:=hv
  replace EX:El (ae f) wt:=EX
  obtain⟨hm,he,K,hK,Ie,hlen,qW⟩:=kH hv
  obtain⟨hp,hf⟩:=cH hm
  have aH:=hp
  unfold bg at aH
  have Ut:=AR Ie
  have hn:v.length<=512:=by omega
  have Ax:0<v.length:=by rw[hlen];exact Nat.pow_pos (by omega)
  simp only[exists_const,forall_const,decide_eq_true_eq,decide_eq_false_iff_not,beq_iff_eq,sxS]
  refine fun _=>⟨Nat.zero_le _,⟨⟨?_,rfl⟩,rfl⟩,fun x hx=>⟨fun aZ=>⟨?_,hm,x+1,by omega,by omega,⟨?_,?_⟩,Mg _ _ _⟩,fun lW=>⟨Nat.zero_le _,⟨rfl,rfl⟩,fun i hi=>⟨fun BE=>⟨Nat.zero_le _,⟨?_,rfl⟩,fun j hj=>⟨fun Rk=>?_,fun XG=>⟨?_,i+1,by omega,by omega,?_,?_⟩⟩⟩,fun XE=>?_⟩⟩⟩⟩
  ·rw[Int.pow_zero,Int.emod_eq_of_lt (by omega) (by omega)]
  ·rw[FR,List.length_singleton];omega
  ·have e:=rW hp (eh (p:=ae f) (by omega) (wt^x)) EX
   rw[e]
   unfold mulM
   rw[dy,<-Int.pow_succ]
  ·rw[wrap_small (by omega)];rfl
  ·show (0:Int)=0%ae f
   rw[Int.zero_emod]
  ·have j0:x=v.length:=by omega
   have Ik:i*j<=512*512:=Nat.mul_le_mul (by omega) (by omega)
   have vo:(i64.wrap ((i:Int)*(j:Int))).tmod (v.length:Int)=((i*j%v.length:Nat):Int):=by
    rw[<-Int.natCast_mul,wrap_small (by omega),Int.tmod_eq_emod_of_nonneg (by omega)]
    rfl
   have UG:i*j%v.length<v.length:=Nat.mod_lt _ Ax
   rw[vo,Int.toNat_natCast,FR,j0,NP _ _ UG]
   refine⟨⟨by omega,Rk⟩,by omega,⟨by omega,by omega⟩,hm,j+1,by omega,by omega,?_,?_⟩
   ·have e1:=kh hp he j
    have e2:=eh (p:=ae f) (by omega) (wt^(i*j%v.length))
    have e3:=l7 hp e1 e2
    have e4:=eh (p:=ae f) (by omega) (b6 (sk v wt i) j)
    unfold El at e4
    rw[wrap_small (n:=v.getD j 0*(wt^(i*j%v.length)%ae f)) (by omega),wrap_small (by omega),Int.tmod_eq_emod_of_nonneg (by omega),b6]
    refine vg (mod_mod _ _) ?_
    unfold sk
    rw[dz]
   ·rw[wrap_small (by omega)];rfl
  ·rw[yT,List.length_singleton];omega
  ·rw[wrap_small (by omega)];rfl
  ·have kZ:j=v.length:=by omega
   rw[kZ]
   exact KU _ _ _ _
  ·have c7:i=v.length:=by omega
   rw[c7]
theorem P4{f:Int}{v:List Int}(h:bo f v=true):El (ae f) (ch f (cC v.length)):=by
 obtain⟨hm,he,K,hK,Ie,hlen,qW⟩:=kH h
 obtain⟨hp,hf⟩:=cH hm
 unfold ch
 rw[hK,if_pos ⟨hm,by omega,qW⟩]
 unfold n_
 split
 ·exact absurd ‹_› (K5 hm).2
 ·exact H7 hp _ _
theorem HG :
 ∀(d:Int×List Int),Ty.wf ai d.1/\Ty.wf al d.2->True->True/\((!bo d.1 d.2)=true->[]=qV d.1 d.2)/\((!bo d.1 d.2)=false->True/\(Ty.wf ai (cC (d.2.length:Int))->True/\(Ty.wf ai (ch d.1 (cC (d.2.length:Int)))->(bo d.1 d.2=true/\El (ae d.1) (ch d.1 (cC (d.2.length:Int))))/\(Ty.wf al (eF (ae d.1) d.2 (ch d.1 (cC (d.2.length:Int))) d.2.length)->eF (ae d.1) d.2 (ch d.1 (cC (d.2.length:Int))) d.2.length=qV d.1 d.2)))):=by
  intro d hw hp
  obtain⟨f,v⟩:=d
  simp only[exists_const,forall_const,decide_eq_true_eq,decide_eq_false_iff_not,beq_iff_eq,sxS]
  refine⟨fun h=>?_,fun h _ _=>⟨⟨h,P4 h⟩,fun _=>?_⟩⟩
  ·unfold qV;rw[if_neg (by rw[h];simp)]
  ·unfold qV;rw[if_pos h]
theorem Df:∀ n,b6 (fun _=>0) n=0
 | 0=>rfl
 | n+1=>by rw[b6,Df n];rfl
theorem Dv{p a b c d:Int}(h1:a%p=c%p)(h2:b%p=d%p):a*b%p=c*d%p:=by
 rw[<-dy,h1,dy,<-dz,h2,dz]
structure Vf (p w:Int) (K:Nat):Prop where
 pr:IW p
 Yf:(2:Int)%p≠0
 full:w^2^K%p=1%p
 half:0<K->w^2^(K-1)%p=(-1)%p
theorem N5{f:Int}(h:ae f≠0):eO (ae f) 2 (ae f-1).toNat=1:=by
 have mY:∀ {p e:Nat},C9 p 2 30 e=1->e<2^30->eO (p:Int) 2 e=1:=fun {p e} h he=>by
  have:=FT p 2 e
  rw[<-FX p 2 30 e he,h] at this
  exact this
 rcases f_ (cH h).2 with e|e|e|e|e|e|e|e|e<;>subst e
 ·exact mY (p:=17) (by decide +kernel) (by decide +kernel)
 ·exact mY (p:=97) (by decide +kernel) (by decide +kernel)
 ·exact mY (p:=193) (by decide +kernel) (by decide +kernel)
 ·exact mY (p:=257) (by decide +kernel) (by decide +kernel)
 ·exact mY (p:=7681) (by decide +kernel) (by decide +kernel)
 ·exact mY (p:=12289) (by decide +kernel) (by decide +kernel)
 ·exact mY (p:=998244353) (by decide +kernel) (by decide +kernel)
 ·exact mY (p:=469762049) (by decide +kernel) (by decide +kernel)
 ·exact mY (p:=1004535809) (by decide +kernel) (by decide +kernel)
theorem Gi{f:Int}{K:Nat}(hm:ae f≠0)(qW:(K:Int)<=dE f):∃ a:Nat,(ae f-1).toNat=2^K*a/\∃ b:Nat,ch f (K:Int)=bQ f^b%ae f/\(0<K->b=a)/\(K=0->b=0):=by
 obtain⟨hp,hf⟩:=cH hm
 have aH:=hp
 unfold bg at aH
 obtain⟨o,ho⟩:=IM hm
 obtain⟨Rd,V8⟩:=K5 hm
 obtain⟨a,ha⟩:∃ a:Nat,(ae f-1).toNat=2^K*a:=⟨2^((dE f).toNat-K)*o,by rw[ho,<-Nat.mul_assoc,<-Nat.pow_add];congr 2;omega⟩
 have hz:ae f-1=((2^K*a:Nat):Int):=by omega
 have X0:0<a:=by
  rcases Nat.eq_zero_or_pos a with e|e
  ·rw[e,Nat.mul_zero] at hz;omega
  ·exact e
 have VS:(ae f-1)/2^K=(a:Int):=by
  rw[hz,Int.natCast_mul,Int.natCast_pow]
  exact Int.mul_ediv_cancel_left _ (Int.ne_of_gt (Int.pow_pos (by omega)))
 refine⟨a,ha,?_⟩
 unfold ch
 rw[if_pos ⟨hm,by omega,qW⟩,Int.toNat_natCast,VS]
 unfold n_ eO
 rw[if_neg V8]
 refine⟨_,rfl,fun hk=>?_,fun hk=>?_⟩
 ·have Vr:2<=2^K:=by
   have:=Nat.pow_le_pow_right (n:=2) (by omega) (show 1<=K by omega)
   omega
  have h1:a*2<=a*2^K:=Nat.mul_le_mul_left a Vr
  rw[Nat.mul_comm] at h1
  rw[Int.emod_eq_of_lt (by omega) (by rw[hz,Nat.mul_comm (2^K)];omega),Int.toNat_natCast]
 ·subst hk
  rw[Nat.pow_zero,Nat.one_mul] at hz
  rw[hz,Int.emod_self];rfl
theorem EN{f:Int}(hm:ae f≠0):bQ f^(ae f-1).toNat%ae f=1%ae f:=by
 have hp:=(cH hm).1
 unfold bg at hp
 obtain⟨o,ho⟩:=IM hm
 have h4:=(n9 (cH hm).2).2.2.1
 have he:(ae f-1).toNat=(ae f-1).toNat/2+(ae f-1).toNat/2:=by
  obtain⟨t,ht⟩:∃ t,(dE f).toNat=t+1:=⟨(dE f).toNat-1,by omega⟩
  rw[ho,ht,Nat.pow_succ,Nat.mul_comm _ 2,Nat.mul_assoc]
  omega
 have TF:bQ f^((ae f-1).toNat/2)%ae f=(-1)%ae f:=by
  have:=EO hm
  unfold eO at this
  rw[this,show (-1:Int)%ae f=(ae f-1)%ae f from xw (k := -1) (by omega),Int.emod_eq_of_lt (by omega) (by omega)]
 rw[he,Int.pow_add,<-dy,TF,dy,<-dz,TF,dz]
 rfl
theorem Mu{f:Int}{K:Nat}(hm:ae f≠0)(qW:(K:Int)<=dE f):ch f (K:Int)^(ae f-1).toNat%ae f=1%ae f:=by
 obtain⟨a,ha,b,hb,_⟩:=Gi hm qW
 rw[hb,pow_mod,<-Int.pow_mul,Nat.mul_comm,Int.pow_mul]
 exact mZ (EN hm) _
theorem Tc{f:Int}{K:Nat}(hm:ae f≠0)(qW:(K:Int)<=dE f):Vf (ae f) (ch f (K:Int)) K:=by
 have hp:=(cH hm).1
 unfold bg at hp
 obtain⟨a,ha,b,hb,dW,jW⟩:=Gi hm qW
 refine⟨re hm,by rw[Int.emod_eq_of_lt (by omega) (by omega)];decide,?_,fun hk=>?_⟩
 ·rw[hb,pow_mod,<-Int.pow_mul]
  rcases Nat.eq_zero_or_pos K with h0|h0
  ·rw[jW h0,Nat.zero_mul,Int.pow_zero]
  ·rw[dW h0,Nat.mul_comm,<-ha]
   exact EN hm
 ·rw[hb,dW hk,pow_mod,<-Int.pow_mul]
  have e:a*2^(K-1)=(ae f-1).toNat/2:=by
   obtain⟨k,rfl⟩:∃ k,K=k+1:=⟨K-1,by omega⟩
   rw[ha,Nat.pow_succ,Nat.add_sub_cancel,Nat.mul_comm _ 2,Nat.mul_assoc,Nat.mul_div_cancel_left _ (by omega),Nat.mul_comm]
  have:=EO hm
  unfold eO at this
  rw[e,this,show (-1:Int)%ae f=(ae f-1)%ae f from xw (k := -1) (by omega),Int.emod_eq_of_lt (by omega) (by omega)]
theorem Gh{f:Int}{K:Nat}(hm:ae f≠0)(qW:(K:Int)<=dE f):ch f (K:Int)*hD (ae f) (ch f (K:Int))%ae f=1%ae f:=by
 have hp:=(cH hm).1
 unfold bg at hp
 unfold hD eO
 rw[dz,Int.mul_comm,<-Int.pow_succ,show (ae f-2).toNat.succ=(ae f-1).toNat by omega]
 exact Mu hm qW
theorem Qd{f:Int}(hm:ae f≠0)(K:Nat):((2^K:Nat):Int)*hD (ae f) ((2^K:Nat):Int)%ae f=1%ae f:=by
 have hp:=(cH hm).1
 unfold bg at hp
 unfold hD eO
 rw[dz,Int.mul_comm,<-Int.pow_succ,show (ae f-2).toNat.succ=(ae f-1).toNat by omega,Int.natCast_pow,<-Int.pow_mul,Nat.mul_comm,Int.pow_mul]
 have h2:=N5 hm
 unfold eO at h2
 refine mZ ?_ K
 show (2:Int)^(ae f-1).toNat%ae f=1%ae f
 rw[h2,Int.emod_eq_of_lt (by omega) (by omega)]
theorem PV{p w:Int}{n:Nat}(h:w^n%p=1%p)(m:Nat):w^(m%n)%p=w^m%p:=by
 have e:m=n*(m/n)+m%n:=(Nat.div_add_mod _ _).symm
 conv=>rhs;rw[e]
 rw[Int.pow_add,Int.pow_mul,oS (mZ h _)]
theorem PS{n i j:Nat}(hn:0<n)(hi:i<n):(n-i)%n*j%n=(n-i*j%n)%n:=by
 have h1:((n-i)%n*j+i*j)%n=0:=by
  rw[Nat.add_mod,Nat.mod_mul_mod,<-Nat.add_mod,<-Nat.add_mul,Nat.sub_add_cancel (Nat.le_of_lt hi),Nat.mul_mod_right]
 have h2:((n-i)%n*j%n+i*j%n)%n=0:=by rw[<-Nat.add_mod];exact h1
 have ha:(n-i)%n*j%n<n:=Nat.mod_lt _ hn
 have hb:i*j%n<n:=Nat.mod_lt _ hn
 generalize (n-i)%n*j%n=A at *
 generalize i*j%n=B at *
 rcases Nat.eq_zero_or_pos B with h0|h0
 ·subst h0
  rw[Nat.add_zero,Nat.mod_eq_of_lt ha] at h2
  rw[Nat.sub_zero,Nat.mod_self,h2]
 ·rw[Nat.mod_eq_of_lt (by omega:n-B<n)]
  have h3:A+B=n:=by
   have h4:n ∣ A+B:=Nat.dvd_of_mod_eq_zero h2
   obtain⟨q,hq⟩:=h4
   have:q=1:=by
    rcases q with _|_|q
    ·rw[Nat.mul_zero] at hq;omega
    ·rfl
    ·rw[show n*(q+1+1)=n*q+n+n by rw[Nat.mul_add,Nat.mul_add,Nat.mul_one]] at hq;omega
   rw[this,Nat.mul_one] at hq;exact hq
  omega
theorem Pr{p w wi:Int}{v:List Int}(hn:0<v.length)(hf:w^v.length%p=1%p)(hi:w*wi%p=1%p){k:Nat}(hk:k<v.length):oG p v wi k=oG p v w ((v.length-k)%v.length):=by
 unfold oG
 refine zp _ fun j _=>?_
 unfold sk
 rw[PS hn hk]
 refine Dv rfl ?_
 have hm:k*j%v.length<v.length:=Nat.mod_lt _ hn
 generalize k*j%v.length=m at *
 rw[PV hf]
 have h1:w^(v.length-m)*(w^m*wi^m)%p=wi^m%p:=by
  rw[<-Int.mul_assoc,<-Int.pow_add,Nat.sub_add_cancel (Nat.le_of_lt hm),oS hf]
 rw[<-h1,<-Int.mul_pow,Int.mul_comm,oS (mZ hi m)]
theorem Ph{f:Int}{v:List Int}(h:bo f v=true){k:Nat}(hk:k<v.length):oG (ae f) v (hD (ae f) (ch f (cC v.length))) k=oG (ae f) v (ch f (cC v.length)) ((v.length-k)%v.length):=by
 obtain⟨hm,he,K,hK,Ie,hlen,qW⟩:=kH h
 have WE:=Tc hm qW
 have hi:=Gh hm qW
 rw[hK]
 exact Pr (by omega) (by rw[hlen];exact WE.full) hi hk
theorem Br(p wi r:Int)(v:List Int)(n:Nat):(xY p wi r v n).length=n:=mc _ _
theorem M3(p:Int)(v:List Int)(w:Int){n t:Nat}(h:t<n):(eF p v w n).getD t 0=oG p v w t:=by simp[eF,List.getD_eq_getElem?_getD,h]
theorem G4{f:Int}{v:List Int}(h:bo f v=true):0<v.length/\v.length<=512/\0<=cC v.length/\cC v.length<=9:=by
 obtain⟨_,_,K,hK,Ie,hlen,_⟩:=kH h
 have Ut:=AR Ie
 exact⟨by rw[hlen];exact Nat.pow_pos (by omega),by omega,by omega,by omega⟩
theorem IP{f:Int}{a b:List Int}(h:fp f a b=true):a.length=b.length/\bo f a=true/\bo f b=true:=by
 unfold fp at h
 simp only[Bool.and_eq_true,decide_eq_true_eq] at h
 exact⟨h.1.1,h.1.2,h.2⟩
theorem Qt{f:Int}{v:List Int}(h:bo f v=true):xY (ae f) (hD (ae f) (ch f (cC v.length))) (hD (ae f) v.length) v v.length=ln f v:=by
 unfold ln
 rw[if_pos h]
 refine List.ext_getElem (by rw[Br];unfold Oi;rw[mc]) fun t h1 h2=>?_
 rw[Br] at h1
 simp only[xY,Oi,List.getElem_map,List.getElem_range]
 unfold Qr
 rw[Ph h h1]
theorem xy{f:Int}(hm:ae f≠0){a:Int}(ha:a%ae f≠0):bk f a (-1)=hD (ae f) a:=by
 rw[tF hm,FU (cH hm).1 ha]
theorem Mc{f:Int}(hm:ae f≠0){a r:Int}(h:a*r%ae f=1%ae f):a%ae f≠0:=by
 intro h0
 have hp:=(cH hm).1
 unfold bg at hp
 rw[<-dy,h0,Int.zero_mul,Int.zero_emod,Int.emod_eq_of_lt (by omega) (by omega)] at h
 exact absurd h (by decide)
theorem GI :
 ∀(d:Int×List Int),Ty.wf ai d.1/\Ty.wf al d.2->True->True/\((!bo d.1 d.2)=true->[]=ln d.1 d.2)/\((!bo d.1 d.2)=false->True/\(Ty.wf ai (cC (d.2.length:Int))->True/\(Ty.wf ai (ch d.1 (cC (d.2.length:Int)))->True/\(Ty.wf ai (bk d.1 (ch d.1 (cC (d.2.length:Int))) (-1:Int))->(bo d.1 d.2=true/\El (ae d.1) (bk d.1 (ch d.1 (cC (d.2.length:Int))) (-1:Int)))/\(Ty.wf al (eF (ae d.1) d.2 (bk d.1 (ch d.1 (cC (d.2.length:Int))) (-1:Int)) d.2.length)->True/\(Ty.wf ai (bk d.1 (d.2.length:Int) (-1:Int))->(0:Nat)<=d.2.length/\((d.1=d.1/\d.2=d.2/\an/\ah (bk d.1 (d.2.length:Int) (-1:Int))/\(0:Int)=(↑(0:Nat):Int))/\[]=xY (ae d.1) (bk d.1 (ch d.1 (cC (d.2.length:Int))) (-1:Int)) (bk d.1 (d.2.length:Int) (-1:Int)) d.2 (0:Nat)/\ah (eF (ae d.1) d.2 (bk d.1 (ch d.1 (cC (d.2.length:Int))) (-1:Int)) d.2.length))/\∀(x:Nat),x<=d.2.length->(decide ((x:Int)<(↑(List.length (eF (ae d.1) d.2 (bk d.1 (ch d.1 (cC (d.2.length:Int))) (-1:Int)) d.2.length)):Int))=true->((0:Int)<=(x:Int)/\(x:Int)<(↑(List.length (eF (ae d.1) d.2 (bk d.1 (ch d.1 (cC (d.2.length:Int))) (-1:Int)) d.2.length)):Int))/\True/\(Ty.wf ai (cD d.1 (List.getD (eF (ae d.1) d.2 (bk d.1 (ch d.1 (cC (d.2.length:Int))) (-1:Int)) d.2.length) ((x:Int).toNat) (0:Int)) (bk d.1 (d.2.length:Int) (-1:Int)))->(List.length (xY (ae d.1) (bk d.1 (ch d.1 (cC (d.2.length:Int))) (-1:Int)) (bk d.1 (d.2.length:Int) (-1:Int)) d.2 x)+List.length [cD d.1 (List.getD (eF (ae d.1) d.2 (bk d.1 (ch d.1 (cC (d.2.length:Int))) (-1:Int)) d.2.length) ((x:Int).toNat) (0:Int)) (bk d.1 (d.2.length:Int) (-1:Int))])*(8:Nat)<=(140737488355328:Nat)/\∃(x':Nat),x'<=d.2.length/\d.2.length-x'<d.2.length-x/\(d.1=d.1/\d.2=d.2/\an/\ah (bk d.1 (d.2.length:Int) (-1:Int))/\i64.wrap ((x:Int)+(1:Int))=(x':Int))/\xY (ae d.1) (bk d.1 (ch d.1 (cC (d.2.length:Int))) (-1:Int)) (bk d.1 (d.2.length:Int) (-1:Int)) d.2 x++[cD d.1 (List.getD (eF (ae d.1) d.2 (bk d.1 (ch d.1 (cC (d.2.length:Int))) (-1:Int)) d.2.length) ((x:Int).toNat) (0:Int)) (bk d.1 (d.2.length:Int) (-1:Int))]=xY (ae d.1) (bk d.1 (ch d.1 (cC (d.2.length:Int))) (-1:Int)) (bk d.1 (d.2.length:Int) (-1:Int)) d.2 x'/\ah (eF (ae d.1) d.2 (bk d.1 (ch d.1 (cC (d.2.length:Int))) (-1:Int)) d.2.length)))/\(decide ((x:Int)<(↑(List.length (eF (ae d.1) d.2 (bk d.1 (ch d.1 (cC (d.2.length:Int))) (-1:Int)) d.2.length)):Int))=false->xY (ae d.1) (bk d.1 (ch d.1 (cC (d.2.length:Int))) (-1:Int)) (bk d.1 (d.2.length:Int) (-1:Int)) d.2 x=ln d.1 d.2))))))):=by
  intro d hw hp
  obtain⟨f,v⟩:=d
  simp only[exists_const,forall_const,decide_eq_true_eq,decide_eq_false_iff_not,beq_iff_eq,sxS]
  refine⟨fun h=>by unfold ln;rw[if_neg (by rw[h];simp)],fun h _ _ _=>?_⟩
  obtain⟨hm,he,K,hK,Ie,hlen,qW⟩:=kH h
  obtain⟨l1,l2,l3,l4⟩:=G4 h
  have CU:bk f (ch f (cC v.length)) (-1)=hD (ae f) (ch f (cC v.length)):=by
   rw[hK]
   exact xy hm (Mc hm (Gh hm qW))
  have WC:bk f (v.length:Int) (-1)=hD (ae f) v.length:=by
   refine xy hm (Mc hm (r:=hD (ae f) v.length) ?_)
   rw[hlen]
   exact Qd hm K
  rw[CU,WC]
  refine⟨⟨h,Pw (cH hm).1 _⟩,fun _ _=>⟨Nat.zero_le _,⟨rfl,rfl⟩,fun x hx=>⟨fun aZ=>?_,fun lW=>?_⟩⟩⟩
  ·rw[yT] at aZ ⊢
   rw[M3 _ _ _ (by omega),jn hm]
   refine⟨⟨by omega,aZ⟩,fun _=>⟨by rw[Br,List.length_singleton];omega,x+1,by omega,by omega,?_,?_⟩⟩
   ·rw[wrap_small (by omega)];rfl
   ·simp[xY,List.range_succ]
  ·rw[yT] at lW
   rw[show x=v.length by omega]
   exact Qt h
theorem KB :
 ∀(d:Int×List Int×List Int),Ty.wf ai d.1/\Ty.wf al d.2.1/\Ty.wf al d.2.2->True->(decide ((d.2.1.length:Int)=(d.2.2.length:Int))=true->True/\(bo d.1 d.2.1=true->True/\bo d.1 d.2.2=fp d.1 d.2.1 d.2.2)/\(bo d.1 d.2.1=false->false=fp d.1 d.2.1 d.2.2))/\(decide ((d.2.1.length:Int)=(d.2.2.length:Int))=false->false=fp d.1 d.2.1 d.2.2):=by
  intro d hw hp
  obtain⟨f,a,b⟩:=d
  simp only[exists_const,forall_const,decide_eq_true_eq,decide_eq_false_iff_not,beq_iff_eq,sxS]
  unfold fp
  refine⟨fun h=>⟨fun h1=>?_,fun h1=>?_⟩,fun h=>?_⟩
  ·rw[decide_eq_true (show a.length=b.length by omega),h1];rfl
  ·rw[h1,Bool.and_false];rfl
  ·rw[decide_eq_false (show ¬a.length=b.length by omega)];rfl
theorem Kp :
 ∀(d:Int×List Int×List Int),Ty.wf ai d.1/\Ty.wf al d.2.1/\Ty.wf al d.2.2->True->True/\((!fp d.1 d.2.1 d.2.2)=true->[]=qE d.1 d.2.1 d.2.2)/\((!fp d.1 d.2.1 d.2.2)=false->True/\(Ty.wf ai (ae d.1)->(0:Nat)<=d.2.1.length/\((d.1=d.1/\ah d.2.1/\ah d.2.2/\an/\ah (ae d.1)/\ah (d.2.1.length:Int)/\(0:Int)=(↑(0:Nat):Int))/\[]=qF (ae d.1) d.2.1 d.2.2 (0:Nat))/\∀(x:Nat),x<=d.2.1.length->(decide ((x:Int)<(d.2.1.length:Int))=true->(0:Nat)<=d.2.1.length/\((d.1=d.1/\ah d.2.1/\ah d.2.2/\an/\ah (ae d.1)/\ah (d.2.1.length:Int)/\ah (x:Int)/\(0:Int)=b6 (fun (j:Nat)=>d.2.1.getD j (0:Int)*d.2.2.getD ((x+d.2.1.length-j)%d.2.1.length) (0:Int)) (0:Nat)%ae d.1/\(0:Int)=(↑(0:Nat):Int))/\ah (qF (ae d.1) d.2.1 d.2.2 x))/\∀(x_1:Nat),x_1<=d.2.1.length->(decide ((x_1:Int)<(d.2.1.length:Int))=true->((0:Int)<=(x_1:Int)/\(x_1:Int)<(d.2.1.length:Int))/\(d.2.1.length:Int)≠(0:Int)/\((0:Int)<=Int.tmod (i64.wrap (i64.wrap ((x:Int)-(x_1:Int))+(d.2.1.length:Int))) (d.2.1.length:Int)/\Int.tmod (i64.wrap (i64.wrap ((x:Int)-(x_1:Int))+(d.2.1.length:Int))) (d.2.1.length:Int)<(d.2.2.length:Int))/\ae d.1≠(0:Int)/\∃(x':Nat),x'<=d.2.1.length/\d.2.1.length-x'<d.2.1.length-x_1/\(d.1=d.1/\ah d.2.1/\ah d.2.2/\an/\ah (ae d.1)/\ah (d.2.1.length:Int)/\ah (x:Int)/\Int.tmod (i64.wrap (b6 (fun (j:Nat)=>d.2.1.getD j (0:Int)*d.2.2.getD ((x+d.2.1.length-j)%d.2.1.length) (0:Int)) x_1%ae d.1+i64.wrap (d.2.1.getD ((x_1:Int).toNat) (0:Int)*d.2.2.getD (Int.toNat (Int.tmod (i64.wrap (i64.wrap ((x:Int)-(x_1:Int))+(d.2.1.length:Int))) (d.2.1.length:Int))) (0:Int)))) (ae d.1)=b6 (fun (j:Nat)=>d.2.1.getD j (0:Int)*d.2.2.getD ((x+d.2.1.length-j)%d.2.1.length) (0:Int)) x'%ae d.1/\i64.wrap ((x_1:Int)+(1:Int))=(x':Int))/\ah (qF (ae d.1) d.2.1 d.2.2 x))/\(decide ((x_1:Int)<(d.2.1.length:Int))=false->(List.length (qF (ae d.1) d.2.1 d.2.2 x)+List.length [b6 (fun (j:Nat)=>d.2.1.getD j (0:Int)*d.2.2.getD ((x+d.2.1.length-j)%d.2.1.length) (0:Int)) x_1%ae d.1])*(8:Nat)<=(140737488355328:Nat)/\∃(x':Nat),x'<=d.2.1.length/\d.2.1.length-x'<d.2.1.length-x/\(d.1=d.1/\ah d.2.1/\ah d.2.2/\an/\ah (ae d.1)/\ah (d.2.1.length:Int)/\i64.wrap ((x:Int)+(1:Int))=(x':Int))/\qF (ae d.1) d.2.1 d.2.2 x++[b6 (fun (j:Nat)=>d.2.1.getD j (0:Int)*d.2.2.getD ((x+d.2.1.length-j)%d.2.1.length) (0:Int)) x_1%ae d.1]=qF (ae d.1) d.2.1 d.2.2 x'))/\(decide ((x:Int)<(d.2.1.length:Int))=false->qF (ae d.1) d.2.1 d.2.2 x=qE d.1 d.2.1 d.2.2))):=by
  intro d hw hp
  obtain⟨f,a,b⟩:=d
  simp only[exists_const,forall_const,decide_eq_true_eq,decide_eq_false_iff_not,beq_iff_eq,sxS]
  refine⟨fun h=>by unfold qE;rw[if_neg (by rw[h];simp)],fun h _=>?_⟩
  obtain⟨rL,ha,hb⟩:=IP h
  obtain⟨hm,Ii,_⟩:=kH ha
  obtain⟨_,rO,_⟩:=kH hb
  obtain⟨l1,l2,l3,l4⟩:=G4 ha
  have yi:=(cH hm).1
  have aH:=yi
  unfold bg at aH
  have gC:∀ n,(qF (ae f) a b n).length=n:=fun n=>mc _ _
  refine⟨Nat.zero_le _,⟨rfl,rfl⟩,fun i hi=>⟨fun rP=>⟨Nat.zero_le _,⟨?_,rfl⟩,fun j hj=>⟨fun E3=>?_,fun Wg=>⟨?_,i+1,by omega,by omega,?_,?_⟩⟩⟩,fun We=>?_⟩⟩
  ·show (0:Int)=0%ae f
   rw[Int.zero_emod]
  ·have Nj:(i64.wrap (i64.wrap ((i:Int)-(j:Int))+(a.length:Int))).tmod (a.length:Int)=(((i+a.length-j)%a.length:Nat):Int):=by
    rw[wrap_small (n:=(i:Int)-j) (by omega),wrap_small (by omega),Int.tmod_eq_emod_of_nonneg (by omega)]
    have:(i:Int)-j+a.length=((i+a.length-j:Nat):Int):=by omega
    rw[this];rfl
   have aZ:(i+a.length-j)%a.length<a.length:=Nat.mod_lt _ l1
   rw[Nj,Int.toNat_natCast]
   refine⟨⟨by omega,E3⟩,by omega,⟨by omega,by omega⟩,hm,j+1,by omega,by omega,?_,?_⟩
   ·have e1:=l7 yi (kh yi Ii j) (kh yi rO ((i+a.length-j)%a.length))
    have e4:=eh (p:=ae f) (by omega) (b6 (fun j=>a.getD j 0*b.getD ((i+a.length-j)%a.length) 0) j)
    unfold El at e4
    rw[wrap_small (n:=a.getD j 0*b.getD ((i+a.length-j)%a.length) 0) (by omega),wrap_small (by omega),Int.tmod_eq_emod_of_nonneg (by omega),b6,gN]
   ·rw[wrap_small (by omega)];rfl
  ·rw[gC,List.length_singleton];omega
  ·rw[wrap_small (by omega)];rfl
  ·rw[show j=a.length by omega]
   simp[qF,List.range_succ,I9]
  ·rw[show i=a.length by omega]
   unfold qE qF
   rw[if_pos h]
def O_(p:Int)(a b:List Int)(i:Nat):Nat->Int
 | 0=>0
 | j+1=>(O_ p a b i j+(if i<j then p-a.getD j 0*b.getD ((i+a.length-j)%a.length) 0%p else a.getD j 0*b.getD ((i+a.length-j)%a.length) 0%p))%p
theorem B5{p:Int}{a b:List Int}{i:Nat}(hi:i<a.length):∀ j,j<=a.length->O_ p a b i j=nO p a b i j
 | 0,_=>rfl
 | j+1,hj=>by
   rw[O_,nO,B5 hi j (by omega)]
   by_cases h:i<j
   ·rw[if_pos h,if_neg (by omega),Nat.mod_eq_of_lt (by omega)]
    unfold lP mulM
    generalize a.getD j 0*b.getD (i+a.length-j) 0%p=X
    rw[show nO p a b i j+(p-X)=nO p a b i j-X+p*1 by omega,Int.add_mul_emod_self_left]
   ·rw[if_neg h,if_pos (by omega),show i+a.length-j=(i-j)+a.length by omega,Nat.add_mod_right,Nat.mod_eq_of_lt (by omega)]
    rfl
theorem Th{p:Int}(hp:bg p)(a b:List Int)(t:Nat):∀ x,El p (nO p a b t x)
 | 0=>s8 hp
 | x+1=>by
   rw[nO]
   split
   ·exact Bx hp _ _
   ·exact H9 hp _ _
theorem B3(p:Int)(a:List Int):∀ k,(c8 p a k).length=k
 | 0=>rfl
 | k+1=>by rw[c8,List.length_append,B3 p a k];rfl
theorem Qc(p:Int)(a b:List Int)(n:Nat):(vA p a b n).length=n:=mc _ _
theorem HK :
 ∀(d:Int×List Int×List Int),Ty.wf ai d.1/\Ty.wf al d.2.1/\Ty.wf al d.2.2->True->True/\((!fp d.1 d.2.1 d.2.2)=true->[]=na d.1 d.2.1 d.2.2)/\((!fp d.1 d.2.1 d.2.2)=false->True/\(Ty.wf ai (ae d.1)->(0:Nat)<=d.2.1.length/\((d.1=d.1/\ah d.2.1/\ah d.2.2/\an/\ah (ae d.1)/\ah (d.2.1.length:Int)/\(0:Int)=(↑(0:Nat):Int))/\[]=vA (ae d.1) d.2.1 d.2.2 (0:Nat))/\∀(x:Nat),x<=d.2.1.length->(decide ((x:Int)<(d.2.1.length:Int))=true->(0:Nat)<=d.2.1.length/\((d.1=d.1/\ah d.2.1/\ah d.2.2/\an/\ah (ae d.1)/\ah (d.2.1.length:Int)/\ah (x:Int)/\(0:Int)=nO (ae d.1) d.2.1 d.2.2 x (0:Nat)/\(0:Int)=(↑(0:Nat):Int))/\ah (vA (ae d.1) d.2.1 d.2.2 x))/\∀(x_1:Nat),x_1<=d.2.1.length->(decide ((x_1:Int)<(d.2.1.length:Int))=true->((0:Int)<=(x_1:Int)/\(x_1:Int)<(d.2.1.length:Int))/\(d.2.1.length:Int)≠(0:Int)/\((0:Int)<=Int.tmod (i64.wrap (i64.wrap ((x:Int)-(x_1:Int))+(d.2.1.length:Int))) (d.2.1.length:Int)/\Int.tmod (i64.wrap (i64.wrap ((x:Int)-(x_1:Int))+(d.2.1.length:Int))) (d.2.1.length:Int)<(d.2.2.length:Int))/\ae d.1≠(0:Int)/\(decide ((x:Int)<(x_1:Int))=true->ae d.1≠(0:Int)/\∃(x':Nat),x'<=d.2.1.length/\d.2.1.length-x'<d.2.1.length-x_1/\(d.1=d.1/\ah d.2.1/\ah d.2.2/\an/\ah (ae d.1)/\ah (d.2.1.length:Int)/\ah (x:Int)/\Int.tmod (i64.wrap (nO (ae d.1) d.2.1 d.2.2 x x_1+i64.wrap (ae d.1-Int.tmod (i64.wrap (d.2.1.getD ((x_1:Int).toNat) (0:Int)*d.2.2.getD (Int.toNat (Int.tmod (i64.wrap (i64.wrap ((x:Int)-(x_1:Int))+(d.2.1.length:Int))) (d.2.1.length:Int))) (0:Int))) (ae d.1)))) (ae d.1)=nO (ae d.1) d.2.1 d.2.2 x x'/\i64.wrap ((x_1:Int)+(1:Int))=(x':Int))/\ah (vA (ae d.1) d.2.1 d.2.2 x))/\(decide ((x:Int)<(x_1:Int))=false->ae d.1≠(0:Int)/\∃(x':Nat),x'<=d.2.1.length/\d.2.1.length-x'<d.2.1.length-x_1/\(d.1=d.1/\ah d.2.1/\ah d.2.2/\an/\ah (ae d.1)/\ah (d.2.1.length:Int)/\ah (x:Int)/\Int.tmod (i64.wrap (nO (ae d.1) d.2.1 d.2.2 x x_1+Int.tmod (i64.wrap (d.2.1.getD ((x_1:Int).toNat) (0:Int)*d.2.2.getD (Int.toNat (Int.tmod (i64.wrap (i64.wrap ((x:Int)-(x_1:Int))+(d.2.1.length:Int))) (d.2.1.length:Int))) (0:Int))) (ae d.1))) (ae d.1)=nO (ae d.1) d.2.1 d.2.2 x x'/\i64.wrap ((x_1:Int)+(1:Int))=(x':Int))/\ah (vA (ae d.1) d.2.1 d.2.2 x)))/\(decide ((x_1:Int)<(d.2.1.length:Int))=false->(List.length (vA (ae d.1) d.2.1 d.2.2 x)+List.length [nO (ae d.1) d.2.1 d.2.2 x x_1])*(8:Nat)<=(140737488355328:Nat)/\∃(x':Nat),x'<=d.2.1.length/\d.2.1.length-x'<d.2.1.length-x/\(d.1=d.1/\ah d.2.1/\ah d.2.2/\an/\ah (ae d.1)/\ah (d.2.1.length:Int)/\i64.wrap ((x:Int)+(1:Int))=(x':Int))/\vA (ae d.1) d.2.1 d.2.2 x++[nO (ae d.1) d.2.1 d.2.2 x x_1]=vA (ae d.1) d.2.1 d.2.2 x'))/\(decide ((x:Int)<(d.2.1.length:Int))=false->vA (ae d.1) d.2.1 d.2.2 x=na d.1 d.2.1 d.2.2))):=by
  intro d hw hp
  obtain⟨f,a,b⟩:=d
  simp only[exists_const,forall_const,decide_eq_true_eq,decide_eq_false_iff_not,beq_iff_eq,sxS]
  refine⟨fun h=>by unfold na;rw[if_neg (by rw[h];simp)],fun h _=>?_⟩
  obtain⟨rL,ha,hb⟩:=IP h
  obtain⟨hm,Ii,_⟩:=kH ha
  obtain⟨_,rO,_⟩:=kH hb
  obtain⟨l1,l2,l3,l4⟩:=G4 ha
  have yi:=(cH hm).1
  have aH:=yi
  unfold bg at aH
  refine⟨Nat.zero_le _,⟨rfl,rfl⟩,fun i hi=>⟨fun rP=>⟨Nat.zero_le _,⟨rfl,rfl⟩,fun j hj=>⟨fun E3=>?_,fun Wg=>⟨?_,i+1,by omega,by omega,?_,?_⟩⟩⟩,fun We=>?_⟩⟩
  ·have Nj:(i64.wrap (i64.wrap ((i:Int)-(j:Int))+(a.length:Int))).tmod (a.length:Int)=(((i+a.length-j)%a.length:Nat):Int):=by
    rw[wrap_small (n:=(i:Int)-j) (by omega),wrap_small (by omega),Int.tmod_eq_emod_of_nonneg (by omega)]
    have:(i:Int)-j+a.length=((i+a.length-j:Nat):Int):=by omega
    rw[this];rfl
   have aZ:(i+a.length-j)%a.length<a.length:=Nat.mod_lt _ l1
   have CW:=B5 (p:=ae f) (a:=a) (b:=b) (i:=i) (by omega) j (by omega)
   have Fi:=B5 (p:=ae f) (a:=a) (b:=b) (i:=i) (by omega) (j+1) (by omega)
   rw[O_,CW] at Fi
   have e4:=Th yi a b i j
   unfold El at e4
   have e1:=l7 yi (kh yi Ii j) (kh yi rO ((i+a.length-j)%a.length))
   rw[Nj,Int.toNat_natCast,wrap_small (n:=a.getD j 0*b.getD ((i+a.length-j)%a.length) 0) (by omega),Int.tmod_eq_emod_of_nonneg e1.1]
   have e5:=eh (p:=ae f) (by omega) (a.getD j 0*b.getD ((i+a.length-j)%a.length) 0)
   unfold El at e5
   generalize a.getD j 0*b.getD ((i+a.length-j)%a.length) 0%ae f=X at *
   refine⟨⟨by omega,E3⟩,by omega,⟨by omega,by omega⟩,hm,fun hc=>⟨hm,j+1,by omega,by omega,?_,?_⟩,fun hc=>⟨hm,j+1,by omega,by omega,?_,?_⟩⟩
   ·rw[if_pos (by omega)] at Fi
    rw[wrap_small (n:=ae f-X) (by omega),wrap_small (by omega),Int.tmod_eq_emod_of_nonneg (by omega),Fi]
   ·rw[wrap_small (by omega)];rfl
   ·rw[if_neg (by omega)] at Fi
    rw[wrap_small (by omega),Int.tmod_eq_emod_of_nonneg (by omega),Fi]
   ·rw[wrap_small (by omega)];rfl
  ·rw[Qc,List.length_singleton];omega
  ·rw[wrap_small (by omega)];rfl
  ·rw[show j=a.length by omega]
   simp[vA,List.range_succ]
  ·rw[show i=a.length by omega]
   unfold na vA
   rw[if_pos h]
set_option maxRecDepth 10000
theorem U_{n:Nat}(h:n<=10):ju .i64 1 (n:Int)=((2^n:Nat):Int):=by
 rw[za (by omega)]
 exact (Int.natCast_pow 2 n).symm
theorem Sz{n:Nat}(h:n<=26):IntKind.u64.wrap (n:Int)=(n:Int):=w9 ⟨n,by omega⟩
theorem Nv{x:Int}(hx:0<=x){i:Nat}(hi:i<=63):ix .i64 x (i:Int)=x/2^i:=by
 unfold ix
 rw[Int.toNat_natCast,show min i i64.bits=i by show min i 64=i;omega,Int.fdiv_eq_ediv_of_nonneg _ (Int.le_of_lt (Int.pow_pos (by omega)))]
theorem DL :
 ∀(d:Int),Ty.wf ai d->True->(decide (d=(0:Int))=true->(decide (d=(0:Int))=true->(3:Int)=bQ d)/\(decide (d=(0:Int))=false->(decide (d=(1:Int))=true->(decide (d=(1:Int))=true->(5:Int)=bQ d)/\(decide (d=(1:Int))=false->(decide (d=(4:Int))=true->(17:Int)=bQ d)/\(decide (d=(4:Int))=false->(decide (d=(5:Int))=true->(11:Int)=bQ d)/\(decide (d=(5:Int))=false->(0:Int)=bQ d))))/\(decide (d=(1:Int))=false->(decide (d=(2:Int))=true->(5:Int)=bQ d)/\(decide (d=(2:Int))=false->(decide (d=(4:Int))=true->(17:Int)=bQ d)/\(decide (d=(4:Int))=false->(decide (d=(5:Int))=true->(11:Int)=bQ d)/\(decide (d=(5:Int))=false->(0:Int)=bQ d))))))/\(decide (d=(0:Int))=false->(decide (d=(3:Int))=true->(decide (d=(3:Int))=true->(3:Int)=bQ d)/\(decide (d=(3:Int))=false->(decide (d=(1:Int))=true->(decide (d=(1:Int))=true->(5:Int)=bQ d)/\(decide (d=(1:Int))=false->(decide (d=(4:Int))=true->(17:Int)=bQ d)/\(decide (d=(4:Int))=false->(decide (d=(5:Int))=true->(11:Int)=bQ d)/\(decide (d=(5:Int))=false->(0:Int)=bQ d))))/\(decide (d=(1:Int))=false->(decide (d=(2:Int))=true->(5:Int)=bQ d)/\(decide (d=(2:Int))=false->(decide (d=(4:Int))=true->(17:Int)=bQ d)/\(decide (d=(4:Int))=false->(decide (d=(5:Int))=true->(11:Int)=bQ d)/\(decide (d=(5:Int))=false->(0:Int)=bQ d))))))/\(decide (d=(3:Int))=false->(decide (d=(6:Int))=true->(decide (d=(6:Int))=true->(3:Int)=bQ d)/\(decide (d=(6:Int))=false->(decide (d=(1:Int))=true->(decide (d=(1:Int))=true->(5:Int)=bQ d)/\(decide (d=(1:Int))=false->(decide (d=(4:Int))=true->(17:Int)=bQ d)/\(decide (d=(4:Int))=false->(decide (d=(5:Int))=true->(11:Int)=bQ d)/\(decide (d=(5:Int))=false->(0:Int)=bQ d))))/\(decide (d=(1:Int))=false->(decide (d=(2:Int))=true->(5:Int)=bQ d)/\(decide (d=(2:Int))=false->(decide (d=(4:Int))=true->(17:Int)=bQ d)/\(decide (d=(4:Int))=false->(decide (d=(5:Int))=true->(11:Int)=bQ d)/\(decide (d=(5:Int))=false->(0:Int)=bQ d))))))/\(decide (d=(6:Int))=false->(decide (d=(7:Int))=true->(decide (d=(7:Int))=true->(3:Int)=bQ d)/\(decide (d=(7:Int))=false->(decide (d=(1:Int))=true->(decide (d=(1:Int))=true->(5:Int)=bQ d)/\(decide (d=(1:Int))=false->(decide (d=(4:Int))=true->(17:Int)=bQ d)/\(decide (d=(4:Int))=false->(decide (d=(5:Int))=true->(11:Int)=bQ d)/\(decide (d=(5:Int))=false->(0:Int)=bQ d))))/\(decide (d=(1:Int))=false->(decide (d=(2:Int))=true->(5:Int)=bQ d)/\(decide (d=(2:Int))=false->(decide (d=(4:Int))=true->(17:Int)=bQ d)/\(decide (d=(4:Int))=false->(decide (d=(5:Int))=true->(11:Int)=bQ d)/\(decide (d=(5:Int))=false->(0:Int)=bQ d))))))/\(decide (d=(7:Int))=false->(decide (d=(8:Int))=true->(3:Int)=bQ d)/\(decide (d=(8:Int))=false->(decide (d=(1:Int))=true->(decide (d=(1:Int))=true->(5:Int)=bQ d)/\(decide (d=(1:Int))=false->(decide (d=(4:Int))=true->(17:Int)=bQ d)/\(decide (d=(4:Int))=false->(decide (d=(5:Int))=true->(11:Int)=bQ d)/\(decide (d=(5:Int))=false->(0:Int)=bQ d))))/\(decide (d=(1:Int))=false->(decide (d=(2:Int))=true->(5:Int)=bQ d)/\(decide (d=(2:Int))=false->(decide (d=(4:Int))=true->(17:Int)=bQ d)/\(decide (d=(4:Int))=false->(decide (d=(5:Int))=true->(11:Int)=bQ d)/\(decide (d=(5:Int))=false->(0:Int)=bQ d))))))))):=by
  intro (f:Int) _ _
  by_cases h:0<=f/\f<9
  ·rcases f_ h with rfl|rfl|rfl|rfl|rfl|rfl|rfl|rfl|rfl<;>simp[show bQ 0=3 from rfl,show bQ 1=5 from rfl,show bQ 2=5 from rfl,show bQ 3=3 from rfl,show bQ 4=17 from rfl,show bQ 5=11 from rfl,show bQ 6=3 from rfl,show bQ 7=3 from rfl,show bQ 8=3 from rfl]
  ·rw[Na h]
   simp only[exists_const,forall_const,decide_eq_true_eq,decide_eq_false_iff_not,beq_iff_eq,sxS]
   omega
theorem Ku :
 ∀(d:Int×Int),Ty.wf ai d.1/\Ty.wf ai d.2->True->True/\(Ty.wf ai (ae d.1)->(decide (ae d.1=(0:Int))=true->(-1:Int)=ch d.1 d.2)/\(decide (ae d.1=(0:Int))=false->True/\(Ty.wf ai (dE d.1)->True/\((!(decide ((0:Int)<=d.2)&&decide (d.2<=dE d.1)))=true->(-1:Int)=ch d.1 d.2)/\((!(decide ((0:Int)<=d.2)&&decide (d.2<=dE d.1)))=false->True/\(Ty.wf ai (bQ d.1)->True/\(Ty.wf ai (ae d.1)->(0:Int)<=IntKind.wrap IntKind.u64 d.2/\True/\(Ty.wf ai (bk d.1 (bQ d.1) (ix i64 (i64.wrap (ae d.1-(1:Int))) (IntKind.wrap IntKind.u64 d.2)))->bk d.1 (bQ d.1) (ix i64 (i64.wrap (ae d.1-(1:Int))) (IntKind.wrap IntKind.u64 d.2))=ch d.1 d.2))))))):=by
  intro (d:Int×Int) hw hp
  obtain⟨f,k⟩:=d
  simp only[exists_const,forall_const,decide_eq_true_eq,decide_eq_false_iff_not,beq_iff_eq,sxS]
  intro _
  refine⟨fun h=>by unfold ch;rw[if_neg (fun hh=>hh.1 h)],fun h _=>⟨fun h1=>?_,fun h1 _ _=>?_⟩⟩
  ·unfold ch
   rw[if_neg (fun hh=>by rw[decide_eq_true hh.2.1,decide_eq_true hh.2.2] at h1;cases h1)]
  ·simp only[Bool.and_eq_true,decide_eq_true_eq] at h1
   obtain⟨hp,hf⟩:=cH h
   have hb:=n9 hf
   obtain⟨n,rfl⟩:=Int.eq_ofNat_of_zero_le h1.1
   unfold bg at hp
   rw[Sz (by omega),wrap_small (n:=ae f-1) (by omega),Nv (by omega) (by omega),tF h]
   refine⟨by omega,fun _=>?_⟩
   unfold ch
   rw[if_pos ⟨h,h1⟩,Int.toNat_natCast]
def dR:Nat->Nat->Nat
 | _,0=>1
 | 0,_+1=>0
 | n+1,k+1=>dR n k+dR n (k+1)
theorem sZ:∀ n k,n<k->dR n k=0
 | n,0,h=>absurd h (Nat.not_lt_zero _)
 | 0,k+1,_=>rfl
 | n+1,k+1,h=>by rw[dR,sZ n k (by omega),sZ n (k+1) (by omega)]
theorem Ek:∀ n,dR n n=1
 | 0=>rfl
 | n+1=>by rw[dR,Ek n,sZ n (n+1) (by omega)]
theorem MR:∀ n,dR n 0=1
 | 0=>rfl
 | n+1=>rfl
theorem H3:∀ n,dR n 1=n
 | 0=>rfl
 | n+1=>by rw[dR,MR,H3 n];omega
theorem Bt:∀ n k,(k+1)*dR (n+1) (k+1)=(n+1)*dR n k
 | 0,0=>rfl
 | 0,k+1=>by rw[sZ 1 (k+1+1) (by omega),sZ 0 (k+1) (by omega)];simp
 | n+1,0=>by
   rw[H3]
   show (0+1)*(n+1+1)=(n+1+1)*1
   omega
 | n+1,k+1=>by
   have h1:=Bt n k
   have h2:=Bt n (k+1)
   rw[dR,Nat.mul_add,h2,show (k+1+1)*dR (n+1) (k+1)=(k+1)*dR (n+1) (k+1)+dR (n+1) (k+1) by rw[Nat.add_mul _ 1,Nat.one_mul],h1]
   have h3:dR (n+1) (k+1)=dR n k+dR n (k+1):=rfl
   rw[h3,show (n+1+1)*(dR n k+dR n (k+1))=(n+1)*(dR n k+dR n (k+1))+(dR n k+dR n (k+1)) by rw[Nat.add_mul _ 1,Nat.one_mul],Nat.mul_add]
   omega
theorem qi(f:Nat->Int):∀ n,b6 f (n+1)=f 0+b6 (fun k=>f (k+1)) n
 | 0=>by simp[b6]
 | n+1=>by rw[b6,qi f n,b6];omega
theorem Oh(x:Int):∀ n,(x+1)^n=b6 (fun k=>(dR n k:Int)*x^k) (n+1)
 | 0=>by simp[b6,dR]
 | n+1=>by
   rw[Int.pow_succ,Oh x n,Int.mul_add,Int.mul_one]
   have h1:b6 (fun k=>(dR n k:Int)*x^k) (n+1)*x=b6 (fun k=>(dR n k:Int)*x^(k+1)) (n+1):=by
    rw[Int.mul_comm,<-Gs]
    refine uQ _ fun k _=>?_
    rw[Int.pow_succ];ac_rfl
   have h2:b6 (fun k=>(dR (n+1) k:Int)*x^k) (n+1+1)=1+b6 (fun k=>(dR n k:Int)*x^(k+1)+(dR n (k+1):Int)*x^(k+1)) (n+1):=by
    rw[qi]
    congr 1
    ·simp[dR]
    ·refine uQ _ fun k _=>?_
     rw[dR]
     push_cast
     rw[Int.add_mul]
   have h3:b6 (fun k=>(dR n k:Int)*x^k) (n+1)=1+b6 (fun k=>(dR n (k+1):Int)*x^(k+1)) (n+1):=by
    have:b6 (fun k=>(dR n k:Int)*x^k) (n+1+1)=1+b6 (fun k=>(dR n (k+1):Int)*x^(k+1)) (n+1):=by
     rw[qi];congr 1
     simp[dR]
    rw[<-this]
    show _=b6 (fun k=>(dR n k:Int)*x^k) (n+1)+(dR n (n+1):Int)*x^(n+1)
    rw[sZ n (n+1) (by omega)]
    simp
   rw[h1,h2,Gr,h3]
   omega
theorem Pj{p n:Nat}(hp:p=n+1)(yj:∀ a b:Int,a*b%(p:Int)=0->a%(p:Int)=0\/b%(p:Int)=0):∀ k,0<k->k<p->(dR p k:Int)%(p:Int)=0
 | 0,h,_=>absurd h (Nat.lt_irrefl 0)
 | k+1,_,hk=>by
   subst hp
   have h:=Bt n k
   have h2:((k+1:Nat):Int)*(dR (n+1) (k+1):Int)%((n+1:Nat):Int)=0:=by
    rw[<-Int.natCast_mul,h,Int.natCast_mul,Int.mul_emod_right]
   rcases yj _ _ h2 with h3|h3
   ·rw[Int.emod_eq_of_lt (by omega) (by omega)] at h3;omega
   ·exact h3
theorem Al{p n:Nat}(hp:p=n+1)(yj:∀ a b:Int,a*b%(p:Int)=0->a%(p:Int)=0\/b%(p:Int)=0):∀ x:Nat,(x:Int)^p%(p:Int)=(x:Int)%(p:Int)
 | 0=>by subst hp;rw[Int.pow_succ];simp
 | x+1=>by
   have h:=Al hp yj x
   have hb:=Oh (x:Int) p
   have h1:b6 (fun k=>(dR p k:Int)*(x:Int)^k) (p+1)%(p:Int)=(1+(x:Int)^p)%(p:Int):=by
    subst hp
    rw[b6,qi,Ek]
    have:b6 (fun k=>(dR (n+1) (k+1):Int)*(x:Int)^(k+1)) n%((n+1:Nat):Int)=b6 (fun _=>0) n%((n+1:Nat):Int):=zp _ fun k hk=>by
     rw[<-dy,Pj rfl yj (k+1) (by omega) (by omega),Int.zero_mul,Int.zero_emod]
    rw[Df] at this
    have e0:(dR (n+1) 0:Int)*(x:Int)^0=1:=by simp[dR]
    rw[e0]
    refine vg ?_ (by rw[show ((1:Nat):Int)=1 from rfl,Int.one_mul])
    rw[<-gO,this,gO,Int.add_zero]
   show ((x+1:Nat):Int)^p%(p:Int)=((x+1:Nat):Int)%(p:Int)
   rw[show ((x+1:Nat):Int)=(x:Int)+1 from rfl,hb,h1,<-gO,h,gO,Int.add_comm]
theorem QQ{f:Int}(hm:ae f≠0)(a:Int)(ha:a%ae f≠0):a^(ae f-1).toNat%ae f=1%ae f:=by
 have yj:=re hm
 have hp:=yj.mod
 unfold bg at hp
 obtain⟨n,hn⟩:∃ n:Nat,ae f=((n+1:Nat):Int):=⟨(ae f-1).toNat,by omega⟩
 have Ry:=yj.pr
 rw[hn] at Ry ha hp ⊢
 obtain⟨x,hx⟩:=Int.eq_ofNat_of_zero_le (Int.emod_nonneg a (show ((n+1:Nat):Int)≠0 by omega))
 have h1:=Al rfl Ry x
 have e:(((n+1:Nat):Int)-1).toNat=n:=by omega
 rw[e]
 have h2:(x:Int)*((x:Int)^n-1)%((n+1:Nat):Int)=0:=by
  rw[Int.mul_sub,Int.mul_one,Int.mul_comm,<-Int.pow_succ,Int.sub_emod]
  show ((x:Int)^(n+1)%((n+1:Nat):Int)-(x:Int)%((n+1:Nat):Int))%((n+1:Nat):Int)=0
  rw[h1,Int.sub_self,Int.zero_emod]
 rw[<-pow_mod,hx]
 rcases Ry _ _ h2 with h3|h3
 ·rw[<-hx,mod_mod] at h3
  exact absurd h3 ha
 ·have:(x:Int)^n=((x:Int)^n-1)+1:=by omega
  rw[this,<-gN,h3,Int.zero_add]
theorem inv_mul{f:Int}(hm:ae f≠0){a:Int}(ha:a%ae f≠0):a*hD (ae f) a%ae f=1:=by
 have hp:=(cH hm).1
 unfold bg at hp
 unfold hD eO
 rw[dz,Int.mul_comm,<-Int.pow_succ,show (ae f-2).toNat.succ=(ae f-1).toNat by omega,QQ hm a ha,Int.emod_eq_of_lt (by omega) (by omega)]
set_option maxRecDepth 10000
set_option maxRecDepth 10000
theorem Bu{f:Int}{xs:List Int}{k:Int}(h:fT f xs k=true):cm f xs=true/\xs.length<=10/\1<=k/\k<=xs.length:=by
 unfold fT at h
 simp only[Bool.and_eq_true,decide_eq_true_eq] at h
 exact⟨h.1.2,h.1.1,h.2.1,h.2.2⟩
theorem xD(a b:List Int)(s:Nat):∀ n,(cJ a s n).length=(cJ b s n).length
 | 0=>rfl
 | n+1=>by
   unfold cJ
   split
   ·rw[List.length_append,List.length_append,xD a b s n];rfl
   ·exact xD a b s n
theorem sub_sub{xs:List Int}(s:Nat):∀ n,n<=xs.length->(cJ xs s n).Sublist (xs.take n)
 | 0,_=>by simp[cJ]
 | n+1,h=>by
   have h1:=sub_sub (xs:=xs) s n (by omega)
   rw[<-oz (z:=(0:Int)) (show n<xs.length by omega)]
   unfold cJ
   split
   ·exact h1.append (List.Sublist.refl _)
   ·exact h1.trans (List.sublist_append_left _ _)
theorem IH{xs:List Int}(s:Nat):(cJ xs s xs.length).Sublist xs:=by
 have:=sub_sub (xs:=xs) s xs.length (Nat.le_refl _)
 rwa [List.take_length] at this
theorem DG{p:Int}{a b:List Int}(h:a.Sublist b)(he:bw p b=true):bw p a=true:=by
 unfold bw at *
 rw[decide_eq_true_eq] at *
 exact fun x hx=>he x (h.subset hx)
theorem Sx{f:Int}{xs:List Int}(hp:cm f xs=true){s:Nat}(h:1<=(cJ xs s xs.length).length):cm f (cJ xs s xs.length)=true:=by
 obtain⟨hm,E6,jf,he,hn⟩:=uK hp
 have hs:=IH (xs:=xs) s
 exact O2 hm h (by have:=hs.length_le;omega) (DG hs he) (hn.sublist hs)
theorem Gv{l:List Int}{s n:Nat}(h:s/2^n%2=1):cJ l s n++[l.getD n 0]=cJ l s (n+1):=by
 show _=if _ then _ else _
 rw[if_pos h]
theorem Gu{l:List Int}{s n:Nat}(h:¬s/2^n%2=1):cJ l s n=cJ l s (n+1):=by
 show _=if _ then _ else _
 rw[if_neg h]
theorem FN{xs:List Int}{i:Nat}:∀ n,i<n->(dO xs i n).length+1<=n
 | 0,h=>by omega
 | n+1,h=>by
   by_cases e:n=i
   ·rw[FM e]
    have:=tz xs i n
    omega
   ·rw[FO e,List.length_append]
    have:=FN (xs:=xs) n (show i<n by omega)
    simp only[List.length_cons,List.length_nil];omega
theorem IJ{p:Int}(hp:bg p){xs:List Int}(ys:List Int):∀ n,n<=xs.length->(fM p xs ys n).length<=xs.length
 | 0,_=>by simp[fM]
 | n+1,h=>by
   have h1:=IJ hp (xs:=xs) ys n (by omega)
   unfold fM
   have e1:=(zY hp (fM p xs ys n) (lj p (ke p (dO xs n xs.length)) (mulM p (ys.getD n 0) (Bj p xs n)))).2.1
   have e2:=(zm hp (ke p (dO xs n xs.length)) (mulM p (ys.getD n 0) (Bj p xs n))).2.1
   have e3:=(Ch hp (dO xs n xs.length)).1
   have e4:=FN (xs:=xs) xs.length (show n<xs.length by omega)
   omega
theorem EC{p:Int}(hp:bg p){a:List Int}(x:Int){n:Nat}(hn:a.length<=n):qH p a x n=x8 p a x:=by
 induction n with
 | zero =>
   have:a.length=0:=by omega
   unfold x8
   rw[this]
 | succ n ih =>
   by_cases h:a.length=n+1
   ·unfold x8
    rw[h]
   ·have h1:=ih (by omega)
    show mq p (qH p a x n) (mulM p (a.getD n 0) (eO p x n))=_
    rw[h1,lI (by omega)]
    unfold mq mulM
    rw[Int.zero_mul,Int.zero_emod,Int.add_zero,nS (QJ hp a x)]
theorem QO{p:Int}(hp:bg p){a b:List Int}(h:∀ t,a.getD t 0=b.getD t 0)(x:Int):x8 p a x=x8 p b x:=by
 have key:∀ n,qH p a x n=qH p b x n:=by
  intro n
  induction n with
  | zero=>rfl
  | succ n ih =>
    show mq p (qH p a x n) (mulM p (a.getD n 0) (eO p x n))=mq p (qH p b x n) (mulM p (b.getD n 0) (eO p x n))
    rw[ih,h n]
 rw[<-EC hp (a:=a) x (n:=max a.length b.length) (by omega),key,EC hp (a:=b) x (by omega)]
theorem CB{l:List Int}:∀ n,∀ t,lB l n<=t->t<n->l.getD t 0=0
 | 0,t,_,h=>by omega
 | n+1,t,h,h1=>by
   unfold lB at h
   split at h
   ·rename_i h0
    by_cases e:t=n
    ·rw[e];exact h0
    ·exact CB n t h (by omega)
   ·omega
theorem w7(l:List Int)(t:Nat):(bj l).getD t 0=l.getD t 0:=by
 by_cases h:t<pw l
 ·exact CO h
 ·rw[lI (by rw[oA];omega)]
  by_cases h1:t<l.length
  ·exact (CB l.length t (Nat.le_of_not_lt h) h1).symm
  ·exact (lI (by omega)).symm
theorem Ge(l:List Int)(j t:Nat):(l++List.replicate j 0).getD t 0=l.getD t 0:=by
 rw[List.getD_eq_getElem?_getD,List.getD_eq_getElem?_getD,List.getElem?_append]
 split
 ·rfl
 ·rename_i h
  rw[List.getElem?_eq_none (show l.length<=t by omega),List.getElem?_replicate]
  split<;>rfl
theorem s9(p:Int)(a xs:List Int)(n:Nat):(kJ p a xs n).length=n:=o_ _ n
theorem EE(p:Int)(a xs:List Int)(n:Nat):kJ p a xs n++[x8 p a (xs.getD n 0)]=kJ p a xs (n+1):=tw _ n
theorem PB{p:Int}(hp:bg p){a b:List Int}(h:∀ t,a.getD t 0=b.getD t 0)(xs:List Int)(n:Nat):kJ p a xs n=kJ p b xs n:=rf (fun _ _=>QO hp h _)
theorem vW{h:Nat->Bool}:∀ n,(∀ t,t<n->h t=false)->findF h n=none
 | 0,_=>rfl
 | n+1,hn=>by
   unfold findF
   rw[vW n (fun t ht=>hn t (by omega)),hn n (by omega)];rfl
theorem CJ{h:Nat->Bool}{s:Nat}(hs:h s=true)(hl:∀ t,t<s->h t=false):∀ n,s<n->findF h n=some s
 | 0,h0=>by omega
 | n+1,h0=>by
   unfold findF
   by_cases e:s=n
   ·subst e
    rw[vW s hl,hs];rfl
   ·rw[CJ hs hl n (by omega)]
theorem z_{f:Int}{xs ys:List Int}{k:Int}(h:(fT f xs k&&decide (ys.length=xs.length)&&aB f ys)=false):([],0,false)=eC f xs ys k:=by unfold eC;rw[h];rfl
theorem Bv{f:Int}{xs ys:List Int}{k:Int}(h1:fT f xs k=true)(h2:ys.length=xs.length)(h3:aB f ys=true):eC f xs ys k=MY (ae f) xs ys k.toNat (findF (mV (ae f) xs ys k.toNat) (2^xs.length)):=by
 unfold eC
 rw[h1,h3,decide_eq_true h2];rfl
theorem Po{f:Int}{xs ys:List Int}{k:Int}(h1:fT f xs k=true)(h2:ys.length=xs.length)(h3:aB f ys=true){s:Nat}(hs:sj (ae f) xs ys k.toNat s)(hl:s<2^xs.length)(hh:mV (ae f) xs ys k.toNat s=true) :
 eC f xs ys k=(JY (eU (ae f) xs ys s) k.toNat,((yV (ae f) xs ys s:Nat):Int),true):=by
 rw[Bv h1 h2 h3,CJ hh hs.2 _ hl];rfl
theorem Pn{f:Int}{xs ys:List Int}{k:Int}(h1:fT f xs k=true)(h2:ys.length=xs.length)(h3:aB f ys=true){s:Nat}(hs:sj (ae f) xs ys k.toNat s)(hl:¬s<2^xs.length):([],0,false)=eC f xs ys k:=by
 obtain rfl:s=2^xs.length:=by have:=hs.1;omega
 rw[Bv h1 h2 h3,vW _ hs.2];rfl
theorem N0{p:Int}{xs ys:List Int}{k s:Nat}(hs:sj p xs ys k s)(hl:s<2^xs.length)(hh:mV p xs ys k s=false):sj p xs ys k (s+1):=by
 refine⟨by omega,fun t ht=>?_⟩
 by_cases e:t=s
 ·rw[e];exact hh
 ·exact hs.2 t (by omega)
theorem NR{n:Nat}(h:n<=10):2^n<=1024:=Nat.pow_le_pow_right (n:=2) (by omega) h
theorem P9{n:Nat}(h:n<=10):ju .i64 1 (n:Int)=((2^n:Nat):Int):=by
 rw[za (by omega)]
 exact (Int.natCast_pow 2 n).symm
theorem ME{n:Nat}(h:n<=10):IntKind.u64.wrap (n:Int)=(n:Int):=w9 ⟨n,by omega⟩
theorem M5{a b:List Int}{n:Nat}(h:n<a.length/\n<b.length/\a.getD n 0=b.getD n 0):ef a b (n+1)=ef a b n:=by
 show (if _ then _ else _)=_
 rw[if_pos h]
theorem M4{a b:List Int}{n:Nat}(h:¬(n<a.length/\n<b.length/\a.getD n 0=b.getD n 0)):ef a b (n+1)=ef a b n+1:=by
 show (if _ then _ else _)=_
 rw[if_neg h]
theorem Ev(a b:List Int):∀ n,ef a b n<=n
 | 0=>Nat.le_refl _
 | n+1=>by
   have:=Ev a b n
   unfold ef
   split<;>omega
theorem Ps{a b:List Int}{n:Nat}(ha:a.length=n)(hb:b.length=n):I_ a b=((ef a b n:Nat):Int):=by
 unfold I_
 rw[ha,hb,Nat.max_self]
theorem Aa{a b:List Int}(ha:a.length<=4096)(hb:b.length<=4096):nR a b=I_ a b:=by
 unfold nR
 rw[if_neg (by omega)]
theorem Nc{n k:Nat}(h:k<=n)(hn:n<=10):i64.wrap ((i64.wrap ((n:Int)-(k:Int))).tdiv 2)=(((n-k)/2:Nat):Int):=by
 rw[wrap_small (n:=(n:Int)-(k:Int)) (by omega),show (n:Int)-(k:Int)=((n-k:Nat):Int) by omega]
 exact vY (by omega)
theorem L8{f:Int}{xs ys:List Int}(hp:cm f xs=true)(hl:ys.length=xs.length)(s:Nat):bw (ae f) (eU (ae f) xs ys s)=true/\(eU (ae f) xs ys s).length<=(cJ xs s xs.length).length:=by
 obtain⟨hm,E6,jf,he,hn⟩:=uK hp
 have h0:=(re hm).mod
 have hs:=(IH (xs:=xs) s).length_le
 exact⟨(w6 h0 (cJ ys s xs.length) (by omega) _).1,IJ h0 _ _ (Nat.le_refl _)⟩
theorem Me{p:Int}(hp:bg p){m:List Int}(h:bw p m=true)(j:Nat):bw p (m++List.replicate j 0)=true :=
 t_ (fun i _=>by rw[Ge];exact vO hp h i)
theorem zu{l:List Int}(h:iC l=true)(hn:0<l.length):l.getD (l.length-1) 0≠0:=by
 unfold iC at h
 have h:=of_decide_eq_true h
 intro h0
 obtain⟨n,jX⟩:∃ n,l.length=n+1:=⟨l.length-1,by omega⟩
 unfold pw at h
 rw[jX,lB] at h
 rw[jX,Nat.add_sub_cancel] at h0
 rw[if_pos h0] at h
 have:=xi l n
 omega
theorem Sy{l:List Int}(h:0<l.length->l.getD (l.length-1) 0≠0):iC l=true:=by
 unfold iC
 refine decide_eq_true ?_
 unfold pw
 cases hn:l.length with
 | zero=>rfl
 | succ n =>
   rw[lB]
   rw[hn,Nat.add_sub_cancel] at h
   rw[if_neg (h (by omega))]
theorem Qa{x y:List Int}(hx:iC x=true)(hy:iC y=true)(h:∀ t,x.getD t 0=y.getD t 0):x=y:=by
 have key:∀ {x y:List Int},iC y=true->(∀ t,x.getD t 0=y.getD t 0)->y.length<=x.length:=by
  intro x y hy h
  rcases Nat.lt_or_ge x.length y.length with hl|hl
  ·have h1:=zu hy (by omega)
   rw[<-h,List.getD_eq_getElem?_getD,List.getElem?_eq_none (by omega)] at h1
   exact absurd rfl h1
  ·exact hl
 have h1:=key hy h
 have h2:=key hx (fun t=>(h t).symm)
 refine List.ext_getElem (by omega) fun t a b=>?_
 have:=h t
 simpa[List.getD_eq_getElem?_getD,a,b] using this
theorem GC{x y:List Int}(h:∀ t,x.getD t 0=y.getD t 0):bj x=bj y :=
 Qa (rn x) (rn y) (fun t=>by rw[w7,w7,h])
theorem tZ(p:Int)(b L:List Int)(i:Nat)(c:Int)(j:Nat):(fa p b L i c j).length=L.length:=mc _ _
theorem Ab(p:Int)(b L:List Int)(i:Nat)(c:Int)(j:Nat){t:Nat}(ht:t<L.length):(fa p b L i c j).getD t 0=if i<=t/\t<i+j then lP p (L.getD t 0) (mulM p c (b.getD (t-i) 0)) else L.getD t 0:=by
 simp[fa,List.getD_eq_getElem?_getD,ht]
theorem xk(p r:Int)(a b:List Int):∀ k,(fF p r a b k).length=a.length
 | 0=>rfl
 | k+1=>by rw[fF,tZ,xk p r a b k]
theorem s6(p r:Int)(a b:List Int)(n k:Nat):(iZ p r a b n k).length=n:=mc _ _
theorem xl(p r:Int)(a b:List Int)(n k:Nat){t:Nat}(ht:t<n):(iZ p r a b n k).getD t 0=if a.length-b.length<t+k/\t<=a.length-b.length then rF p r a b (a.length-b.length-t) else 0:=by
 simp[iZ,List.getD_eq_getElem?_getD,ht]
theorem BB{l:List Int}{t:Nat}(h:l.length<=t):l.getD t 0=0:=by rw[List.getD_eq_getElem?_getD,List.getElem?_eq_none h];rfl
theorem Pv{f:Int}(hm:ae f≠0){a b:List Int}(ha:bC f a=true)(hb:b.getD (b.length-1) 0%ae f≠0)(Ig:0<b.length)(rL:b.length<=a.length):iC (iZ (ae f) (cZ (ae f) b) a b (a.length-b.length+1) (a.length-b.length+1))=true:=by
 have yj:=re hm
 have hp:=yj.mod
 unfold bC at ha
 simp only[Bool.and_eq_true,decide_eq_true_eq] at ha
 obtain⟨_,he⟩:=js ha.1.2
 refine Sy fun _=>?_
 rw[s6,Nat.add_sub_cancel,xl _ _ _ _ _ _ (by omega),if_pos (by omega),Nat.sub_self]
 unfold rF mulM
 rw[fF,Nat.sub_zero]
 have h1:=zu ha.2 (by omega)
 have h2:=kh hp he (a.length-1)
 intro h3
 rcases yj.pr _ _ h3 with h4|h4
 ·rw[nS h2] at h4;exact h1 h4
 ·have:=inv_mul hm hb
  unfold cZ at h4
  rw[<-dz,h4,Int.mul_zero,Int.zero_emod] at this
  exact absurd this (by decide)
theorem M6{f:Int}(hm:ae f≠0){a b:List Int}(ha:bC f a=true)(hb:b.getD (b.length-1) 0%ae f≠0)(Ig:0<b.length)(rL:b.length<=a.length) :
 (bj (iZ (ae f) (cZ (ae f) b) a b a.length (a.length-b.length+1)),bj (fF (ae f) (cZ (ae f) b) a b (a.length-b.length+1)))=lD (ae f) a b:=by
 unfold lD
 rw[if_neg (by omega)]
 congr 1
 rw[<-tY (Pv hm ha hb Ig rL)]
 refine GC fun t=>?_
 rcases Nat.lt_or_ge t (a.length-b.length+1) with ht|ht
 ·rw[xl _ _ _ _ _ _ (by omega),xl _ _ _ _ _ _ ht]
 ·rw[BB (l:=iZ _ _ _ _ (a.length-b.length+1) _) (by rw[s6];exact ht)]
  rcases Nat.lt_or_ge t a.length with OV|OV
  ·rw[xl _ _ _ _ _ _ OV,if_neg (by omega)]
  ·exact BB (by rw[s6];exact OV)
theorem Gg(m:Int)(l:List Int):pq m l 0:=⟨Nat.zero_le _,fun x hx=>by simp at hx⟩
theorem Gf{m:Int}{l:List Int}{k:Nat}(h:pq m l k)(hk:k<l.length)(h1 : -m<=l.getD k 0)(h2:l.getD k 0<=m):pq m l (k+1):=by
 refine⟨hk,fun x hx=>?_⟩
 rw[<-oz (z:=(0:Int)) hk] at hx
 rcases List.mem_append.1 hx with h3|h3
 ·exact h.2 x h3
 ·rw[List.mem_singleton.1 h3];exact⟨h1,h2⟩
theorem Mt{m:Int}{l:List Int}{k:Nat}(hk:k<l.length)(h:¬(-m<=l.getD k 0/\l.getD k 0<=m)):¬ ∀ x∈l,-m<=x/\x<=m:=by
 intro hx
 apply h
 refine hx _ ?_
 rw[List.getD_eq_getElem?_getD,List.getElem?_eq_getElem hk]
 exact List.getElem_mem _
theorem IF{m:Int}{l:List Int}{k:Nat}(h:pq m l k)(hk:¬k<l.length):∀ x∈l,-m<=x/\x<=m:=by
 have:=h.2
 rwa [List.take_of_length_le (by omega)] at this
theorem GX :
 ∀(d:List Int),Ty.wf al d->True->(decide ((200:Int)<(d.length:Int))=true->false=dQ d)/\(decide ((200:Int)<(d.length:Int))=false->pq (1000000:Int) d (0:Nat)/\(d=d/\(0:Int)=(↑(0:Nat):Int))/\∀(x:Nat),pq (1000000:Int) d x->(decide ((x:Int)<(d.length:Int))=true->((0:Int)<=(x:Int)/\(x:Int)<(d.length:Int))/\True/\((!(decide ((-1000000:Int)<=d.getD ((x:Int).toNat) (0:Int))&&decide (d.getD ((x:Int).toNat) (0:Int)<=(1000000:Int))))=true->false=dQ d)/\((!(decide ((-1000000:Int)<=d.getD ((x:Int).toNat) (0:Int))&&decide (d.getD ((x:Int).toNat) (0:Int)<=(1000000:Int))))=false->∃(x':Nat),pq (1000000:Int) d x'/\d.length-x'<d.length-x/\d=d/\i64.wrap ((x:Int)+(1:Int))=(x':Int)))/\(decide ((x:Int)<(d.length:Int))=false->true=dQ d)):=by
  intro d hw hp
  replace hw:al.wf d:=hw
  simp only[exists_const,forall_const,decide_eq_true_eq,decide_eq_false_iff_not,beq_iff_eq,sxS]
  unfold dQ
  refine⟨fun h=>by rw[decide_eq_false (show ¬d.length<=200 by omega)];rfl,fun h=>⟨Gg _ _,rfl,fun x hx=>⟨fun aZ=>⟨⟨by omega,aZ⟩,fun h1=>?_,fun h1=>?_⟩,fun lW=>?_⟩⟩⟩
  ·rw[decide_eq_false (Mt (m:=1000000) (show x<d.length by omega) (fun hh=>by rw[decide_eq_true hh.1,decide_eq_true hh.2] at h1;cases h1)),Bool.and_false]
  ·simp only[Bool.and_eq_true,decide_eq_true_eq] at h1
   exact⟨x+1,Gf hx (by omega) h1.1 h1.2,by omega,by rw[wrap_small (by omega)];rfl⟩
  ·rw[decide_eq_true (show d.length<=200 by omega),decide_eq_true (IF (m:=1000000) hx (by omega))];rfl
theorem GZ :
 ∀(d:List Int),Ty.wf al d->True->(decide ((400:Int)<(d.length:Int))=true->false=ep d)/\(decide ((400:Int)<(d.length:Int))=false->pq (1099511627776:Int) d (0:Nat)/\(d=d/\(0:Int)=(↑(0:Nat):Int))/\∀(x:Nat),pq (1099511627776:Int) d x->(decide ((x:Int)<(d.length:Int))=true->((0:Int)<=(x:Int)/\(x:Int)<(d.length:Int))/\True/\((!(decide ((-1099511627776:Int)<=d.getD ((x:Int).toNat) (0:Int))&&decide (d.getD ((x:Int).toNat) (0:Int)<=(1099511627776:Int))))=true->false=ep d)/\((!(decide ((-1099511627776:Int)<=d.getD ((x:Int).toNat) (0:Int))&&decide (d.getD ((x:Int).toNat) (0:Int)<=(1099511627776:Int))))=false->∃(x':Nat),pq (1099511627776:Int) d x'/\d.length-x'<d.length-x/\d=d/\i64.wrap ((x:Int)+(1:Int))=(x':Int)))/\(decide ((x:Int)<(d.length:Int))=false->true=ep d)):=by
  intro d hw hp
  replace hw:al.wf d:=hw
  simp only[exists_const,forall_const,decide_eq_true_eq,decide_eq_false_iff_not,beq_iff_eq,sxS]
  unfold ep
  refine⟨fun h=>by rw[decide_eq_false (show ¬d.length<=400 by omega)];rfl,fun h=>⟨Gg _ _,rfl,fun x hx=>⟨fun aZ=>⟨⟨by omega,aZ⟩,fun h1=>?_,fun h1=>?_⟩,fun lW=>?_⟩⟩⟩
  ·rw[decide_eq_false (Mt (m:=1099511627776) (show x<d.length by omega) (fun hh=>by rw[decide_eq_true hh.1,decide_eq_true hh.2] at h1;cases h1)),Bool.and_false]
  ·simp only[Bool.and_eq_true,decide_eq_true_eq] at h1
   exact⟨x+1,Gf hx (by omega) h1.1 h1.2,by omega,by rw[wrap_small (by omega)];rfl⟩
  ·rw[decide_eq_true (show d.length<=400 by omega),decide_eq_true (IF (m:=1099511627776) hx (by omega))];rfl
theorem HJ :
 ∀(d:Int×List Int×List Int),Ty.wf ai d.1/\Ty.wf al d.2.1/\Ty.wf al d.2.2->True->True/\((!bC d.1 d.2.1)=true->([],false)=fW d.1 d.2.1 d.2.2)/\((!bC d.1 d.2.1)=false->True/\((!bC d.1 d.2.2)=true->([],false)=fW d.1 d.2.1 d.2.2)/\((!bC d.1 d.2.2)=false->(decide ((0:Int)<(d.2.1.length:Int))=true->(decide ((0:Int)<(d.2.2.length:Int))=true->(decide ((400:Int)<i64.wrap (i64.wrap ((d.2.1.length:Int)+(d.2.2.length:Int))-(1:Int)))=true->([],false)=fW d.1 d.2.1 d.2.2)/\(decide ((400:Int)<i64.wrap (i64.wrap ((d.2.1.length:Int)+(d.2.2.length:Int))-(1:Int)))=false->(aB d.1 d.2.1=true/\aB d.1 d.2.2=true/\d.2.1.length<=(1000:Nat)/\d.2.2.length<=(1000:Nat))/\(Ty.wf al (hJ (ae d.1) d.2.1 d.2.2)->(hJ (ae d.1) d.2.1 d.2.2,true)=fW d.1 d.2.1 d.2.2)))/\(decide ((0:Int)<(d.2.2.length:Int))=false->(aB d.1 d.2.1=true/\aB d.1 d.2.2=true/\d.2.1.length<=(1000:Nat)/\d.2.2.length<=(1000:Nat))/\(Ty.wf al (hJ (ae d.1) d.2.1 d.2.2)->(hJ (ae d.1) d.2.1 d.2.2,true)=fW d.1 d.2.1 d.2.2)))/\(decide ((0:Int)<(d.2.1.length:Int))=false->(aB d.1 d.2.1=true/\aB d.1 d.2.2=true/\d.2.1.length<=(1000:Nat)/\d.2.2.length<=(1000:Nat))/\(Ty.wf al (hJ (ae d.1) d.2.1 d.2.2)->(hJ (ae d.1) d.2.1 d.2.2,true)=fW d.1 d.2.1 d.2.2)))):=by
  intro d hw hp
  obtain⟨f,a,b⟩:=d
  simp only[exists_const,forall_const,decide_eq_true_eq,decide_eq_false_iff_not,beq_iff_eq,sxS]
  unfold fW
  refine⟨fun h=>by rw[h];rfl,fun ha=>⟨fun h=>by rw[h,Bool.and_false];rfl,fun hb=>?_⟩⟩
  have K8:=ha
  have et:=hb
  unfold bC at K8 et
  simp only[Bool.and_eq_true,decide_eq_true_eq] at K8 et
  have dD:aB f a=true/\aB f b=true/\a.length<=1000/\b.length<=1000:=⟨K8.1.2,et.1.2,by omega,by omega⟩
  rw[ha,hb]
  have w1:i64.wrap (i64.wrap ((a.length:Int)+b.length)-1)=(a.length:Int)+b.length-1:=by rw[wrap_small (n:=(a.length:Int)+b.length) (by omega),wrap_small (by omega)]
  rw[w1]
  refine⟨fun h1=>⟨fun h2=>⟨fun h3=>?_,fun h3=>⟨dD,fun _=>?_⟩⟩,fun h2=>⟨dD,fun _=>?_⟩⟩,fun h1=>⟨dD,fun _=>?_⟩⟩
  ·rw[decide_eq_false (by omega)];rfl
  ·rw[decide_eq_true (by omega)];rfl
  ·rw[decide_eq_true (by omega)];rfl
  ·rw[decide_eq_true (by omega)];rfl
theorem Kr :
 ∀(d:Int×List Int×List Int),Ty.wf ai d.1/\Ty.wf al d.2.1/\Ty.wf al d.2.2->True->True/\((!bC d.1 d.2.1)=true->([],[],false)=dg d.1 d.2.1 d.2.2)/\((!bC d.1 d.2.1)=false->True/\((!bC d.1 d.2.2)=true->([],[],false)=dg d.1 d.2.1 d.2.2)/\((!bC d.1 d.2.2)=false->(decide ((d.2.2.length:Int)=(0:Int))=true->([],[],false)=dg d.1 d.2.1 d.2.2)/\(decide ((d.2.2.length:Int)=(0:Int))=false->(bC d.1 d.2.1=true/\bC d.1 d.2.2=true/\d.2.2.length≠(0:Nat))/\(Ty.wf al (lD (ae d.1) d.2.1 d.2.2).1/\Ty.wf al (lD (ae d.1) d.2.1 d.2.2).2->(Prod.fst (lD (ae d.1) d.2.1 d.2.2),(lD (ae d.1) d.2.1 d.2.2).2,true)=dg d.1 d.2.1 d.2.2)))):=by
  intro d hw hp
  obtain⟨f,a,b⟩:=d
  simp only[exists_const,forall_const,decide_eq_true_eq,decide_eq_false_iff_not,beq_iff_eq,sxS]
  unfold dg
  refine⟨fun h=>by rw[h];rfl,fun ha=>⟨fun h=>by rw[h,Bool.and_false];rfl,fun hb=>⟨fun h=>?_,fun h=>⟨⟨ha,hb,by omega⟩,fun _=>?_⟩⟩⟩⟩
  ·rw[decide_eq_false (show ¬b.length≠0 by omega),Bool.and_false];rfl
  ·rw[ha,hb,decide_eq_true (show b.length≠0 by omega)];rfl
theorem GM :
 ∀(d:Int×List Int),Ty.wf ai d.1/\Ty.wf al d.2->True->True/\((decide ((1:Int)<=(d.2.length:Int))&&decide ((d.2.length:Int)<=(64:Int)))=true->True/\aB d.1 d.2=rm d.1 d.2)/\((decide ((1:Int)<=(d.2.length:Int))&&decide ((d.2.length:Int)<=(64:Int)))=false->false=rm d.1 d.2):=by
  intro d hw hp
  obtain⟨f,a⟩:=d
  simp only[exists_const,forall_const,decide_eq_true_eq,decide_eq_false_iff_not,beq_iff_eq,sxS]
  unfold rm
  have e1:decide ((1:Int)<=a.length)=decide (1<=a.length):=by by_cases h:1<=a.length<;>simp[h]<;>omega
  have e2:decide ((a.length:Int)<=64)=decide (a.length<=64):=by by_cases h:a.length<=64<;>simp[h]<;>omega
  rw[e1,e2]
  exact⟨fun h=>by rw[h];rfl,fun h=>by rw[h];rfl⟩
theorem MG :
 ∀(d:Int×Int×List Int×List Int×Int),Ty.wf n6 d->True->True/\((!(decide ((1:Int)<=d.1)&&decide (d.1<=(11:Int))))=true->false=bI d)/\((!(decide ((1:Int)<=d.1)&&decide (d.1<=(11:Int))))=false->True/\(Ty.wf ai (ae d.2.1)->(decide (ae d.2.1=(0:Int))=true->false=bI d)/\(decide (ae d.2.1=(0:Int))=false->(decide (d.1=(6:Int))=true->((!decide (d.2.1=(0:Int)))=true->false=bI d)/\((!decide (d.2.1=(0:Int)))=false->True/\((!ep d.2.2.1)=true->false=bI d)/\((!ep d.2.2.1)=false->True/\((!ep d.2.2.2.1)=true->false=bI d)/\((!ep d.2.2.2.1)=false->True/\((!(decide ((0:Int)<=d.2.2.2.2)&&decide (d.2.2.2.2<=(400:Int))))=true->false=bI d)/\((!(decide ((0:Int)<=d.2.2.2.2)&&decide (d.2.2.2.2<=(400:Int))))=false->True/\(ll d.1=true->(decide (d.1=(11:Int))=true->true=bI d)/\(decide (d.1=(11:Int))=false->decide (d.2.2.2.2=(0:Int))=bI d))/\(ll d.1=false->(decide ((d.2.2.2.1.length:Int)=(0:Int))=true->(decide (d.1=(11:Int))=true->true=bI d)/\(decide (d.1=(11:Int))=false->decide (d.2.2.2.2=(0:Int))=bI d))/\(decide ((d.2.2.2.1.length:Int)=(0:Int))=false->false=bI d)))))))/\(decide (d.1=(6:Int))=false->True/\((!ep d.2.2.1)=true->false=bI d)/\((!ep d.2.2.1)=false->True/\((!ep d.2.2.2.1)=true->false=bI d)/\((!ep d.2.2.2.1)=false->True/\((!(decide ((0:Int)<=d.2.2.2.2)&&decide (d.2.2.2.2<=(400:Int))))=true->false=bI d)/\((!(decide ((0:Int)<=d.2.2.2.2)&&decide (d.2.2.2.2<=(400:Int))))=false->True/\(ll d.1=true->(decide (d.1=(11:Int))=true->true=bI d)/\(decide (d.1=(11:Int))=false->decide (d.2.2.2.2=(0:Int))=bI d))/\(ll d.1=false->(decide ((d.2.2.2.1.length:Int)=(0:Int))=true->(decide (d.1=(11:Int))=true->true=bI d)/\(decide (d.1=(11:Int))=false->decide (d.2.2.2.2=(0:Int))=bI d))/\(decide ((d.2.2.2.1.length:Int)=(0:Int))=false->false=bI d))))))))):=by
  intro d hw hp
  simp only[exists_const,forall_const,decide_eq_true_eq,decide_eq_false_iff_not,beq_iff_eq,sxS]
  unfold bI
  generalize ep d.2.2.1=wa
  generalize ep d.2.2.2.1=wb
  generalize ll d.1=u
  repeat' first
   | apply And.intro
   | intro _
  all_goals (simp_all<;>(intros;omega))
theorem MX(a b:List Int)(n:Nat):mA a b n++[iH a b n (min (n+1) a.length)]=mA a b (n+1):=tw (fun i=>iH a b i (min (i+1) a.length)) n
theorem H4(a b:List Int)(n:Nat):(mA a b n).length=n:=o_ _ n
theorem Es{a b:List Int}{i j:Nat}(h:i-j<b.length):iH a b i (j+1)=iH a b i j+a.getD j 0*b.getD (i-j) 0:=by
 show (if _ then _ else _)=_
 rw[if_pos h]
theorem Ep{a b:List Int}{i j:Nat}(h:¬i-j<b.length):iH a b i (j+1)=iH a b i j:=by
 show (if _ then _ else _)=_
 rw[if_neg h]
theorem ow{l:List Int}(h:dQ l=true):l.length<=200/\∀ t,-1000000<=l.getD t 0/\l.getD t 0<=1000000:=by
 unfold dQ at h
 simp only[Bool.and_eq_true,decide_eq_true_eq] at h
 refine⟨h.1,fun t=>?_⟩
 rcases Nat.lt_or_ge t l.length with ht|ht
 ·refine h.2 _ ?_
  rw[List.getD_eq_getElem?_getD,List.getElem?_eq_getElem ht]
  exact List.getElem_mem _
 ·rw[BB ht];omega
theorem IB{x y:Int}(hx : -1000000<=x/\x<=1000000)(hy : -1000000<=y/\y<=1000000) : -1000000000000<=x*y/\x*y<=1000000000000:=by
 have h:(x*y).natAbs<=1000000*1000000:=by rw[Int.natAbs_mul];exact Nat.mul_le_mul (by omega) (by omega)
 omega
theorem KS{a b:List Int}(ha:dQ a=true)(hb:dQ b=true)(i:Nat):∀ j:Nat,-(1000000000000*(j:Int))<=iH a b i j/\iH a b i j<=1000000000000*(j:Int)
 | 0=>by simp[iH]
 | j+1=>by
   have ih:=KS ha hb i j
   have hp:=IB ((ow ha).2 j) ((ow hb).2 (i-j))
   by_cases h:i-j<b.length
   ·rw[Es h];omega
   ·rw[Ep h];omega
theorem Pl{a b:List Int}(ha:dQ a=true)(hb:dQ b=true)(i j k m:Nat)(hj:j<=1000):i64.wrap (iH a b i j+i64.wrap (a.getD k 0*b.getD m 0))=iH a b i j+a.getD k 0*b.getD m 0:=by
 have h1:=KS ha hb i j
 have h2:=IB ((ow ha).2 k) ((ow hb).2 m)
 have h3:(1000000000000*(j:Int))<=1000000000000000:=by omega
 rw[wrap_small (n:=a.getD k 0*b.getD m 0) (by omega),wrap_small (by omega)]
theorem On{a b:List Int}(h:¬(dQ a=true/\dQ b=true)):dK a b=([],false):=by
 unfold dK
 rw[if_neg (by rw[Bool.and_eq_true];exact h)]
theorem KT{a b:List Int}(ha:dQ a=true)(hb:dQ b=true)(h:a.length=0\/b.length=0):dK a b=([],true):=by
 unfold dK
 rw[if_pos (by rw[Bool.and_eq_true];exact⟨ha,hb⟩),if_pos h]
theorem QD{a b:List Int}(ha:dQ a=true)(hb:dQ b=true)(h:¬(a.length=0\/b.length=0)):dK a b=(mA a b (a.length+b.length-1),true):=by
 unfold dK
 rw[if_pos (by rw[Bool.and_eq_true];exact⟨ha,hb⟩),if_neg h]
theorem DJ :
 ∀(d:List Int×List Int),Ty.wf al d.1/\Ty.wf al d.2->True->True/\((!dQ d.1)=true->([],false)=dK d.1 d.2)/\((!dQ d.1)=false->True/\((!dQ d.2)=true->([],false)=dK d.1 d.2)/\((!dQ d.2)=false->(decide ((d.1.length:Int)=(0:Int))=true->([],true)=dK d.1 d.2)/\(decide ((d.1.length:Int)=(0:Int))=false->(decide ((d.2.length:Int)=(0:Int))=true->([],true)=dK d.1 d.2)/\(decide ((d.2.length:Int)=(0:Int))=false->(0:Nat)<=d.1.length+d.2.length-(1:Nat)/\((d.1=d.1/\d.2=d.2/\an/\(0:Int)=(↑(0:Nat):Int))/\[]=mA d.1 d.2 (0:Nat))/\∀(x:Nat),x<=d.1.length+d.2.length-(1:Nat)->(decide ((x:Int)<i64.wrap (i64.wrap ((d.1.length:Int)+(d.2.length:Int))-(1:Int)))=true->(0:Nat)<=min (x+(1:Nat)) d.1.length/\((d.1=d.1/\d.2=d.2/\an/\ah (x:Int)/\(0:Int)=iH d.1 d.2 x (0:Nat)/\(0:Int)=(↑(0:Nat):Int))/\ah (mA d.1 d.2 x))/\∀(x_1:Nat),x_1<=min (x+(1:Nat)) d.1.length->(decide ((x_1:Int)<=(x:Int))=true->(decide ((x_1:Int)<(d.1.length:Int))=true->(decide (i64.wrap ((x:Int)-(x_1:Int))<(d.2.length:Int))=true->((0:Int)<=(x_1:Int)/\(x_1:Int)<(d.1.length:Int))/\((0:Int)<=i64.wrap ((x:Int)-(x_1:Int))/\i64.wrap ((x:Int)-(x_1:Int))<(d.2.length:Int))/\∃(x':Nat),x'<=min (x+(1:Nat)) d.1.length/\min (x+(1:Nat)) d.1.length-x'<min (x+(1:Nat)) d.1.length-x_1/\(d.1=d.1/\d.2=d.2/\an/\ah (x:Int)/\i64.wrap (iH d.1 d.2 x x_1+i64.wrap (d.1.getD ((x_1:Int).toNat) (0:Int)*d.2.getD (Int.toNat (i64.wrap ((x:Int)-(x_1:Int)))) (0:Int)))=iH d.1 d.2 x x'/\i64.wrap ((x_1:Int)+(1:Int))=(x':Int))/\ah (mA d.1 d.2 x))/\(decide (i64.wrap ((x:Int)-(x_1:Int))<(d.2.length:Int))=false->∃(x':Nat),x'<=min (x+(1:Nat)) d.1.length/\min (x+(1:Nat)) d.1.length-x'<min (x+(1:Nat)) d.1.length-x_1/\(d.1=d.1/\d.2=d.2/\an/\ah (x:Int)/\iH d.1 d.2 x x_1=iH d.1 d.2 x x'/\i64.wrap ((x_1:Int)+(1:Int))=(x':Int))/\ah (mA d.1 d.2 x)))/\(decide ((x_1:Int)<(d.1.length:Int))=false->(List.length (mA d.1 d.2 x)+List.length [iH d.1 d.2 x x_1])*(8:Nat)<=(140737488355328:Nat)/\∃(x':Nat),x'<=d.1.length+d.2.length-(1:Nat)/\d.1.length+d.2.length-(1:Nat)-x'<d.1.length+d.2.length-(1:Nat)-x/\(d.1=d.1/\d.2=d.2/\an/\i64.wrap ((x:Int)+(1:Int))=(x':Int))/\mA d.1 d.2 x++[iH d.1 d.2 x x_1]=mA d.1 d.2 x'))/\(decide ((x_1:Int)<=(x:Int))=false->(List.length (mA d.1 d.2 x)+List.length [iH d.1 d.2 x x_1])*(8:Nat)<=(140737488355328:Nat)/\∃(x':Nat),x'<=d.1.length+d.2.length-(1:Nat)/\d.1.length+d.2.length-(1:Nat)-x'<d.1.length+d.2.length-(1:Nat)-x/\(d.1=d.1/\d.2=d.2/\an/\i64.wrap ((x:Int)+(1:Int))=(x':Int))/\mA d.1 d.2 x++[iH d.1 d.2 x x_1]=mA d.1 d.2 x'))/\(decide ((x:Int)<i64.wrap (i64.wrap ((d.1.length:Int)+(d.2.length:Int))-(1:Int)))=false->(mA d.1 d.2 x,true)=dK d.1 d.2))))):=by
  intro (d:List Int×List Int) hw hp
  obtain⟨a,b⟩:=d
  simp only[exists_const,forall_const,decide_eq_true_eq,decide_eq_false_iff_not,beq_iff_eq,sxS]
  refine⟨fun h=>(On (by simp[h])).symm,fun ha=>⟨fun h=>(On (by simp[h])).symm,fun hb=>⟨fun h=>(KT ha hb (by omega)).symm,fun h=>⟨fun h1=>(KT ha hb (by omega)).symm,fun h1=>?_⟩⟩⟩⟩
  have h3:=(ow ha).1
  have h4:=(ow hb).1
  have eI:i64.wrap (i64.wrap ((a.length:Int)+(b.length:Int))-1)=((a.length+b.length-1:Nat):Int):=by
   rw[wrap_small (n:=(a.length:Int)+(b.length:Int)) (by omega),wrap_small (by omega)];omega
  rw[eI]
  refine⟨by omega,⟨rfl,rfl⟩,fun x hx=>?_⟩
  rw[H4]
  refine⟨fun h2=>⟨by omega,⟨rfl,rfl⟩,fun y hy=>?_⟩,fun h2=>?_⟩
  ·have fin:y=min (x+1) a.length->(x+[iH a b x y].length)*8<=140737488355328/\∃ x',x'<=a.length+b.length-1/\a.length+b.length-1-x'<a.length+b.length-1-x/\i64.wrap ((x:Int)+1)=(x':Int) ∧
    mA a b x++[iH a b x y]=mA a b x':=fun e =>
    ⟨by simp only[List.length_cons,List.length_nil];omega,x+1,by omega,by omega,bp (by omega),by rw[e];exact MX _ _ _⟩
   refine⟨fun h3=>⟨fun h4=>?_,fun h4=>fin (by omega)⟩,fun h3=>fin (by omega)⟩
   have wj:i64.wrap ((x:Int)-(y:Int))=((x-y:Nat):Int):=by rw[wrap_small (by omega)];omega
   rw[wj,Int.toNat_natCast]
   refine⟨fun h5=>⟨⟨by omega,by omega⟩,⟨by omega,by omega⟩,y+1,by omega,by omega,?_,bp (by omega)⟩,fun h5=>⟨y+1,by omega,by omega,(Ep (by omega)).symm,bp (by omega)⟩⟩
   rw[Pl ha hb _ _ _ _ (by omega),Es (by omega)]
  ·rw[QD ha hb (by omega),show x=a.length+b.length-1 by omega]
theorem Su{f:Int}{a:List Int}(h:rm f a=true):1<=a.length/\a.length<=64/\ae f≠0/\bw (ae f) a=true:=by
 unfold rm at h
 simp only[Bool.and_eq_true,decide_eq_true_eq] at h
 exact⟨h.1.1,h.1.2,js h.2⟩
theorem O9{f:Int}{a:List Int}(h:¬(rm f a=true/\a.getD 0 0≠0)):dU f a=([],false):=by
 unfold dU
 rw[if_neg (by rw[Bool.and_eq_true,decide_eq_true_eq];exact h)]
theorem Sv{f:Int}{a:List Int}(h:rm f a=true)(h0:a.getD 0 0≠0):dU f a=(c8 (ae f) a a.length,true):=by
 unfold dU
 rw[if_pos (by rw[Bool.and_eq_true,decide_eq_true_eq];exact⟨h,h0⟩)]
theorem DO :
 ∀(d:Int×List Int),Ty.wf ai d.1/\Ty.wf al d.2->True->True/\((!rm d.1 d.2)=true->([],false)=dU d.1 d.2)/\((!rm d.1 d.2)=false->((0:Int)<=(0:Int)/\(0:Int)<(d.2.length:Int))/\(decide (d.2.getD ((0:Int).toNat) (0:Int)=(0:Int))=true->([],false)=dU d.1 d.2)/\(decide (d.2.getD ((0:Int).toNat) (0:Int)=(0:Int))=false->((0:Int)<=(0:Int)/\(0:Int)<(d.2.length:Int))/\True/\(Ty.wf ai (bk d.1 (d.2.getD ((0:Int).toNat) (0:Int)) (-1:Int))->(0:Nat)<=d.2.length/\((d.1=d.1/\d.2=d.2/\an/\ah (bk d.1 (d.2.getD ((0:Int).toNat) (0:Int)) (-1:Int))/\(0:Int)=(↑(0:Nat):Int))/\[]=c8 (ae d.1) d.2 (0:Nat))/\∀(x:Nat),x<=d.2.length->(decide ((x:Int)<(d.2.length:Int))=true->(decide ((x:Int)=(0:Int))=true->(0:Nat)<=x/\((d.1=d.1/\d.2=d.2/\an/\ah (bk d.1 (d.2.getD ((0:Int).toNat) (0:Int)) (-1:Int))/\ah (x:Int)/\(1:Int)=kd (ae d.1) d.2 (c8 (ae d.1) d.2 x) x (0:Nat)/\(1:Int)=(↑(0:Nat):Int)+(1:Int))/\ah (c8 (ae d.1) d.2 x))/\∀(x_1:Nat),x_1<=x->(decide ((x_1:Int)+(1:Int)<=(x:Int))=true->((0:Int)<=(x_1:Int)+(1:Int)/\(x_1:Int)+(1:Int)<(d.2.length:Int))/\((0:Int)<=i64.wrap ((x:Int)-((x_1:Int)+(1:Int)))/\i64.wrap ((x:Int)-((x_1:Int)+(1:Int)))<(↑(List.length (c8 (ae d.1) d.2 x)):Int))/\True/\True/\(Ty.wf ai (gI d.1 (kd (ae d.1) d.2 (c8 (ae d.1) d.2 x) x x_1) (cD d.1 (d.2.getD (Int.toNat ((x_1:Int)+(1:Int))) (0:Int)) (List.getD (c8 (ae d.1) d.2 x) (Int.toNat (i64.wrap ((x:Int)-((x_1:Int)+(1:Int))))) (0:Int))))->Ty.wf ai (cD d.1 (d.2.getD (Int.toNat ((x_1:Int)+(1:Int))) (0:Int)) (List.getD (c8 (ae d.1) d.2 x) (Int.toNat (i64.wrap ((x:Int)-((x_1:Int)+(1:Int))))) (0:Int)))->∃(x':Nat),x'<=x/\x-x'<x-x_1/\(d.1=d.1/\d.2=d.2/\an/\ah (bk d.1 (d.2.getD ((0:Int).toNat) (0:Int)) (-1:Int))/\ah (x:Int)/\gI d.1 (kd (ae d.1) d.2 (c8 (ae d.1) d.2 x) x x_1) (cD d.1 (d.2.getD (Int.toNat ((x_1:Int)+(1:Int))) (0:Int)) (List.getD (c8 (ae d.1) d.2 x) (Int.toNat (i64.wrap ((x:Int)-((x_1:Int)+(1:Int))))) (0:Int)))=kd (ae d.1) d.2 (c8 (ae d.1) d.2 x) x x'/\i64.wrap ((x_1:Int)+(1:Int)+(1:Int))=(x':Int)+(1:Int))/\ah (c8 (ae d.1) d.2 x)))/\(decide ((x_1:Int)+(1:Int)<=(x:Int))=false->True/\(Ty.wf ai (cD d.1 (kd (ae d.1) d.2 (c8 (ae d.1) d.2 x) x x_1) (bk d.1 (d.2.getD ((0:Int).toNat) (0:Int)) (-1:Int)))->(List.length (c8 (ae d.1) d.2 x)+List.length [cD d.1 (kd (ae d.1) d.2 (c8 (ae d.1) d.2 x) x x_1) (bk d.1 (d.2.getD ((0:Int).toNat) (0:Int)) (-1:Int))])*(8:Nat)<=(140737488355328:Nat)/\∃(x':Nat),x'<=d.2.length/\d.2.length-x'<d.2.length-x/\(d.1=d.1/\d.2=d.2/\an/\ah (bk d.1 (d.2.getD ((0:Int).toNat) (0:Int)) (-1:Int))/\i64.wrap ((x:Int)+(1:Int))=(x':Int))/\c8 (ae d.1) d.2 x++[cD d.1 (kd (ae d.1) d.2 (c8 (ae d.1) d.2 x) x x_1) (bk d.1 (d.2.getD ((0:Int).toNat) (0:Int)) (-1:Int))]=c8 (ae d.1) d.2 x')))/\(decide ((x:Int)=(0:Int))=false->(0:Nat)<=x/\((d.1=d.1/\d.2=d.2/\an/\ah (bk d.1 (d.2.getD ((0:Int).toNat) (0:Int)) (-1:Int))/\ah (x:Int)/\(0:Int)=kd (ae d.1) d.2 (c8 (ae d.1) d.2 x) x (0:Nat)/\(1:Int)=(↑(0:Nat):Int)+(1:Int))/\ah (c8 (ae d.1) d.2 x))/\∀(x_1:Nat),x_1<=x->(decide ((x_1:Int)+(1:Int)<=(x:Int))=true->((0:Int)<=(x_1:Int)+(1:Int)/\(x_1:Int)+(1:Int)<(d.2.length:Int))/\((0:Int)<=i64.wrap ((x:Int)-((x_1:Int)+(1:Int)))/\i64.wrap ((x:Int)-((x_1:Int)+(1:Int)))<(↑(List.length (c8 (ae d.1) d.2 x)):Int))/\True/\True/\(Ty.wf ai (gI d.1 (kd (ae d.1) d.2 (c8 (ae d.1) d.2 x) x x_1) (cD d.1 (d.2.getD (Int.toNat ((x_1:Int)+(1:Int))) (0:Int)) (List.getD (c8 (ae d.1) d.2 x) (Int.toNat (i64.wrap ((x:Int)-((x_1:Int)+(1:Int))))) (0:Int))))->Ty.wf ai (cD d.1 (d.2.getD (Int.toNat ((x_1:Int)+(1:Int))) (0:Int)) (List.getD (c8 (ae d.1) d.2 x) (Int.toNat (i64.wrap ((x:Int)-((x_1:Int)+(1:Int))))) (0:Int)))->∃(x':Nat),x'<=x/\x-x'<x-x_1/\(d.1=d.1/\d.2=d.2/\an/\ah (bk d.1 (d.2.getD ((0:Int).toNat) (0:Int)) (-1:Int))/\ah (x:Int)/\gI d.1 (kd (ae d.1) d.2 (c8 (ae d.1) d.2 x) x x_1) (cD d.1 (d.2.getD (Int.toNat ((x_1:Int)+(1:Int))) (0:Int)) (List.getD (c8 (ae d.1) d.2 x) (Int.toNat (i64.wrap ((x:Int)-((x_1:Int)+(1:Int))))) (0:Int)))=kd (ae d.1) d.2 (c8 (ae d.1) d.2 x) x x'/\i64.wrap ((x_1:Int)+(1:Int)+(1:Int))=(x':Int)+(1:Int))/\ah (c8 (ae d.1) d.2 x)))/\(decide ((x_1:Int)+(1:Int)<=(x:Int))=false->True/\(Ty.wf ai (cD d.1 (kd (ae d.1) d.2 (c8 (ae d.1) d.2 x) x x_1) (bk d.1 (d.2.getD ((0:Int).toNat) (0:Int)) (-1:Int)))->(List.length (c8 (ae d.1) d.2 x)+List.length [cD d.1 (kd (ae d.1) d.2 (c8 (ae d.1) d.2 x) x x_1) (bk d.1 (d.2.getD ((0:Int).toNat) (0:Int)) (-1:Int))])*(8:Nat)<=(140737488355328:Nat)/\∃(x':Nat),x'<=d.2.length/\d.2.length-x'<d.2.length-x/\(d.1=d.1/\d.2=d.2/\an/\ah (bk d.1 (d.2.getD ((0:Int).toNat) (0:Int)) (-1:Int))/\i64.wrap ((x:Int)+(1:Int))=(x':Int))/\c8 (ae d.1) d.2 x++[cD d.1 (kd (ae d.1) d.2 (c8 (ae d.1) d.2 x) x x_1) (bk d.1 (d.2.getD ((0:Int).toNat) (0:Int)) (-1:Int))]=c8 (ae d.1) d.2 x'))))/\(decide ((x:Int)<(d.2.length:Int))=false->(c8 (ae d.1) d.2 x,true)=dU d.1 d.2)))):=by
  intro (d:Int×List Int) hw hp
  obtain⟨f,a⟩:=d
  simp only[exists_const,forall_const,decide_eq_true_eq,decide_eq_false_iff_not,beq_iff_eq,sxS]
  refine⟨fun h=>(O9 (by simp[h])).symm,fun h=>?_⟩
  obtain⟨h1,h2,hm,he⟩:=Su h
  have hq:=(cH hm).1
  refine⟨⟨by omega,by omega⟩,fun h0=>(O9 (fun hh=>hh.2 h0)).symm,fun h0=>⟨⟨by omega,by omega⟩,fun _=>?_⟩⟩
  replace h0:a.getD 0 0≠0:=h0
  have hz:bk f (a.getD (Int.toNat 0) 0) (-1)=hD (ae f) (a.getD 0 0):=xy hm (by
   have hh:=vO hq he 0
   unfold El at hh
   rw[show (Int.toNat 0)=0 from rfl,Int.emod_eq_of_lt hh.1 hh.2];exact h0)
  refine⟨by omega,⟨rfl,rfl⟩,fun x hx=>?_⟩
  have body:∀ x_1:Nat,x_1<=x->x<a.length->((x_1:Int)+1<=(x:Int) →
   (0<=(x_1:Int)+1/\(x_1:Int)+1<(a.length:Int))/\(0<=i64.wrap ((x:Int)-((x_1:Int)+1))/\i64.wrap ((x:Int)-((x_1:Int)+1))<((c8 (ae f) a x).length:Int)) ∧
   (ai.wf (gI f (kd (ae f) a (c8 (ae f) a x) x x_1) (cD f (a.getD ((x_1:Int)+1).toNat 0) ((c8 (ae f) a x).getD (i64.wrap ((x:Int)-((x_1:Int)+1))).toNat 0))) →
    ai.wf (cD f (a.getD ((x_1:Int)+1).toNat 0) ((c8 (ae f) a x).getD (i64.wrap ((x:Int)-((x_1:Int)+1))).toNat 0)) →
    ∃ x',x'<=x/\x-x'<x-x_1/\gI f (kd (ae f) a (c8 (ae f) a x) x x_1) (cD f (a.getD ((x_1:Int)+1).toNat 0) ((c8 (ae f) a x).getD (i64.wrap ((x:Int)-((x_1:Int)+1))).toNat 0))=kd (ae f) a (c8 (ae f) a x) x x'/\i64.wrap ((x_1:Int)+1+1)=(x':Int)+1)) ∧
   (¬(x_1:Int)+1<=(x:Int)->ai.wf (cD f (kd (ae f) a (c8 (ae f) a x) x x_1) (bk f (a.getD (Int.toNat 0) 0) (-1))) →
    ((c8 (ae f) a x).length+[cD f (kd (ae f) a (c8 (ae f) a x) x x_1) (bk f (a.getD (Int.toNat 0) 0) (-1))].length)*8<=140737488355328 ∧
    ∃ x',x'<=a.length/\a.length-x'<a.length-x/\i64.wrap ((x:Int)+1)=(x':Int) ∧
     c8 (ae f) a x++[cD f (kd (ae f) a (c8 (ae f) a x) x x_1) (bk f (a.getD (Int.toNat 0) 0) (-1))]=c8 (ae f) a x'):=by
   intro y hy Io
   have wj:y+1<=x->i64.wrap ((x:Int)-((y:Int)+1))=((x-(y+1):Nat):Int):=fun _=>by rw[wrap_small (by omega)];omega
   rw[B3]
   refine⟨fun h3=>?_,fun h3 _=>?_⟩
   ·rw[wj (by omega),Int.toNat_natCast,show ((y:Int)+1).toNat=y+1 by omega]
    refine⟨⟨by omega,by omega⟩,⟨by omega,by omega⟩,fun _ _=>⟨y+1,by omega,by omega,?_,?_⟩⟩
    ·rw[tM hm,jn hm];rfl
    ·rw[wrap_small (by omega)];omega
   ·rw[hz,jn hm,show y=x by omega]
    exact⟨by simp only[List.length_cons,List.length_nil];omega,x+1,by omega,by omega,bp (by omega),rfl⟩
  refine⟨fun h3=>⟨fun h4=>⟨by omega,⟨?_,rfl⟩,fun y hy=>body y hy (by omega)⟩,fun h4=>⟨by omega,⟨?_,rfl⟩,fun y hy=>body y hy (by omega)⟩⟩,fun h3=>?_⟩
  ·show _=if _ then _ else _
   rw[if_pos (by omega)]
  ·show _=if _ then _ else _
   rw[if_neg (by omega)]
  ·rw[Sv h h0,show x=a.length by omega]
end Go.SF
