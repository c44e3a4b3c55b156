/- What is owed of the code of shared functions. No condition. -/
import Derived.Test.YtobmiihdfklmaaaGreatSxC
set_option linter.unusedVariables false
set_option linter.unusedSimpArgs false
open Go.IntKind (i64 u8)
namespace Go.SF
open Go.SX Go
theorem Wi :
 ∀(d:Ty.den ai×cj [ai,ai]),Ty.wf ai d.1/\Ty.wf ai d.2.1/\Ty.wf ai d.2.2->True->(decide (d.2.1<=d.1)=true->decide (d.1<=d.2.2)=(decide (d.2.1<=d.1)&&decide (d.1<=d.2.2)))/\(decide (d.2.1<=d.1)=false->false=(decide (d.2.1<=d.1)&&decide (d.1<=d.2.2))):=by
  intro d _ _
  obtain⟨a,b,c⟩:=d
  grind
set_option maxRecDepth 10000
theorem Tf :
 ∀(d:List Int×List Int),Ty.wf (Ty.sl ai) d.1/\Ty.wf (Ty.sl ai) d.2->True->((!decide ((d.1.length:Int)=(d.2.length:Int)))=true->false=decide (d.1=d.2))/\((!decide ((d.1.length:Int)=(d.2.length:Int)))=false->((0:Nat)<=d.1.length/\d.1.length=d.2.length/\List.take (0:Nat) d.1=List.take (0:Nat) d.2)/\(d.1=d.1/\d.2=d.2/\(0:Int)=(↑(0:Nat):Int))/\∀(x:Nat),x<=d.1.length/\d.1.length=d.2.length/\List.take x d.1=List.take x d.2->(decide ((x:Int)<(d.1.length:Int))=true->((0:Int)<=(x:Int)/\(x:Int)<(d.1.length:Int))/\((0:Int)<=(x:Int)/\(x:Int)<(d.2.length:Int))/\((!decide (d.1.getD ((x:Int).toNat) (0:Int)=d.2.getD ((x:Int).toNat) (0:Int)))=true->false=decide (d.1=d.2))/\((!decide (d.1.getD ((x:Int).toNat) (0:Int)=d.2.getD ((x:Int).toNat) (0:Int)))=false->∃(x':Nat),(x'<=d.1.length/\d.1.length=d.2.length/\List.take x' d.1=List.take x' d.2)/\d.1.length-x'<d.1.length-x/\d.1=d.1/\d.2=d.2/\i64.wrap ((x:Int)+(1:Int))=(x':Int)))/\(decide ((x:Int)<(d.1.length:Int))=false->true=decide (d.1=d.2))):=by
  intro (d:List Int×List Int) hw hp
  obtain⟨xs,ys⟩:=d
  have hl:xs.length<=9223372036854775807:=hw.1.1
  simp only[exists_const,forall_const,decide_eq_true_eq,decide_eq_false_iff_not,beq_iff_eq,sxS]
  refine⟨fun h=>?_,fun h=>⟨⟨by omega,by omega,rfl⟩,rfl,fun x ⟨h1,h2,h0⟩=>⟨fun h3=>?_,fun h3=>?_⟩⟩⟩
  ·exact (decide_eq_false (fun e=>h (by rw[e]))).symm
  ·have h4:x<xs.length:=by omega
   obtain⟨t1,t2⟩:=zY (z:=(0:Int)) h2 h4 h0
   rw[aG (by omega)]
   exact⟨⟨by omega,by omega⟩,⟨by omega,by omega⟩,fun h5=>(decide_eq_false (fun e=>h5 (t2 e))).symm,fun h5=>⟨x+1,⟨by omega,h2,t1.2 h5⟩,by omega,rfl⟩⟩
  ·have h4:x=xs.length:=by omega
   subst h4
   have:xs=ys:=by rw[List.take_length,h2,List.take_length] at h0;exact h0
   exact (decide_eq_true this).symm
set_option maxRecDepth 10000
theorem im{f:Int}(h:0<=f/\f<9):f=0\/f=1\/f=2\/f=3\/f=4\/f=5\/f=6\/f=7\/f=8:=by omega
theorem pU{f:Int}(h:¬(0<=f/\f<9)):ar f=((0,0,0),false):=by unfold ar;rw[if_neg h]
theorem oL{f:Int}(h:¬(0<=f/\f<9)):af f=0:=by unfold af;rw[pU h]
theorem XN{f:Int}(h:¬(0<=f/\f<9)):dP f = -1:=by unfold dP;rw[pU h];rfl
theorem kr{f:Int}(h:0<=f/\f<9):17<=af f/\af f<=1004535809/\4<=dP f/\dP f<=26:=by
 rcases im h with rfl|rfl|rfl|rfl|rfl|rfl|rfl|rfl|rfl<;>decide
theorem fU{f:Int}:(ar f).2=true↔0<=f/\f<9:=by
 unfold ar
 split
 case isTrue h=>exact⟨fun _=>h,fun _=>rfl⟩
 case isFalse h=>exact⟨fun e=>(by cases e),fun e=>absurd e h⟩
theorem S0:∀ f:Fin 9,∀ x:Fin 27,(x.val:Int)<=dP (f.val:Int)->(((af (f.val:Int)-1)/2^x.val).tmod 2=0↔(x.val:Int)<dP (f.val:Int)):=by decide +kernel
theorem Q_{f:Int}(h:0<=f/\f<9){x:Nat}(hx:(x:Int)<=dP f):((af f-1)/2^x).tmod 2=0↔(x:Int)<dP f:=by
 have hb:=kr h
 have:=S0 ⟨f.toNat,by omega⟩ ⟨x,by omega⟩
 simp only[Int.toNat_of_nonneg h.1] at this
 exact this hx
theorem WL{m:Int}(h0:0<=m)(x:Nat):(m/2^x).tdiv 2=m/2^(x+1):=by
 have hp:(0:Int)<=2^x:=Int.le_of_lt (Int.pow_pos (by omega))
 rw[Int.tdiv_eq_ediv_of_nonneg (Int.ediv_nonneg h0 hp),Int.ediv_ediv_of_nonneg hp,Int.pow_succ]
theorem MO(n:Int):∀(m k:Nat),10-m<=k->m<=10->k<=9->n=2^k->(∀ j,10-m<=j->j<k->n≠2^j)->r6 n m=(k:Int)
 | 0,k,h1,_,h2,_,_=>by omega
 | m+1,k,h1,hm,h2,h3,h4=>by
   unfold r6
   by_cases e:k=9-m
   ·subst e
    rw[if_pos h3]
   ·rw[if_neg (h4 (9-m) (by omega) (by omega))]
    exact MO n m k (by omega) (by omega) h2 h3 (fun j a b=>h4 j (by omega) b)
theorem Ga(n:Int):∀(m:Nat),m<=10->(∀ j,10-m<=j->j<10->n≠2^j)->r6 n m = -1
 | 0,_,_=>rfl
 | m+1,hm,h=>by
   unfold r6
   rw[if_neg (h (9-m) (by omega) (by omega))]
   exact Ga n m (by omega) (fun j a b=>h j (by omega) b)
theorem U2{n:Int}{k:Nat}(h:sS n k)(hk:k<=9)(e:n=2^k):aE n=(k:Int):=MO n 10 k (by omega) (by omega) hk e (fun j _ b=>h.2 j b)
theorem MQ{n:Int}{k:Nat}(h:sS n k)(hk:¬k<=9):aE n = -1:=Ga n 10 (by omega) (fun j _ b=>h.2 j (by omega))
theorem MP{n:Int}{k:Nat}(h:sS n k)(hk:k<=9)(e:¬n=2^k):sS n (k+1):=by
 refine⟨by omega,fun j hj=>?_⟩
 by_cases ej:j=k
 ·subst ej;exact e
 ·exact h.2 j (by omega)
theorem zo{x:Nat}(h:x<=62):dq .i64 1 (x:Int)=2^x:=by
 unfold dq
 rw[Int.toNat_natCast,show min x i64.bits=x by show min x 64=x;omega,Int.one_mul]
 have h1:(2:Nat)^x<=2^62:=Nat.pow_le_pow_right (by omega) h
 have h5:((2^x:Nat):Int)=(2:Int)^x:=Int.natCast_pow 2 x
 have h6:((2^x:Nat):Int)<=4611686018427387904:=by
  have h3:(2:Nat)^62=4611686018427387904:=by decide
  rw[h3] at h1
  exact Int.ofNat_le.2 h1
 have h7:0<=((2^x:Nat):Int):=Int.natCast_nonneg _
 refine wrap_small ?_
 rw[<-h5]
 generalize ((2^x:Nat):Int)=z at *
 omega
theorem Cw:∀ x:Fin 64,IntKind.u64.wrap (x.val:Int)=(x.val:Int):=by decide +kernel
theorem rH{α:Type}{xs:List α}{x:Nat}{z:α}(h:x<xs.length):xs.take x++[xs.getD x z]=xs.take (x+1):=by
 rw[List.take_add_one,List.getElem?_eq_getElem h,List.getD_eq_getElem?_getD,List.getElem?_eq_getElem h];rfl
theorem FA{p:Int}{xs:List Int}{x:Nat}(hx:x<xs.length)(h:aq p (xs.take x)=true)(h1:0<=xs.getD x 0/\xs.getD x 0<=p-1):aq p (xs.take (x+1))=true:=by
 unfold aq at *
 rw[decide_eq_true_eq] at *
 rw[<-rH (z:=(0:Int)) hx]
 intro y hy
 rcases List.mem_append.1 hy with hy|hy
 ·exact h y hy
 ·rw[List.mem_singleton.1 hy];exact h1
theorem Ec{p:Int}{xs:List Int}{x:Nat}(hx:x<xs.length)(h1:¬(0<=xs.getD x 0/\xs.getD x 0<=p-1)):false=aq p xs:=by
 unfold aq
 refine (decide_eq_false (fun h=>h1 ?_)).symm
 rw[List.getD_eq_getElem?_getD,List.getElem?_eq_getElem hx]
 exact h _ (List.getElem_mem hx)
theorem IZ{p:Int}{xs:List Int}{x:Nat}(h:EY p xs x)(hx:¬x<xs.length):true=aq p xs:=by
 have h2:=h.2
 rw[List.take_of_length_le (by omega)] at h2
 exact h2.symm
theorem Pv :
 ∀(d:Int),Ty.wf ai d->True->(List.length [((17:Int),(3:Int),(4:Int)),((97:Int),(5:Int),(5:Int)),((193:Int),(5:Int),(6:Int)),((257:Int),(3:Int),(8:Int)),((7681:Int),(17:Int),(9:Int)),((12289:Int),(11:Int),(12:Int)),((998244353:Int),(3:Int),(23:Int)),((469762049:Int),(3:Int),(26:Int)),((1004535809:Int),(3:Int),(21:Int))]=List.length (List.replicate (9:Nat) ((0:Int),(0:Int),(0:Int)))/\List.length [((17:Int),(3:Int),(4:Int)),((97:Int),(5:Int),(5:Int)),((193:Int),(5:Int),(6:Int)),((257:Int),(3:Int),(8:Int)),((7681:Int),(17:Int),(9:Int)),((12289:Int),(11:Int),(12:Int)),((998244353:Int),(3:Int),(23:Int)),((469762049:Int),(3:Int),(26:Int)),((1004535809:Int),(3:Int),(21:Int))]*(3:Nat)=(27:Nat))/\(decide (d<(0:Int))=true->(((0:Int),(0:Int),(0:Int)),false)=ar d)/\(decide (d<(0:Int))=false->(decide ((9:Int)<=d)=true->(((0:Int),(0:Int),(0:Int)),false)=ar d)/\(decide ((9:Int)<=d)=false->((0:Int)<=d/\d<(↑(9:Nat):Int)/\(0:Nat)+(d.toNat+(1:Nat))*(3/3:Nat)<=List.length [((17:Int),(3:Int),(4:Int)),((97:Int),(5:Int),(5:Int)),((193:Int),(5:Int),(6:Int)),((257:Int),(3:Int),(8:Int)),((7681:Int),(17:Int),(9:Int)),((12289:Int),(11:Int),(12:Int)),((998244353:Int),(3:Int),(23:Int)),((469762049:Int),(3:Int),(26:Int)),((1004535809:Int),(3:Int),(21:Int))])/\((Prod.fst (List.getD [((17:Int),(3:Int),(4:Int)),((97:Int),(5:Int),(5:Int)),((193:Int),(5:Int),(6:Int)),((257:Int),(3:Int),(8:Int)),((7681:Int),(17:Int),(9:Int)),((12289:Int),(11:Int),(12:Int)),((998244353:Int),(3:Int),(23:Int)),((469762049:Int),(3:Int),(26:Int)),((1004535809:Int),(3:Int),(21:Int))] ((0:Nat)+d.toNat*(3/3:Nat)) ((0:Int),(0:Int),(0:Int))),(List.getD [((17:Int),(3:Int),(4:Int)),((97:Int),(5:Int),(5:Int)),((193:Int),(5:Int),(6:Int)),((257:Int),(3:Int),(8:Int)),((7681:Int),(17:Int),(9:Int)),((12289:Int),(11:Int),(12:Int)),((998244353:Int),(3:Int),(23:Int)),((469762049:Int),(3:Int),(26:Int)),((1004535809:Int),(3:Int),(21:Int))] ((0:Nat)+d.toNat*(3/3:Nat)) ((0:Int),(0:Int),(0:Int))).2.1,(List.getD [((17:Int),(3:Int),(4:Int)),((97:Int),(5:Int),(5:Int)),((193:Int),(5:Int),(6:Int)),((257:Int),(3:Int),(8:Int)),((7681:Int),(17:Int),(9:Int)),((12289:Int),(11:Int),(12:Int)),((998244353:Int),(3:Int),(23:Int)),((469762049:Int),(3:Int),(26:Int)),((1004535809:Int),(3:Int),(21:Int))] ((0:Nat)+d.toNat*(3/3:Nat)) ((0:Int),(0:Int),(0:Int))).2.2),true)=ar d)):=by
  intro (f:Int) _ _
  simp only[exists_const,forall_const,decide_eq_true_eq,decide_eq_false_iff_not,beq_iff_eq,sxS]
  refine⟨⟨rfl,rfl⟩,fun h=>(pU (by omega)).symm,fun h=>⟨fun h1=>(pU (by omega)).symm,fun h1=>⟨⟨by omega,by omega,?_⟩,?_⟩⟩⟩
  ·simp only[List.length_cons,List.length_nil];omega
  ·unfold ar LJ
   rw[if_pos (by omega),show 0+f.toNat*(3/3)=f.toNat by omega]
theorem PX :
 ∀(d:Int),Ty.wf ai d->True->(decide (d=(0:Int))=true->(17:Int)=af d)/\(decide (d=(0:Int))=false->(decide (d=(1:Int))=true->(97:Int)=af d)/\(decide (d=(1:Int))=false->(decide (d=(2:Int))=true->(193:Int)=af d)/\(decide (d=(2:Int))=false->(decide (d=(3:Int))=true->(257:Int)=af d)/\(decide (d=(3:Int))=false->(decide (d=(4:Int))=true->(7681:Int)=af d)/\(decide (d=(4:Int))=false->(decide (d=(5:Int))=true->(12289:Int)=af d)/\(decide (d=(5:Int))=false->(decide (d=(6:Int))=true->(998244353:Int)=af d)/\(decide (d=(6:Int))=false->(decide (d=(7:Int))=true->(469762049:Int)=af d)/\(decide (d=(7:Int))=false->(decide (d=(8:Int))=true->(1004535809:Int)=af d)/\(decide (d=(8:Int))=false->(0:Int)=af d))))))))):=by
  intro (f:Int) _ _
  simp only[exists_const,forall_const,decide_eq_true_eq,decide_eq_false_iff_not,beq_iff_eq,sxS]
  by_cases h:0<=f/\f<9
  ·rcases im h with rfl|rfl|rfl|rfl|rfl|rfl|rfl|rfl|rfl<;>decide
  ·rw[oL h];omega
theorem OE :
 ∀(d:Int),Ty.wf ai d->True->True/\(Ty.wf ai (af d)->(decide (af d=(0:Int))=true->(-1:Int)=dP d)/\(decide (af d=(0:Int))=false->(↑(0:Nat):Int)<=dP d/\(d=d/\ae (0:Int)/\ae (af d)/\(0:Int)=(↑(0:Nat):Int)/\i64.wrap (af d-(1:Int))=(af d-(1:Int))/(2:Int)^(0:Nat))/\∀(x:Nat),(x:Int)<=dP d->(2:Int)≠(0:Int)/\(decide (Int.tmod ((af d-(1:Int))/(2:Int)^x) (2:Int)=(0:Int))=true->(2:Int)≠(0:Int)/\∃(x':Nat),(x':Int)<=dP d/\Int.toNat (dP d)-x'<Int.toNat (dP d)-x/\d=d/\ae (0:Int)/\ae (af d)/\i64.wrap ((x:Int)+(1:Int))=(x':Int)/\i64.wrap (Int.tdiv ((af d-(1:Int))/(2:Int)^x) (2:Int))=(af d-(1:Int))/(2:Int)^x')/\(decide (Int.tmod ((af d-(1:Int))/(2:Int)^x) (2:Int)=(0:Int))=false->(x:Int)=dP d))):=by
  intro (f:Int) _ _
  simp only[exists_const,forall_const,decide_eq_true_eq,decide_eq_false_iff_not,beq_iff_eq,sxS]
  intro _
  by_cases h:0<=f/\f<9
  ·have hb:=kr h
   have AB:(0:Int)<=af f-1:=by omega
   refine⟨fun e=>by omega,fun _=>⟨by omega,⟨rfl,by rw[wrap_small (by omega)];simp⟩,fun x hx=>⟨by omega,fun e=>?_,fun e=>?_⟩⟩⟩
   ·have h1:=(Q_ h hx).1 e
    refine⟨by omega,x+1,by omega,by omega,by rw[wrap_small (by omega)];omega,?_⟩
    rw[WL AB]
    have hp:(0:Int)<=2^(x+1):=Int.le_of_lt (Int.pow_pos (by omega))
    have h2:=Int.ediv_nonneg AB hp
    have h3:=Int.ediv_le_self (2^(x+1)) AB
    exact wrap_small (by omega)
   ·have h1:¬(x:Int)<dP f:=fun aT=>e ((Q_ h hx).2 aT)
    omega
  ·have h1:=oL h
   have h2:=XN h
   exact⟨fun _=>h2.symm,fun e=>absurd h1 e⟩
theorem Wg :
 ∀(d:Int),Ty.wf ai d->True->sS d (0:Nat)/\(d=d/\(0:Int)=(↑(0:Nat):Int))/\∀(x:Nat),sS d x->(decide ((x:Int)<=(9:Int))=true->(0:Int)<=IntKind.wrap IntKind.u64 (x:Int)/\(decide (d=dq i64 (1:Int) (IntKind.wrap IntKind.u64 (x:Int)))=true->(x:Int)=aE d)/\(decide (d=dq i64 (1:Int) (IntKind.wrap IntKind.u64 (x:Int)))=false->∃(x':Nat),sS d x'/\(10:Nat)-x'<(10:Nat)-x/\d=d/\i64.wrap ((x:Int)+(1:Int))=(x':Int)))/\(decide ((x:Int)<=(9:Int))=false->(-1:Int)=aE d):=by
  intro (n:Int) _ _
  simp only[exists_const,forall_const,decide_eq_true_eq,decide_eq_false_iff_not,beq_iff_eq,sxS]
  refine⟨⟨by omega,fun j hj=>by omega⟩,rfl,fun x hx=>⟨fun h=>?_,fun h=>(MQ hx (by omega)).symm⟩⟩
  have h9:x<=9:=by omega
  have hw:IntKind.u64.wrap (x:Int)=(x:Int):=Cw ⟨x,by omega⟩
  rw[hw,zo (by omega)]
  exact⟨by omega,fun e=>(U2 hx h9 e).symm,fun e=>⟨x+1,MP hx h9 e,by omega,wrap_small (by omega)⟩⟩
theorem V9 :
 ∀(d:Int),Ty.wf ai d->True->sS d (0:Nat)/\(d=d/\(0:Int)=(↑(0:Nat):Int))/\∀(x:Nat),sS d x->(decide ((x:Int)<(10:Int))=true->(0:Int)<=(x:Int)/\(decide (d=dq i64 (1:Int) (x:Int))=true->(x:Int)=aE d)/\(decide (d=dq i64 (1:Int) (x:Int))=false->∃(x':Nat),sS d x'/\(10:Nat)-x'<(10:Nat)-x/\d=d/\i64.wrap ((x:Int)+(1:Int))=(x':Int)))/\(decide ((x:Int)<(10:Int))=false->(-1:Int)=aE d):=by
  intro (n:Int) _ _
  simp only[exists_const,forall_const,decide_eq_true_eq,decide_eq_false_iff_not,beq_iff_eq,sxS]
  refine⟨⟨by omega,fun j hj=>by omega⟩,rfl,fun x hx=>⟨fun h=>?_,fun h=>(MQ hx (by omega)).symm⟩⟩
  have h9:x<=9:=by omega
  rw[zo (by omega)]
  exact⟨by omega,fun e=>(U2 hx h9 e).symm,fun e=>⟨x+1,MP hx h9 e,by omega,wrap_small (by omega)⟩⟩
theorem G3 :
 ∀(d:Int×List Int),Ty.wf ai d.1/\Ty.wf aj d.2->True->True/\(Ty.wf ai (af d.1)->(decide (af d.1=(0:Int))=true->false=aC d.1 d.2)/\(decide (af d.1=(0:Int))=false->EY (af d.1) d.2 (0:Nat)/\(d.1=d.1/\d.2=d.2/\ae (af d.1)/\(0:Int)=(↑(0:Nat):Int))/\∀(x:Nat),EY (af d.1) d.2 x->(decide ((x:Int)<(d.2.length:Int))=true->((0:Int)<=(x:Int)/\(x:Int)<(d.2.length:Int))/\True/\((!(decide ((0:Int)<=d.2.getD ((x:Int).toNat) (0:Int))&&decide (d.2.getD ((x:Int).toNat) (0:Int)<=i64.wrap (af d.1-(1:Int)))))=true->false=aC d.1 d.2)/\((!(decide ((0:Int)<=d.2.getD ((x:Int).toNat) (0:Int))&&decide (d.2.getD ((x:Int).toNat) (0:Int)<=i64.wrap (af d.1-(1:Int)))))=false->∃(x':Nat),EY (af d.1) d.2 x'/\d.2.length-x'<d.2.length-x/\d.1=d.1/\d.2=d.2/\ae (af d.1)/\i64.wrap ((x:Int)+(1:Int))=(x':Int)))/\(decide ((x:Int)<(d.2.length:Int))=false->true=aC d.1 d.2))):=by
  intro (d:Int×List Int) hw _
  obtain⟨f,xs⟩:=d
  have hl:xs.length<=9223372036854775807:=hw.2.1
  simp only[exists_const,forall_const,decide_eq_true_eq,decide_eq_false_iff_not,beq_iff_eq,sxS]
  intro _
  have hb:af f=0\/(17<=af f/\af f<=1004535809):=by
   by_cases h:0<=f/\f<9
   ·have:=kr h;omega
   ·exact .inl (oL h)
  refine⟨fun e=>by unfold aC;rw[decide_eq_false (by simpa using e)];rfl,fun e=>?_⟩
  have hs:aC f xs=aq (af f) xs:=by unfold aC;rw[decide_eq_true e];rfl
  rw[hs,wrap_small (n:=af f-1) (by omega)]
  refine⟨⟨by omega,by simp[aq]⟩,rfl,fun x hx=>⟨fun h=>⟨⟨by omega,by omega⟩,fun h1=>?_,fun h1=>?_⟩,fun h=>IZ hx (by omega)⟩⟩
  ·refine Ec (x:=x) (by omega) (fun hh=>?_)
   rw[decide_eq_true hh.1,decide_eq_true hh.2] at h1
   cases h1
  ·simp only[Bool.and_eq_true,decide_eq_true_eq] at h1
   exact⟨x+1,⟨by omega,FA (by omega) hx.2 h1⟩,by omega,aG (by omega)⟩
theorem GX :
 ∀(d:(Int×Int×Int)×List Int),Ty.wf bW d.1/\Ty.wf aj d.2->True->EY d.1.1 d.2 (0:Nat)/\(((ae d.1.1/\ae d.1.2.1/\ae d.1.2.2)/\d.2=d.2/\d.2=d.2/\ae (d.2.length:Int)/\(0:Int)=(↑(0:Nat):Int))/\ae d.1.1/\ae d.1.2.1/\ae d.1.2.2)/\∀(x:Nat),EY d.1.1 d.2 x->(decide ((x:Int)<(d.2.length:Int))=true->((0:Int)<=(x:Int)/\(x:Int)<(d.2.length:Int))/\(decide (d.2.getD ((x:Int).toNat) (0:Int)<(0:Int))=true->false=aq d.1.1 d.2)/\(decide (d.2.getD ((x:Int).toNat) (0:Int)<(0:Int))=false->(decide (d.1.1<=d.2.getD ((x:Int).toNat) (0:Int))=true->false=aq d.1.1 d.2)/\(decide (d.1.1<=d.2.getD ((x:Int).toNat) (0:Int))=false->∃(x':Nat),EY d.1.1 d.2 x'/\d.2.length-x'<d.2.length-x/\((ae d.1.1/\ae d.1.2.1/\ae d.1.2.2)/\d.2=d.2/\d.2=d.2/\ae (d.2.length:Int)/\i64.wrap ((x:Int)+(1:Int))=(x':Int))/\ae d.1.1/\ae d.1.2.1/\ae d.1.2.2)))/\(decide ((x:Int)<(d.2.length:Int))=false->true=aq d.1.1 d.2):=by
  intro (d:Fd×List Int) hw _
  obtain⟨⟨p,g,t⟩,xs⟩:=d
  have hl:xs.length<=9223372036854775807:=hw.2.1
  simp only[exists_const,forall_const,decide_eq_true_eq,decide_eq_false_iff_not,beq_iff_eq,sxS]
  refine⟨⟨by omega,by simp[aq]⟩,rfl,fun x hx=>⟨fun h=>⟨⟨by omega,by omega⟩,fun h1=>Ec (x:=x) (by omega) (fun hh=>by omega),fun h1=>⟨fun h2=>Ec (x:=x) (by omega) (fun hh=>by omega),fun h2=>?_⟩⟩,fun h=>IZ hx (by omega)⟩⟩
  exact⟨x+1,⟨by omega,FA (by omega) hx.2 (by omega)⟩,by omega,aG (by omega)⟩
theorem OF :
 ∀(d:Int×List Int),Ty.wf ai d.1/\Ty.wf aj d.2->True->True/\(Ty.wf ai (aE (d.2.length:Int))->(decide ((0:Int)<=aE (d.2.length:Int))=true->True/\(Ty.wf ai (dP d.1)->(decide (aE (d.2.length:Int)<=dP d.1)=true->True/\aC d.1 d.2=aH d.1 d.2)/\(decide (aE (d.2.length:Int)<=dP d.1)=false->false=aH d.1 d.2)))/\(decide ((0:Int)<=aE (d.2.length:Int))=false->false=aH d.1 d.2)):=by
  intro (d:Int×List Int) hw _
  obtain⟨f,xs⟩:=d
  simp only[exists_const,forall_const,decide_eq_true_eq,decide_eq_false_iff_not,beq_iff_eq,sxS]
  intro _
  unfold aH
  refine⟨fun h _=>⟨fun h1=>by rw[decide_eq_true h,decide_eq_true h1];rfl,fun h1=>by rw[decide_eq_false h1,Bool.and_false];rfl⟩,fun h=>by rw[decide_eq_false h];rfl⟩
theorem G1 :
 ∀(d:Int×List (List Int)),Ty.wf ai d.1/\Ty.wf (Ty.sl aj) d.2->d.2.length=(1:Nat)->True/\(Ty.wf bW (ar d.1).1/\Ty.wf Ty.bool (ar d.1).2->((!(ar d.1).2)=true->(((0:Int),(0:Int),(0:Int)),false)=dg d.1 (d.2.getD (0:Nat) []))/\((!(ar d.1).2)=false->((0:Nat)<=(1:Nat)/\((0:Nat)=(1:Nat)->aH d.1 (d.2.getD (0:Nat) [])=true))/\((d.1=d.1/\d.2=d.2/\ae ((ar d.1).2)/\d.2=d.2/\ae (d.2.length:Int)/\(0:Int)=(↑(0:Nat):Int))/\(ae (0:Int)/\ae (0:Int)/\ae (0:Int))/\ae ((ar d.1).1.1)/\ae ((ar d.1).1.2.1)/\ae ((ar d.1).1.2.2))/\∀(x:Nat),x<=(1:Nat)/\(x=(1:Nat)->aH d.1 (d.2.getD (0:Nat) [])=true)->(decide ((x:Int)<(d.2.length:Int))=true->((0:Int)<=(x:Int)/\(x:Int)<(d.2.length:Int))/\True/\(Ty.wf ai (aE (↑(List.length (d.2.getD ((x:Int).toNat) [])):Int))->(decide (aE (↑(List.length (d.2.getD ((x:Int).toNat) [])):Int)<(0:Int))=true->(((0:Int),(0:Int),(0:Int)),false)=dg d.1 (d.2.getD (0:Nat) []))/\(decide (aE (↑(List.length (d.2.getD ((x:Int).toNat) [])):Int)<(0:Int))=false->(decide (Prod.snd (ar d.1).1.2<aE (↑(List.length (d.2.getD ((x:Int).toNat) [])):Int))=true->(((0:Int),(0:Int),(0:Int)),false)=dg d.1 (d.2.getD (0:Nat) []))/\(decide (Prod.snd (ar d.1).1.2<aE (↑(List.length (d.2.getD ((x:Int).toNat) [])):Int))=false->True/\((!aq (ar d.1).1.1 (d.2.getD ((x:Int).toNat) []))=true->(((0:Int),(0:Int),(0:Int)),false)=dg d.1 (d.2.getD (0:Nat) []))/\((!aq (ar d.1).1.1 (d.2.getD ((x:Int).toNat) []))=false->((0:Int)<=(0:Int)/\(0:Int)<(d.2.length:Int))/\((!decide ((↑(List.length (d.2.getD ((x:Int).toNat) [])):Int)=(↑(List.length (d.2.getD ((0:Int).toNat) [])):Int)))=true->(((0:Int),(0:Int),(0:Int)),false)=dg d.1 (d.2.getD (0:Nat) []))/\((!decide ((↑(List.length (d.2.getD ((x:Int).toNat) [])):Int)=(↑(List.length (d.2.getD ((0:Int).toNat) [])):Int)))=false->∃(x':Nat),(x'<=(1:Nat)/\(x'=(1:Nat)->aH d.1 (d.2.getD (0:Nat) [])=true))/\(1:Nat)-x'<(1:Nat)-x/\(d.1=d.1/\d.2=d.2/\ae ((ar d.1).2)/\d.2=d.2/\ae (d.2.length:Int)/\i64.wrap ((x:Int)+(1:Int))=(x':Int))/\(ae (0:Int)/\ae (0:Int)/\ae (0:Int))/\ae ((ar d.1).1.1)/\ae ((ar d.1).1.2.1)/\ae ((ar d.1).1.2.2)))))))/\(decide ((x:Int)<(d.2.length:Int))=false->((Prod.fst (ar d.1).1,(ar d.1).1.2.1,(ar d.1).1.2.2),true)=dg d.1 (d.2.getD (0:Nat) [])))):=by
  intro (d:Int×List (List Int)) hw hp
  obtain⟨f,vs⟩:=d
  replace hp:vs.length=1:=hp
  obtain⟨v,rfl⟩:∃ v,vs=[v]:=by
   match vs,hp with
   | [v],_=>exact⟨v,rfl⟩
  simp only[exists_const,forall_const,decide_eq_true_eq,decide_eq_false_iff_not,beq_iff_eq,sxS]
  intro _
  refine⟨fun h=>?_,fun h=>?_⟩
  ·have hn:¬(0<=f/\f<9):=fun hh=>by rw[fU.2 hh] at h;cases h
   unfold dg aH aC
   rw[oL hn]
   simp
  ·have hf:=fU.1 h
   have hb:=kr hf
   have h2:dP f=(ar f).1.2.2:=by unfold dP;rw[if_pos h]
   have hs:aC f v=aq (ar f).1.1 v:=by unfold aC;rw[decide_eq_true (show af f≠0 by omega)];rfl
   have hv:aH f v=(decide (0<=aE v.length)&&decide (aE v.length<=(ar f).1.2.2)&&aq (ar f).1.1 v):=by unfold aH;rw[h2,hs]
   have lu:∀ b,aH f v=b->b=false->((0,0,0),false)=dg f v:=fun b h1 h3=>by unfold dg;rw[h1,h3];rfl
   refine⟨⟨by omega,fun h=>by omega⟩,rfl,fun x hx=>⟨fun aT=>?_,fun jV=>?_⟩⟩
   ·have Jl:x=0:=by simp at aT;omega
    subst Jl
    simp only[List.getD_cons_zero,List.length_cons,List.length_nil,Int.toNat_zero] at *
    refine⟨⟨by omega,by omega⟩,fun _=>⟨fun h3=>lu _ hv ?_,fun h3=>⟨fun h4=>lu _ hv ?_,fun h4=>⟨fun h5=>lu _ hv ?_,fun h5=>⟨⟨by omega,by omega⟩,fun h6=>absurd trivial h6,fun _=>⟨1,⟨by omega,fun _=>?_⟩,by omega,rfl⟩⟩⟩⟩⟩⟩
    ·rw[decide_eq_false (by omega)];rfl
    ·rw[decide_eq_false (show ¬aE v.length<=(ar f).1.2.2 by omega),Bool.and_false];rfl
    ·rw[h5,Bool.and_false]
    ·rw[hv,decide_eq_true (show 0<=aE v.length by omega),decide_eq_true (show aE v.length<=(ar f).1.2.2 by omega),h5];rfl
   ·have nz:x=1:=by simp at jV;omega
    have:=hx.2 nz
    simp only[List.getD_cons_zero] at this ⊢
    unfold dg
    rw[if_pos this]
set_option maxRecDepth 10000
theorem eB{α:Type}(h:Nat)(f:Nat->α):((List.range h).map f).length=h:=by simp
theorem aci{α:Type}{h:Nat}{f g:Nat->α}(e:∀ b,b<h->f b=g b):(List.range h).map f=(List.range h).map g :=
 List.map_congr_left (fun b hb=>e b (List.mem_range.1 hb))
theorem ZL{α:Type}{h c:Nat}{f g:Nat->α}{v:α}(hv:v=g c)(e:∀ b,b<h->b≠c->f b=g b):((List.range h).map f).set c v=(List.range h).map g:=by
 apply List.ext_getElem
 ·simp
 ·intro i h1 h2
  rw[eB] at h2
  rw[List.getElem_set]
  by_cases hc:c=i
  ·subst hc;rw[if_pos rfl,hv];simp
  ·rw[if_neg hc];simp only[List.getElem_map,List.getElem_range];exact e i h2 (fun hh=>hc hh.symm)
set_option maxRecDepth 10000
set_option maxRecDepth 10000
theorem ON(f:Int)(xs:List Int):(dg f xs).2=aH f xs:=by
 unfold dg
 split
 case isTrue h=>exact h.symm
 case isFalse h=>exact (Bool.not_eq_true _▸h:aH f xs=false).symm
theorem P0 :
 ∀(d:List Int),Ty.wf aj d->d.length<=(1048576:Nat)->(0:Nat)<=d.length/\((d=d/\aQ/\(0:Int)=(↑(0:Nat):Int))/\[]=List.take (0:Nat) d)/\∀(x:Nat),x<=d.length->(decide ((x:Int)<(d.length:Int))=true->((0:Int)<=(x:Int)/\(x:Int)<(d.length:Int))/\(List.length (List.take x d)+List.length [d.getD ((x:Int).toNat) (0:Int)])*(8:Nat)<=(140737488355328:Nat)/\∃(x':Nat),x'<=d.length/\d.length-x'<d.length-x/\(d=d/\aQ/\i64.wrap ((x:Int)+(1:Int))=(x':Int))/\List.take x d++[d.getD ((x:Int).toNat) (0:Int)]=List.take x' d)/\(decide ((x:Int)<(d.length:Int))=false->List.take x d=d):=by
  intro (d:List Int) hw (hp:d.length<=1048576)
  simp only[exists_const,forall_const,decide_eq_true_eq,decide_eq_false_iff_not,beq_iff_eq,sxS]
  refine⟨Nat.zero_le _,⟨rfl,rfl⟩,fun x hx=>⟨fun h=>⟨⟨by omega,by omega⟩,?_,x+1,by omega,by omega,aG (by omega),rH (by omega)⟩,fun h=>?_⟩⟩
  ·simp;omega
  ·rw[List.take_of_length_le (by omega)]
theorem Tg :
 ∀(d:List Int×Int),Ty.wf aj d.1/\Ty.wf ai d.2->True->(decide (i64.wrap (d.2-(d.1.length:Int))<(0:Int))=true->(-1:Int)=dG d.1.length d.2)/\(decide (i64.wrap (d.2-(d.1.length:Int))<(0:Int))=false->i64.wrap (d.2-(d.1.length:Int))=dG d.1.length d.2):=by
  intro d hw _
  obtain⟨xs,l⟩:=d
  simp only[dG,gg]
  grind
theorem acB{n:Nat}{l:Int}(h:dG n l<0):dG n l = -1:=by
 unfold dG at h ⊢
 by_cases e:gg (l-n)<0
 ·rw[if_pos e]
 ·rw[if_neg e] at h;exact absurd h e
theorem Th :
 ∀(d:List Int),Ty.wf aj d->d.length<=(1048576:Nat)->((0:Int)<=(d.length:Int)/\(d.length:Int)<=(d.length:Int)/\(d.length:Int)*(↑(8:Nat):Int)<=(140737488355328:Int))/\(0:Nat)<=d.length/\((d=d/\aQ/\(0:Int)=(↑(0:Nat):Int))/\List.replicate ((d.length:Int).toNat) (0:Int)=List.take (0:Nat) d++List.replicate (d.length-(0:Nat)) (0:Int))/\∀(x:Nat),x<=d.length->(decide ((x:Int)<(d.length:Int))=true->((0:Int)<=(x:Int)/\(x:Int)<(d.length:Int))/\((0:Int)<=(x:Int)/\(x:Int)<(↑(List.length (List.take x d++List.replicate (d.length-x) (0:Int))):Int))/\∃(x':Nat),x'<=d.length/\d.length-x'<d.length-x/\(d=d/\aQ/\i64.wrap ((x:Int)+(1:Int))=(x':Int))/\List.set (List.take x d++List.replicate (d.length-x) (0:Int)) ((x:Int).toNat) (d.getD ((x:Int).toNat) (0:Int))=List.take x' d++List.replicate (d.length-x') (0:Int))/\(decide ((x:Int)<(d.length:Int))=false->List.take x d++List.replicate (d.length-x) (0:Int)=d):=by
  intro (d:List Int) hw (hp:d.length<=1048576)
  simp only[exists_const,forall_const,decide_eq_true_eq,decide_eq_false_iff_not,beq_iff_eq,sxS]
  refine⟨⟨by omega,by omega,by omega⟩,by omega,⟨rfl,by simp⟩,fun x h1=>⟨fun h3=>⟨⟨by omega,by omega⟩,⟨by omega,?_⟩,x+1,by omega,by omega,aG (by omega),Bb d _ (by omega)⟩,fun h3=>?_⟩⟩
  ·simp;omega
  ·have h4:x=d.length:=by omega
   subst h4
   simp
set_option maxRecDepth 10000
theorem acC{a b:Int}(ha:0<=a/\a<=255)(hb:0<=b/\b<=255)(h:UInt8.ofNat a.toNat=UInt8.ofNat b.toNat):a=b:=by
 have:=congrArg UInt8.toNat h
 simp only[UInt8.toNat_ofNat'] at this
 omega
theorem M7:∀ {xs ys:List Int},(∀ x∈xs,0<=x/\x<=255)->(∀ y∈ys,0<=y/\y<=255)->(xs.map fun n=>UInt8.ofNat n.toNat)=(ys.map fun n=>UInt8.ofNat n.toNat)->xs=ys
 | [],[],_,_,_=>rfl
 | [],y::ys,_,_,h=>by cases h
 | x::xs,[],_,_,h=>by cases h
 | x::xs,y::ys,hx,hy,h=>by
   rw[List.map_cons,List.map_cons] at h
   injection h with h1 h2
   rw[acC (hx x (List.mem_cons_self ..)) (hy y (List.mem_cons_self ..)) h1,M7 (fun z hz=>hx z (List.mem_cons_of_mem _ hz)) (fun z hz=>hy z (List.mem_cons_of_mem _ hz)) h2]
theorem str_inj{xs ys:List Int}(hx:∀ x∈xs,0<=x/\x<=255)(hy:∀ y∈ys,0<=y/\y<=255):strOfNums xs=strOfNums ys↔xs=ys:=by
 constructor
 ·intro h
  have h1:=congrArg (fun s:ByteArray=>s.data.toList) h
  simp only[strOfNums_data] at h1
  exact M7 hx hy h1
 ·intro h;rw[h]
theorem EA{key:List Int}:∀ {es:List En} {k:Int},0<=k->(aL key es k<0↔∀ t,t<es.length->(es.getD t ([],0,[],[])).1≠key)
 | [],k,hk=>⟨fun _ t ht=>absurd ht (Nat.not_lt_zero _),fun _=>by unfold aL;omega⟩
 | e::es,k,hk=>by
   unfold aL
   split
   ·rename_i h
    exact⟨fun h1=>by omega,fun h1=>absurd h (h1 0 (by simp))⟩
   ·rename_i h
    rw[EA (es:=es) (k:=k+1) (by omega)]
    constructor
    ·intro h1 t ht
     cases t with
     | zero=>exact h
     | succ t=>exact h1 t (by simpa using ht)
    ·intro h1 t ht
     exact h1 (t+1) (by simpa using ht)
theorem Q4:∀(a b:List En),c9 (a++b)=c9 a+c9 b
 | [],b=>by rw[List.nil_append];show _=0+_;omega
 | e::a,b=>by rw[List.cons_append];show hO e.2+c9 (a++b)=hO e.2+c9 a+c9 b;rw[Q4 a b];omega
theorem zW{es:List En}{x:Nat}(h:x<es.length):c9 (es.take (x+1))=c9 (es.take x)+hO (es.getD x ([],0,[],[])).2:=by
 rw[<-rH (z:=([],0,[],[])) h,Q4];rfl
theorem Da{r:Rs}(h:eP r):hO r<=2097153:=by
 unfold eP at h
 unfold hO
 omega
theorem nF{es:List En}(h:bj es){x:Nat}(hx:x<es.length):mr (es.getD x ([],0,[],[])):=by
 refine h.2 _ ?_
 rw[List.getD_eq_getElem?_getD,List.getElem?_eq_getElem hx]
 exact List.getElem_mem hx
theorem GN{es:List En}(h:bj es):∀ x,x<=es.length->c9 (es.take x)<=x*2097153
 | 0,_=>by simp[c9]
 | x+1,hx=>by
   have h1:=GN h x (by omega)
   have h2:=Da (nF h (x:=x) (by omega)).2
   rw[zW (by omega),Nat.add_mul,Nat.one_mul]
   omega
theorem Jp{es:List En}{x:Nat}(h:jZ es x)(h1:(es.getD x ([],0,[],[])).1.length<=5000)(h2:∀ j,j<x->(es.getD j ([],0,[],[])).1≠(es.getD x ([],0,[],[])).1):jZ es (x+1):=by
 intro i hi
 by_cases e:i=x
 ·subst e;exact⟨h1,h2⟩
 ·exact h i (by omega)
theorem fI{c:Ca}(h:bK c=true):0<=c.1/\c.1<=5000/\c.2.length<=30/\jZ c.2 c.2.length/\(c9 c.2:Int)<=c.1:=by
 unfold bK at h
 simp only[Bool.and_eq_true,decide_eq_true_eq] at h
 exact⟨h.1.1.1.1,h.1.1.1.2,h.1.1.2,h.1.2,h.2⟩
theorem jJ{c:Ca}(h:bK c=true->False):false=bK c:=by
 cases hc:bK c with
 | false=>rfl
 | true=>exact (h hc).elim
theorem Ln{c:Ca}(h1:0<=c.1)(h2:c.1<=5000)(h3:c.2.length<=30)(h4:jZ c.2 c.2.length):bK c=decide ((c9 c.2:Int)<=c.1):=by
 unfold bK
 rw[decide_eq_true (show 0<=c.1/\c.1<=5000 from⟨h1,h2⟩),decide_eq_true h3,decide_eq_true h4];rfl
theorem PM :
 ∀(d:List Int×Int),Ty.wf bp d.1/\Ty.wf ai d.2->True->(decide (i64.wrap (d.2-(d.1.length:Int))<(0:Int))=true->(-1:Int)=dG d.1.length d.2)/\(decide (i64.wrap (d.2-(d.1.length:Int))<(0:Int))=false->i64.wrap (d.2-(d.1.length:Int))=dG d.1.length d.2):=by
  intro d hw _
  simp only[dG,gg]
  grind
theorem PQ :
 ∀(d:List Int),Ty.wf bp d->d.length<=(1048576:Nat)->((0:Int)<=(d.length:Int)/\(d.length:Int)<=(d.length:Int)/\(d.length:Int)*(↑(1:Nat):Int)<=(140737488355328:Int))/\(0:Nat)<=d.length/\((d=d/\aQ/\(0:Int)=(↑(0:Nat):Int))/\List.replicate ((d.length:Int).toNat) (0:Int)=List.take (0:Nat) d++List.replicate (d.length-(0:Nat)) (0:Int))/\∀(x:Nat),x<=d.length->(decide ((x:Int)<(d.length:Int))=true->((0:Int)<=(x:Int)/\(x:Int)<(d.length:Int))/\((0:Int)<=(x:Int)/\(x:Int)<(↑(List.length (List.take x d++List.replicate (d.length-x) (0:Int))):Int))/\∃(x':Nat),x'<=d.length/\d.length-x'<d.length-x/\(d=d/\aQ/\i64.wrap ((x:Int)+(1:Int))=(x':Int))/\List.set (List.take x d++List.replicate (d.length-x) (0:Int)) ((x:Int).toNat) (d.getD ((x:Int).toNat) (0:Int))=List.take x' d++List.replicate (d.length-x') (0:Int))/\(decide ((x:Int)<(d.length:Int))=false->List.take x d++List.replicate (d.length-x) (0:Int)=d):=by
  intro (d:List Int) hw (hp:d.length<=1048576)
  simp only[exists_const,forall_const,decide_eq_true_eq,decide_eq_false_iff_not,beq_iff_eq,sxS]
  refine⟨⟨by omega,by omega,by omega⟩,by omega,⟨rfl,by simp⟩,fun x h1=>⟨fun h3=>⟨⟨by omega,by omega⟩,⟨by omega,?_⟩,x+1,by omega,by omega,aG (by omega),Bb d _ (by omega)⟩,fun h3=>?_⟩⟩
  ·simp;omega
  ·have h4:x=d.length:=by omega
   subst h4
   simp
theorem PH :
 ∀(d:List Int×List Int),Ty.wf bp d.1/\Ty.wf bp d.2->True->((!decide ((d.1.length:Int)=(d.2.length:Int)))=true->false=decide (d.1=d.2))/\((!decide ((d.1.length:Int)=(d.2.length:Int)))=false->((0:Nat)<=d.1.length/\d.1.length=d.2.length/\List.take (0:Nat) d.1=List.take (0:Nat) d.2)/\(d.1=d.1/\d.2=d.2/\(0:Int)=(↑(0:Nat):Int))/\∀(x:Nat),x<=d.1.length/\d.1.length=d.2.length/\List.take x d.1=List.take x d.2->(decide ((x:Int)<(d.1.length:Int))=true->((0:Int)<=(x:Int)/\(x:Int)<(d.1.length:Int))/\((0:Int)<=(x:Int)/\(x:Int)<(d.2.length:Int))/\((!decide (d.1.getD ((x:Int).toNat) (0:Int)=d.2.getD ((x:Int).toNat) (0:Int)))=true->false=decide (d.1=d.2))/\((!decide (d.1.getD ((x:Int).toNat) (0:Int)=d.2.getD ((x:Int).toNat) (0:Int)))=false->∃(x':Nat),(x'<=d.1.length/\d.1.length=d.2.length/\List.take x' d.1=List.take x' d.2)/\d.1.length-x'<d.1.length-x/\d.1=d.1/\d.2=d.2/\i64.wrap ((x:Int)+(1:Int))=(x':Int)))/\(decide ((x:Int)<(d.1.length:Int))=false->true=decide (d.1=d.2))):=by
  intro (d:List Int×List Int) hw hp
  obtain⟨xs,ys⟩:=d
  have hl:xs.length<=9223372036854775807:=hw.1.1
  simp only[exists_const,forall_const,decide_eq_true_eq,decide_eq_false_iff_not,beq_iff_eq,sxS]
  refine⟨fun h=>?_,fun h=>⟨⟨by omega,by omega,rfl⟩,rfl,fun x ⟨h1,h2,h0⟩=>⟨fun h3=>?_,fun h3=>?_⟩⟩⟩
  ·exact (decide_eq_false (fun e=>h (by rw[e]))).symm
  ·have h4:x<xs.length:=by omega
   obtain⟨t1,t2⟩:=zY (z:=(0:Int)) h2 h4 h0
   rw[aG (by omega)]
   exact⟨⟨by omega,by omega⟩,⟨by omega,by omega⟩,fun h5=>(decide_eq_false (fun e=>h5 (t2 e))).symm,fun h5=>⟨x+1,⟨by omega,h2,t1.2 h5⟩,by omega,rfl⟩⟩
  ·have h4:x=xs.length:=by omega
   subst h4
   have:xs=ys:=by rw[List.take_length,h2,List.take_length] at h0;exact h0
   exact (decide_eq_true this).symm
theorem Ov :
 ∀(d:(Int×List Int×List Int)×Int),Ty.wf bd d.1/\Ty.wf ai d.2->True->True/\(Ty.wf ai (dG d.1.2.1.length d.2)->(decide (dG d.1.2.1.length d.2<(0:Int))=true->(-1:Int)=ou d.1 d.2)/\(decide (dG d.1.2.1.length d.2<(0:Int))=false->True/\(Ty.wf ai (dG d.1.2.2.length (dG d.1.2.1.length d.2))->(decide (dG d.1.2.2.length (dG d.1.2.1.length d.2)<(0:Int))=true->(-1:Int)=ou d.1 d.2)/\(decide (dG d.1.2.2.length (dG d.1.2.1.length d.2)<(0:Int))=false->dG d.1.2.2.length (dG d.1.2.1.length d.2)=ou d.1 d.2)))):=by
  intro d hw _
  simp only[ou,dG]
  grind
theorem PO :
 ∀(d:(List Int×Int×List Int×List Int)×Int),Ty.wf dj d.1/\Ty.wf ai d.2->True->True/\(Ty.wf ai (dG d.1.1.length d.2)->(decide (dG d.1.1.length d.2<(0:Int))=true->(-1:Int)=j0 d.1 d.2)/\(decide (dG d.1.1.length d.2<(0:Int))=false->True/\(Ty.wf ai (ou (d.1.2.1,d.1.2.2.1,d.1.2.2.2) (dG d.1.1.length d.2))->(decide (ou (d.1.2.1,d.1.2.2.1,d.1.2.2.2) (dG d.1.1.length d.2)<(0:Int))=true->(-1:Int)=j0 d.1 d.2)/\(decide (ou (d.1.2.1,d.1.2.2.1,d.1.2.2.2) (dG d.1.1.length d.2)<(0:Int))=false->ou (d.1.2.1,d.1.2.2.1,d.1.2.2.2) (dG d.1.1.length d.2)=j0 d.1 d.2)))):=by
  intro d hw _
  simp only[j0,ou,dG]
  grind
theorem Ou :
 ∀(d:List (List Int×Int×List Int×List Int)×Int),Ty.wf (Ty.sl dj) d.1/\Ty.wf ai d.2->True->(decide (i64.wrap (d.2-(d.1.length:Int))<(0:Int))=true->(-1:Int)=iV d.1 d.2)/\(decide (i64.wrap (d.2-(d.1.length:Int))<(0:Int))=false->((0:Nat)<=d.1.length/\fZ (List.drop (0:Nat) d.1) (gg (d.2-(d.1.length:Int)))=fZ d.1 (gg (d.2-(d.1.length:Int))))/\(d.1=d.1/\i64.wrap (d.2-(d.1.length:Int))=gg (d.2-(d.1.length:Int))/\(0:Int)=(↑(0:Nat):Int))/\∀(x:Nat×Int),x.1<=d.1.length/\fZ (List.drop x.1 d.1) x.2=fZ d.1 (gg (d.2-(d.1.length:Int)))->(decide ((x.1:Int)<(d.1.length:Int))=true->((0:Int)<=(x.1:Int)/\(x.1:Int)<(d.1.length:Int))/\True/\(Ty.wf ai (j0 (Prod.fst (d.1.getD ((x.1:Int).toNat) ([],(0:Int),[],[])),(d.1.getD ((x.1:Int).toNat) ([],(0:Int),[],[])).2.1,(d.1.getD ((x.1:Int).toNat) ([],(0:Int),[],[])).2.2.1,(d.1.getD ((x.1:Int).toNat) ([],(0:Int),[],[])).2.2.2) x.2)->(decide (j0 (Prod.fst (d.1.getD ((x.1:Int).toNat) ([],(0:Int),[],[])),(d.1.getD ((x.1:Int).toNat) ([],(0:Int),[],[])).2.1,(d.1.getD ((x.1:Int).toNat) ([],(0:Int),[],[])).2.2.1,(d.1.getD ((x.1:Int).toNat) ([],(0:Int),[],[])).2.2.2) x.2<(0:Int))=true->(-1:Int)=iV d.1 d.2)/\(decide (j0 (Prod.fst (d.1.getD ((x.1:Int).toNat) ([],(0:Int),[],[])),(d.1.getD ((x.1:Int).toNat) ([],(0:Int),[],[])).2.1,(d.1.getD ((x.1:Int).toNat) ([],(0:Int),[],[])).2.2.1,(d.1.getD ((x.1:Int).toNat) ([],(0:Int),[],[])).2.2.2) x.2<(0:Int))=false->∃(x':Nat×Int),(x'.1<=d.1.length/\fZ (List.drop x'.1 d.1) x'.2=fZ d.1 (gg (d.2-(d.1.length:Int))))/\d.1.length-x'.1<d.1.length-x.1/\d.1=d.1/\j0 (Prod.fst (d.1.getD ((x.1:Int).toNat) ([],(0:Int),[],[])),(d.1.getD ((x.1:Int).toNat) ([],(0:Int),[],[])).2.1,(d.1.getD ((x.1:Int).toNat) ([],(0:Int),[],[])).2.2.1,(d.1.getD ((x.1:Int).toNat) ([],(0:Int),[],[])).2.2.2) x.2=x'.2/\i64.wrap ((x.1:Int)+(1:Int))=(x'.1:Int))))/\(decide ((x.1:Int)<(d.1.length:Int))=false->x.2=iV d.1 d.2)):=by
  intro (d:List En×Int) hw _
  obtain⟨es,l⟩:=d
  have hl:es.length<=9223372036854775807:=hw.1.1
  simp only[exists_const,forall_const,decide_eq_true_eq,decide_eq_false_iff_not,beq_iff_eq,sxS]
  refine⟨fun h=>by unfold iV gg;rw[if_pos h],fun h=>⟨⟨by omega,by rw[List.drop_zero]⟩,⟨rfl,rfl⟩,fun x hx=>?_⟩⟩
  obtain⟨h1,h2⟩:=hx
  have hs:iV es l=fZ es (gg (l-es.length)):=by
   unfold iV gg
   rw[if_neg h]
  rw[hs,<-h2]
  have BD:((es.getD x.1 ([],0,[],[])).1,(es.getD x.1 ([],0,[],[])).2.1,(es.getD x.1 ([],0,[],[])).2.2.1,(es.getD x.1 ([],0,[],[])).2.2.2)=es.getD x.1 ([],0,[],[]):=rfl
  refine⟨fun h3=>?_,fun h3=>?_⟩
  ·have h4:x.1<es.length:=by omega
   rw[BD,gD (x:=(([],0,[],[]):En)) h4]
   refine⟨⟨by omega,by omega⟩,fun _=>⟨fun h5=>?_,fun h5=>⟨(x.1+1,j0 (es.getD x.1 ([],0,[],[])) x.2),⟨h4,?_⟩,by show es.length-(x.1+1)<_;omega,rfl,aG (by omega)⟩⟩⟩
   ·unfold fZ;rw[if_pos h5]
   ·show fZ (es.drop (x.1+1)) _=_
    conv=>rhs;unfold fZ
    rw[if_neg h5]
  ·rw[show x.1=es.length by omega,List.drop_length];rfl
theorem PN :
 ∀(d:(Int×List (List Int×Int×List Int×List Int))×Int),Ty.wf bq d.1/\Ty.wf ai d.2->True->True/\(Ty.wf ai (iV d.1.2 d.2)->(decide (iV d.1.2 d.2<(0:Int))=true->(-1:Int)=ik d.1 d.2)/\(decide (iV d.1.2 d.2<(0:Int))=false->iV d.1.2 d.2=ik d.1 d.2)):=by
  intro d hw _
  simp only[ik]
  grind
theorem Oy :
 ∀(d:Int×List Int×List Int),Ty.wf bd d->eP d->d.2.1.length<=(1048576:Nat)/\(Ty.wf aj d.2.1->d.2.2.length<=(1048576:Nat)/\(Ty.wf aj d.2.2->(d.1,d.2.1,d.2.2)=d)):=by
  intro (d:Rs) hw hp
  exact⟨hp.1,fun _=>⟨hp.2,fun _=>rfl⟩⟩
theorem PS :
 ∀(d:List Int×Int×List Int×List Int),Ty.wf dj d->mr d->d.1.length<=(1048576:Nat)/\(Ty.wf bp d.1->eP (d.2.1,d.2.2.1,d.2.2.2)/\(Ty.wf bd (d.2.1,d.2.2.1,d.2.2.2)->(d.1,d.2.1,d.2.2.1,d.2.2.2)=d)):=by
  intro (d:En) hw hp
  simp only[exists_const,forall_const,decide_eq_true_eq,decide_eq_false_iff_not,beq_iff_eq,sxS]
  exact⟨hp.1,fun _=>hp.2⟩
theorem Ox :
 ∀(d:List (List Int×Int×List Int×List Int)),Ty.wf (Ty.sl dj) d->bj d->((0:Int)<=(d.length:Int)/\(d.length:Int)<=(d.length:Int)/\(d.length:Int)*(↑(80:Nat):Int)<=(140737488355328:Int))/\(0:Nat)<=d.length/\((d=d/\aQ/\(0:Int)=(↑(0:Nat):Int))/\List.replicate ((d.length:Int).toNat) ([],(0:Int),[],[])=List.take (0:Nat) d++List.replicate (d.length-(0:Nat)) ([],(0:Int),[],[]))/\∀(x:Nat),x<=d.length->(decide ((x:Int)<(d.length:Int))=true->((0:Int)<=(x:Int)/\(x:Int)<(d.length:Int))/\mr (Prod.fst (d.getD ((x:Int).toNat) ([],(0:Int),[],[])),(d.getD ((x:Int).toNat) ([],(0:Int),[],[])).2.1,(d.getD ((x:Int).toNat) ([],(0:Int),[],[])).2.2.1,(d.getD ((x:Int).toNat) ([],(0:Int),[],[])).2.2.2)/\(Ty.wf dj (Prod.fst (d.getD ((x:Int).toNat) ([],(0:Int),[],[])),(d.getD ((x:Int).toNat) ([],(0:Int),[],[])).2.1,(d.getD ((x:Int).toNat) ([],(0:Int),[],[])).2.2.1,(d.getD ((x:Int).toNat) ([],(0:Int),[],[])).2.2.2)->((0:Int)<=(x:Int)/\(x:Int)<(↑(List.length (List.take x d++List.replicate (d.length-x) ([],(0:Int),[],[]))):Int))/\∃(x':Nat),x'<=d.length/\d.length-x'<d.length-x/\(d=d/\aQ/\i64.wrap ((x:Int)+(1:Int))=(x':Int))/\List.set (List.take x d++List.replicate (d.length-x) ([],(0:Int),[],[])) ((x:Int).toNat) (Prod.fst (d.getD ((x:Int).toNat) ([],(0:Int),[],[])),(d.getD ((x:Int).toNat) ([],(0:Int),[],[])).2.1,(d.getD ((x:Int).toNat) ([],(0:Int),[],[])).2.2.1,(d.getD ((x:Int).toNat) ([],(0:Int),[],[])).2.2.2)=List.take x' d++List.replicate (d.length-x') ([],(0:Int),[],[])))/\(decide ((x:Int)<(d.length:Int))=false->List.take x d++List.replicate (d.length-x) ([],(0:Int),[],[])=d):=by
  intro (d:List En) hw (hp:bj d)
  simp only[exists_const,forall_const,decide_eq_true_eq,decide_eq_false_iff_not,beq_iff_eq,sxS]
  have hl:=hp.1
  refine⟨⟨by omega,by omega,by omega⟩,by omega,⟨rfl,by simp⟩,fun x h1=>⟨fun h3=>⟨⟨by omega,by omega⟩,nF hp (by omega),fun _=>⟨⟨by omega,?_⟩,x+1,by omega,by omega,aG (by omega),Bb d _ (by omega)⟩⟩,fun h3=>?_⟩⟩
  ·simp;omega
  ·have h4:x=d.length:=by omega
   subst h4
   simp
theorem PR :
 ∀(d:Int×List (List Int×Int×List Int×List Int)),Ty.wf bq d->bj d.2->bj d.2/\(Ty.wf (Ty.sl dj) d.2->(d.1,d.2)=d):=by
  intro (d:Ca) hw hp
  exact⟨hp,fun _=>rfl⟩
theorem Oo :
 ∀(d:(Int×List Int×List Int)×Int×List Int×List Int),Ty.wf bd d.1/\Ty.wf bd d.2->True->((!decide (d.1.1=d.2.1))=true->false=kQ d.1 d.2)/\((!decide (d.1.1=d.2.1))=false->True/\((!decide (d.1.2.1=d.2.2.1))=true->false=kQ d.1 d.2)/\((!decide (d.1.2.1=d.2.2.1))=false->True/\((!decide (d.1.2.2=d.2.2.2))=true->false=kQ d.1 d.2)/\((!decide (d.1.2.2=d.2.2.2))=false->true=kQ d.1 d.2))):=by
  intro (d:Rs×Rs) hw _
  obtain⟨⟨a,b,c⟩,a',b',c'⟩:=d
  simp only[exists_const,forall_const,decide_eq_true_eq,decide_eq_false_iff_not,beq_iff_eq,sxS]
  unfold kQ
  refine⟨fun h=>(decide_eq_false (fun e=>h (by injection e))).symm,fun h=>⟨fun h1=>(decide_eq_false (fun e=>h1 (by injection e with _ e;injection e))).symm,fun h1=>⟨fun h2=>(decide_eq_false (fun e=>h2 (by injection e with _ e;injection e))).symm,fun h2=>(decide_eq_true (by rw[h,h1,h2])).symm⟩⟩⟩
theorem PJ :
 ∀(d:(List Int×Int×List Int×List Int)×List Int×Int×List Int×List Int),Ty.wf dj d.1/\Ty.wf dj d.2->True->True/\((!decide (d.1.1=d.2.1))=true->false=yR d.1 d.2)/\((!decide (d.1.1=d.2.1))=false->True/\((!kQ (d.1.2.1,d.1.2.2.1,d.1.2.2.2) (d.2.2.1,d.2.2.2.1,d.2.2.2.2))=true->false=yR d.1 d.2)/\((!kQ (d.1.2.1,d.1.2.2.1,d.1.2.2.2) (d.2.2.1,d.2.2.2.1,d.2.2.2.2))=false->true=yR d.1 d.2)):=by
  intro (d:En×En) hw _
  obtain⟨⟨a,r⟩,a',r'⟩:=d
  simp only[exists_const,forall_const,decide_eq_true_eq,decide_eq_false_iff_not,beq_iff_eq,sxS]
  unfold yR
  refine⟨fun h=>(decide_eq_false (fun e=>h (by injection e))).symm,fun h=>⟨fun h1=>(decide_eq_false (fun e=>?_)).symm,fun h1=>(decide_eq_true ?_).symm⟩⟩
  ·injection e with _ e
   subst e
   unfold kQ at h1
   exact absurd rfl (of_decide_eq_false h1)
  ·have h2:(r.1,r.2.1,r.2.2)=(r'.1,r'.2.1,r'.2.2):=by unfold kQ at h1;exact of_decide_eq_true h1
   rw[h,show r=r' from h2]
theorem On :
 ∀(d:List (List Int×Int×List Int×List Int)×List (List Int×Int×List Int×List Int)),Ty.wf (Ty.sl dj) d.1/\Ty.wf (Ty.sl dj) d.2->True->((!decide ((d.1.length:Int)=(d.2.length:Int)))=true->false=tG d.1 d.2)/\((!decide ((d.1.length:Int)=(d.2.length:Int)))=false->((0:Nat)<=d.1.length/\d.1.length=d.2.length/\List.take (0:Nat) d.1=List.take (0:Nat) d.2)/\(d.1=d.1/\d.2=d.2/\(0:Int)=(↑(0:Nat):Int))/\∀(x:Nat),x<=d.1.length/\d.1.length=d.2.length/\List.take x d.1=List.take x d.2->(decide ((x:Int)<(d.1.length:Int))=true->((0:Int)<=(x:Int)/\(x:Int)<(d.1.length:Int))/\((0:Int)<=(x:Int)/\(x:Int)<(d.2.length:Int))/\True/\((!yR (Prod.fst (d.1.getD ((x:Int).toNat) ([],(0:Int),[],[])),(d.1.getD ((x:Int).toNat) ([],(0:Int),[],[])).2.1,(d.1.getD ((x:Int).toNat) ([],(0:Int),[],[])).2.2.1,(d.1.getD ((x:Int).toNat) ([],(0:Int),[],[])).2.2.2) (Prod.fst (d.2.getD ((x:Int).toNat) ([],(0:Int),[],[])),(d.2.getD ((x:Int).toNat) ([],(0:Int),[],[])).2.1,(d.2.getD ((x:Int).toNat) ([],(0:Int),[],[])).2.2.1,(d.2.getD ((x:Int).toNat) ([],(0:Int),[],[])).2.2.2))=true->false=tG d.1 d.2)/\((!yR (Prod.fst (d.1.getD ((x:Int).toNat) ([],(0:Int),[],[])),(d.1.getD ((x:Int).toNat) ([],(0:Int),[],[])).2.1,(d.1.getD ((x:Int).toNat) ([],(0:Int),[],[])).2.2.1,(d.1.getD ((x:Int).toNat) ([],(0:Int),[],[])).2.2.2) (Prod.fst (d.2.getD ((x:Int).toNat) ([],(0:Int),[],[])),(d.2.getD ((x:Int).toNat) ([],(0:Int),[],[])).2.1,(d.2.getD ((x:Int).toNat) ([],(0:Int),[],[])).2.2.1,(d.2.getD ((x:Int).toNat) ([],(0:Int),[],[])).2.2.2))=false->∃(x':Nat),(x'<=d.1.length/\d.1.length=d.2.length/\List.take x' d.1=List.take x' d.2)/\d.1.length-x'<d.1.length-x/\d.1=d.1/\d.2=d.2/\i64.wrap ((x:Int)+(1:Int))=(x':Int)))/\(decide ((x:Int)<(d.1.length:Int))=false->true=tG d.1 d.2)):=by
  intro (d:List En×List En) hw hp
  obtain⟨xs,ys⟩:=d
  have hl:xs.length<=9223372036854775807:=hw.1.1
  simp only[exists_const,forall_const,decide_eq_true_eq,decide_eq_false_iff_not,beq_iff_eq,sxS]
  unfold tG
  refine⟨fun h=>?_,fun h=>⟨⟨by omega,by omega,rfl⟩,rfl,fun x ⟨h1,h2,h0⟩=>⟨fun h3=>?_,fun h3=>?_⟩⟩⟩
  ·exact (decide_eq_false (fun e=>h (by rw[e]))).symm
  ·have h4:x<xs.length:=by omega
   obtain⟨t1,t2⟩:=zY (z:=(([],0,[],[]):En)) h2 h4 h0
   rw[aG (by omega)]
   refine⟨⟨by omega,by omega⟩,⟨by omega,by omega⟩,fun h5=>(decide_eq_false (fun e=>?_)).symm,fun h5=>⟨x+1,⟨by omega,h2,t1.2 ?_⟩,by omega,rfl⟩⟩
   ·have h6:=t2 e
    unfold yR at h5
    exact absurd h6 (of_decide_eq_false h5)
   ·unfold yR at h5
    exact of_decide_eq_true h5
  ·have h4:x=xs.length:=by omega
   subst h4
   have:xs=ys:=by rw[List.take_length,h2,List.take_length] at h0;exact h0
   exact (decide_eq_true this).symm
theorem PI :
 ∀(d:(Int×List (List Int×Int×List Int×List Int))×Int×List (List Int×Int×List Int×List Int)),Ty.wf bq d.1/\Ty.wf bq d.2->True->((!decide (d.1.1=d.2.1))=true->false=jL d.1 d.2)/\((!decide (d.1.1=d.2.1))=false->True/\((!tG d.1.2 d.2.2)=true->false=jL d.1 d.2)/\((!tG d.1.2 d.2.2)=false->true=jL d.1 d.2)):=by
  intro (d:Ca×Ca) hw _
  obtain⟨⟨a,r⟩,a',r'⟩:=d
  simp only[exists_const,forall_const,decide_eq_true_eq,decide_eq_false_iff_not,beq_iff_eq,sxS]
  unfold jL
  refine⟨fun h=>(decide_eq_false (fun e=>h (by injection e))).symm,fun h=>⟨fun h1=>(decide_eq_false (fun e=>?_)).symm,fun h1=>(decide_eq_true ?_).symm⟩⟩
  ·injection e with _ e
   unfold tG at h1
   exact absurd e (of_decide_eq_false h1)
  ·unfold tG at h1
   rw[h,of_decide_eq_true h1]
theorem P2 :
 ∀(d:List Int×List Int),Ty.wf bp d.1/\Ty.wf bp d.2->True->((!decide ((d.1.length:Int)=(d.2.length:Int)))=true->false=decide (d.1=d.2))/\((!decide ((d.1.length:Int)=(d.2.length:Int)))=false->((0:Nat)<=d.1.length/\d.1.length=d.2.length/\List.take (0:Nat) d.1=List.take (0:Nat) d.2)/\(d.1=d.1/\d.2=d.2/\(0:Int)=(↑(0:Nat):Int))/\∀(x:Nat),x<=d.1.length/\d.1.length=d.2.length/\List.take x d.1=List.take x d.2->(decide ((x:Int)<(d.1.length:Int))=true->((0:Int)<=(x:Int)/\(x:Int)<(d.1.length:Int))/\((0:Int)<=(x:Int)/\(x:Int)<(d.2.length:Int))/\((!decide (d.1.getD ((x:Int).toNat) (0:Int)=d.2.getD ((x:Int).toNat) (0:Int)))=true->false=decide (d.1=d.2))/\((!decide (d.1.getD ((x:Int).toNat) (0:Int)=d.2.getD ((x:Int).toNat) (0:Int)))=false->∃(x':Nat),(x'<=d.1.length/\d.1.length=d.2.length/\List.take x' d.1=List.take x' d.2)/\d.1.length-x'<d.1.length-x/\d.1=d.1/\d.2=d.2/\i64.wrap ((x:Int)+(1:Int))=(x':Int)))/\(decide ((x:Int)<(d.1.length:Int))=false->true=decide (d.1=d.2))):=by
  intro (d:List Int×List Int) hw hp
  obtain⟨xs,ys⟩:=d
  have hl:xs.length<=9223372036854775807:=hw.1.1
  simp only[exists_const,forall_const,decide_eq_true_eq,decide_eq_false_iff_not,beq_iff_eq,sxS]
  refine⟨fun h=>?_,fun h=>⟨⟨by omega,by omega,rfl⟩,rfl,fun x ⟨h1,h2,h0⟩=>⟨fun h3=>?_,fun h3=>?_⟩⟩⟩
  ·exact (decide_eq_false (fun e=>h (by rw[e]))).symm
  ·have h4:x<xs.length:=by omega
   obtain⟨t1,t2⟩:=zY (z:=(0:Int)) h2 h4 h0
   rw[aG (by omega)]
   exact⟨⟨by omega,by omega⟩,⟨by omega,by omega⟩,fun h5=>(decide_eq_false (fun e=>h5 (t2 e))).symm,fun h5=>⟨x+1,⟨by omega,h2,t1.2 h5⟩,by omega,rfl⟩⟩
  ·have h4:x=xs.length:=by omega
   subst h4
   have:xs=ys:=by rw[List.take_length,h2,List.take_length] at h0;exact h0
   exact (decide_eq_true this).symm
theorem Ib :
 ∀(d:List Int×List Int),Ty.wf bp d.1/\Ty.wf bp d.2->True->decide (strOfNums d.1=strOfNums d.2)=decide (d.1=d.2):=by
  intro (d:List Int×List Int) hw _
  obtain⟨xs,ys⟩:=d
  exact decide_eq_decide.2 (str_inj (fun x hx=>hw.1.2 x hx) (fun y hy=>hw.2.2 y hy))
theorem KQ :
 ∀(d:Int×List Int×List Int),Ty.wf bd d->eP d->i64.wrap (i64.wrap ((1:Int)+(d.2.1.length:Int))+(d.2.2.length:Int))=(hO d:Int):=by
  intro (d:Rs) hw (hp:eP d)
  have h:=Da hp
  unfold hO at *
  rw[wrap_small (n:=1+(d.2.1.length:Int)) (by omega),wrap_small (by omega)]
  omega
theorem PF :
 ∀(d:List Int×Int×List Int×List Int),Ty.wf dj d->mr d->i64.wrap (i64.wrap ((1:Int)+(d.2.2.1.length:Int))+(d.2.2.2.length:Int))=(hO d.2:Int):=by
  intro (d:En) hw (hp:mr d)
  have h:=Da hp.2
  unfold hO at *
  rw[wrap_small (n:=1+(d.2.2.1.length:Int)) (by omega),wrap_small (by omega)]
  omega
theorem Om :
 ∀(d:Int×List (List Int×Int×List Int×List Int)),Ty.wf bq d->bj d.2->(0:Nat)<=d.2.length/\(((d.1=d.1/\d.2=d.2)/\ae (0:Int)/\(0:Int)=(↑(c9 (List.take (0:Nat) d.2)):Int)/\d.2=d.2/\ae (d.2.length:Int)/\(0:Int)=(↑(0:Nat):Int))/\d.1=d.1/\d.2=d.2)/\∀(x:Nat),x<=d.2.length->(decide ((x:Int)<(d.2.length:Int))=true->((0:Int)<=(x:Int)/\(x:Int)<(d.2.length:Int))/\mr (Prod.fst (d.2.getD ((x:Int).toNat) ([],(0:Int),[],[])),(d.2.getD ((x:Int).toNat) ([],(0:Int),[],[])).2.1,(d.2.getD ((x:Int).toNat) ([],(0:Int),[],[])).2.2.1,(d.2.getD ((x:Int).toNat) ([],(0:Int),[],[])).2.2.2)/\(Ty.wf ai (↑(hO (Prod.fst (d.2.getD ((x:Int).toNat) ([],(0:Int),[],[])).2,(d.2.getD ((x:Int).toNat) ([],(0:Int),[],[])).2.2.1,(d.2.getD ((x:Int).toNat) ([],(0:Int),[],[])).2.2.2)):Int)->∃(x':Nat),x'<=d.2.length/\d.2.length-x'<d.2.length-x/\((d.1=d.1/\d.2=d.2)/\ae (0:Int)/\i64.wrap ((↑(c9 (List.take x d.2)):Int)+(↑(hO (Prod.fst (d.2.getD ((x:Int).toNat) ([],(0:Int),[],[])).2,(d.2.getD ((x:Int).toNat) ([],(0:Int),[],[])).2.2.1,(d.2.getD ((x:Int).toNat) ([],(0:Int),[],[])).2.2.2)):Int))=(↑(c9 (List.take x' d.2)):Int)/\d.2=d.2/\ae (d.2.length:Int)/\i64.wrap ((x:Int)+(1:Int))=(x':Int))/\d.1=d.1/\d.2=d.2))/\(decide ((x:Int)<(d.2.length:Int))=false->(↑(c9 (List.take x d.2)):Int)=(c9 d.2:Int)):=by
  intro (d:Ca) hw hp
  obtain⟨cap,es⟩:=d
  replace hp:bj es:=hp
  have hl:=hp.1
  simp only[exists_const,forall_const,decide_eq_true_eq,decide_eq_false_iff_not,beq_iff_eq,sxS]
  refine⟨by omega,⟨by rw[List.take_zero];rfl,rfl⟩,fun x hx=>⟨fun h=>?_,fun h=>by rw[List.take_of_length_le (by omega)]⟩⟩
  have he:=nF hp (x:=x) (by omega)
  have fW:=Da he.2
  have hs:=GN hp x hx
  have Yv:x*2097153<=1048576*2097153:=Nat.mul_le_mul_right _ (by omega)
  have BD:((es.getD x ([],0,[],[])).2.1,(es.getD x ([],0,[],[])).2.2.1,(es.getD x ([],0,[],[])).2.2.2)=(es.getD x ([],0,[],[])).2:=rfl
  rw[BD]
  refine⟨⟨by omega,by omega⟩,he,fun _=>⟨x+1,by omega,by omega,?_,aG (by omega)⟩⟩
  rw[zW (by omega),wrap_small (by omega)];rfl
theorem Tw :
 ∀(d:Int×List (List Int×Int×List Int×List Int)),Ty.wf bq d->bj d.2->(0:Nat)<=d.2.length/\(((d.1=d.1/\d.2=d.2)/\ae (0:Int)/\(0:Int)=(↑(c9 (List.take (0:Nat) d.2)):Int)/\(0:Int)=(↑(0:Nat):Int))/\d.1=d.1/\d.2=d.2)/\∀(x:Nat),x<=d.2.length->(decide ((x:Int)<(d.2.length:Int))=true->((0:Int)<=(x:Int)/\(x:Int)<(d.2.length:Int))/\eP (Prod.fst (d.2.getD ((x:Int).toNat) ([],(0:Int),[],[])).2,(d.2.getD ((x:Int).toNat) ([],(0:Int),[],[])).2.2.1,(d.2.getD ((x:Int).toNat) ([],(0:Int),[],[])).2.2.2)/\(Ty.wf ai (↑(hO (Prod.fst (d.2.getD ((x:Int).toNat) ([],(0:Int),[],[])).2,(d.2.getD ((x:Int).toNat) ([],(0:Int),[],[])).2.2.1,(d.2.getD ((x:Int).toNat) ([],(0:Int),[],[])).2.2.2)):Int)->∃(x':Nat),x'<=d.2.length/\d.2.length-x'<d.2.length-x/\((d.1=d.1/\d.2=d.2)/\ae (0:Int)/\i64.wrap ((↑(c9 (List.take x d.2)):Int)+(↑(hO (Prod.fst (d.2.getD ((x:Int).toNat) ([],(0:Int),[],[])).2,(d.2.getD ((x:Int).toNat) ([],(0:Int),[],[])).2.2.1,(d.2.getD ((x:Int).toNat) ([],(0:Int),[],[])).2.2.2)):Int))=(↑(c9 (List.take x' d.2)):Int)/\i64.wrap ((x:Int)+(1:Int))=(x':Int))/\d.1=d.1/\d.2=d.2))/\(decide ((x:Int)<(d.2.length:Int))=false->(↑(c9 (List.take x d.2)):Int)=(c9 d.2:Int)):=by
  intro (d:Ca) hw hp
  obtain⟨cap,es⟩:=d
  replace hp:bj es:=hp
  have hl:=hp.1
  simp only[exists_const,forall_const,decide_eq_true_eq,decide_eq_false_iff_not,beq_iff_eq,sxS]
  refine⟨by omega,⟨by rw[List.take_zero];rfl,rfl⟩,fun x hx=>⟨fun h=>?_,fun h=>by rw[List.take_of_length_le (by omega)]⟩⟩
  have he:=nF hp (x:=x) (by omega)
  have fW:=Da he.2
  have hs:=GN hp x hx
  have Yv:x*2097153<=1048576*2097153:=Nat.mul_le_mul_right _ (by omega)
  have BD:((es.getD x ([],0,[],[])).2.1,(es.getD x ([],0,[],[])).2.2.1,(es.getD x ([],0,[],[])).2.2.2)=(es.getD x ([],0,[],[])).2:=rfl
  rw[BD]
  refine⟨⟨by omega,by omega⟩,he.2,fun _=>⟨x+1,by omega,by omega,?_,aG (by omega)⟩⟩
  rw[zW (by omega),wrap_small (by omega)];rfl
theorem Oi :
 ∀(d:(List Int×Int×List Int×List Int)×List Int),Ty.wf dj d.1/\Ty.wf (Ty.ptr bp) d.2->True->True/\ae (decide (d.1.1=d.2)):=by
  intro d _ _
  exact⟨trivial,rfl⟩
theorem GU :
 ∀(d:List (List Int×Int×List Int×List Int)×List Int),Ty.wf (Ty.sl dj) d.1/\Ty.wf (Ty.ca (0:Nat) (Ty.ptr bp)) d.2->True->((0:Nat)<=d.1.length/\aL d.2 (List.drop (0:Nat) d.1) (↑(0:Nat):Int)=aL d.2 d.1 (0:Int))/\(d.1=d.1/\d.2=d.2/\ae (d.1.length:Int)/\(0:Int)=(↑(0:Nat):Int))/\∀(x:Nat),x<=d.1.length/\aL d.2 (List.drop x d.1) (x:Int)=aL d.2 d.1 (0:Int)->(decide ((x:Int)<(d.1.length:Int))=true->((0:Int)<=(x:Int)/\(x:Int)<(d.1.length:Int))/\True/\(decide (Prod.fst (d.1.getD ((x:Int).toNat) ([],(0:Int),[],[]))=d.2)=true->(x:Int)=aL d.2 d.1 (0:Int))/\(decide (Prod.fst (d.1.getD ((x:Int).toNat) ([],(0:Int),[],[]))=d.2)=false->∃(x':Nat),(x'<=d.1.length/\aL d.2 (List.drop x' d.1) (x':Int)=aL d.2 d.1 (0:Int))/\d.1.length-x'<d.1.length-x/\d.1=d.1/\d.2=d.2/\ae (d.1.length:Int)/\i64.wrap ((x:Int)+(1:Int))=(x':Int)))/\(decide ((x:Int)<(d.1.length:Int))=false->(-1:Int)=aL d.2 d.1 (0:Int)):=by
  intro (d:List En×List Int) hw _
  obtain⟨xs,t⟩:=d
  have hl:xs.length<=9223372036854775807:=hw.1.1
  simp only[exists_const,forall_const,decide_eq_true_eq,decide_eq_false_iff_not,beq_iff_eq,sxS]
  refine⟨⟨by omega,by simp⟩,rfl,fun x ⟨h1,h2⟩=>⟨fun h3=>?_,fun h3=>?_⟩⟩
  ·have h4:x<xs.length:=by omega
   rw[gD (x:=(([],0,[],[]):En)) h4,aL] at h2
   rw[aG (by omega)]
   refine⟨⟨by omega,by omega⟩,fun h5=>?_,fun h5=>⟨x+1,⟨by omega,?_⟩,by omega,rfl⟩⟩
   ·rw[if_pos h5] at h2;exact h2
   ·rw[if_neg h5] at h2;exact h2
  ·have h4:x=xs.length:=by omega
   rw[h4,List.drop_length,aL] at h2
   exact h2
theorem Pu :
 ∀(d:List (List Int×Int×List Int×List Int)×List Int),Ty.wf (Ty.sl dj) d.1/\Ty.wf bp d.2->True->True/\(Ty.wf ai (aL d.2 d.1 (0:Int))->ae (aL d.2 d.1 (0:Int))):=by
  intro d _ _
  exact⟨trivial,fun _=>rfl⟩
theorem PU :
 ∀(d:Int×List (List Int×Int×List Int×List Int)),Ty.wf bq d->bj d.2->True/\((!(decide ((0:Int)<=d.1)&&decide (d.1<=(5000:Int))))=true->false=bK d)/\((!(decide ((0:Int)<=d.1)&&decide (d.1<=(5000:Int))))=false->(decide ((30:Int)<(d.2.length:Int))=true->false=bK d)/\(decide ((30:Int)<(d.2.length:Int))=false->((0:Nat)<=d.2.length/\jZ d.2 (0:Nat))/\(((d.1=d.1/\d.2=d.2)/\(0:Int)=(↑(c9 (List.take (0:Nat) d.2)):Int)/\(0:Int)=(↑(0:Nat):Int))/\d.1=d.1/\d.2=d.2)/\∀(x:Nat),x<=d.2.length/\jZ d.2 x->(decide ((x:Int)<(d.2.length:Int))=true->((0:Int)<=(x:Int)/\(x:Int)<(d.2.length:Int))/\(decide ((5000:Int)<(↑(List.length (d.2.getD ((x:Int).toNat) ([],(0:Int),[],[])).1):Int))=true->false=bK d)/\(decide ((5000:Int)<(↑(List.length (d.2.getD ((x:Int).toNat) ([],(0:Int),[],[])).1):Int))=false->((0:Nat)<=x/\∀(t:Nat),t<(0:Nat)->(d.2.getD t ([],(0:Int),[],[])).1≠(d.2.getD x ([],(0:Int),[],[])).1)/\(((d.1=d.1/\d.2=d.2)/\ae (↑(c9 (List.take x d.2)):Int)/\ae (x:Int)/\(0:Int)=(↑(0:Nat):Int))/\d.1=d.1/\d.2=d.2)/\∀(x_1:Nat),(x_1<=x/\∀(t:Nat),t<x_1->(d.2.getD t ([],(0:Int),[],[])).1≠(d.2.getD x ([],(0:Int),[],[])).1)->(decide ((x_1:Int)<(x:Int))=true->((0:Int)<=(x:Int)/\(x:Int)<(d.2.length:Int))/\((0:Int)<=(x_1:Int)/\(x_1:Int)<(d.2.length:Int))/\True/\(decide (Prod.fst (d.2.getD ((x:Int).toNat) ([],(0:Int),[],[]))=(d.2.getD ((x_1:Int).toNat) ([],(0:Int),[],[])).1)=true->false=bK d)/\(decide (Prod.fst (d.2.getD ((x:Int).toNat) ([],(0:Int),[],[]))=(d.2.getD ((x_1:Int).toNat) ([],(0:Int),[],[])).1)=false->∃(x':Nat),(x'<=x/\∀(t:Nat),t<x'->(d.2.getD t ([],(0:Int),[],[])).1≠(d.2.getD x ([],(0:Int),[],[])).1)/\x-x'<x-x_1/\((d.1=d.1/\d.2=d.2)/\ae (↑(c9 (List.take x d.2)):Int)/\ae (x:Int)/\i64.wrap ((x_1:Int)+(1:Int))=(x':Int))/\d.1=d.1/\d.2=d.2))/\(decide ((x_1:Int)<(x:Int))=false->((0:Int)<=(x:Int)/\(x:Int)<(d.2.length:Int))/\eP (Prod.fst (d.2.getD ((x:Int).toNat) ([],(0:Int),[],[])).2,(d.2.getD ((x:Int).toNat) ([],(0:Int),[],[])).2.2.1,(d.2.getD ((x:Int).toNat) ([],(0:Int),[],[])).2.2.2)/\(Ty.wf ai (↑(hO (Prod.fst (d.2.getD ((x:Int).toNat) ([],(0:Int),[],[])).2,(d.2.getD ((x:Int).toNat) ([],(0:Int),[],[])).2.2.1,(d.2.getD ((x:Int).toNat) ([],(0:Int),[],[])).2.2.2)):Int)->∃(x':Nat),(x'<=d.2.length/\jZ d.2 x')/\d.2.length-x'<d.2.length-x/\((d.1=d.1/\d.2=d.2)/\i64.wrap ((↑(c9 (List.take x d.2)):Int)+(↑(hO (Prod.fst (d.2.getD ((x:Int).toNat) ([],(0:Int),[],[])).2,(d.2.getD ((x:Int).toNat) ([],(0:Int),[],[])).2.2.1,(d.2.getD ((x:Int).toNat) ([],(0:Int),[],[])).2.2.2)):Int))=(↑(c9 (List.take x' d.2)):Int)/\i64.wrap ((x:Int)+(1:Int))=(x':Int))/\d.1=d.1/\d.2=d.2))))/\(decide ((x:Int)<(d.2.length:Int))=false->decide ((↑(c9 (List.take x d.2)):Int)<=d.1)=bK d))):=by
  intro (d:Ca) hw hp
  obtain⟨cap,es⟩:=d
  replace hp:bj es:=hp
  simp only[exists_const,forall_const,decide_eq_true_eq,decide_eq_false_iff_not,beq_iff_eq,sxS]
  refine⟨fun h=>jJ (fun hc=>?_),fun h=>⟨fun h1=>jJ (fun hc=>?_),fun h1=>⟨⟨by omega,fun i hi=>absurd hi (Nat.not_lt_zero _)⟩,⟨by rw[List.take_zero];rfl,rfl⟩,fun x hx=>⟨fun h2=>?_,fun h2=>?_⟩⟩⟩⟩
  ·have:=fI hc
   rw[decide_eq_true (show 0<=cap from this.1),decide_eq_true (show cap<=5000 from this.2.1)] at h
   cases h
  ·have:=(fI hc).2.2.1
   simp only at this
   omega
  ·obtain⟨we,hxk⟩:=hx
   refine⟨⟨by omega,by omega⟩,fun h3=>jJ (fun hc=>?_),fun h3=>⟨⟨by omega,fun t ht=>absurd ht (Nat.not_lt_zero _)⟩,rfl,fun y hy=>⟨fun h4=>⟨⟨by omega,by omega⟩,⟨by omega,by omega⟩,fun h5=>jJ (fun hc=>?_),fun h5=>?_⟩,fun h4=>?_⟩⟩⟩
   ·have:=((fI hc).2.2.2.1 x (by show x<es.length;omega)).1
    simp only at this
    omega
   ·have:=((fI hc).2.2.2.1 x (by show x<es.length;omega)).2 y (by omega)
    exact this h5.symm
   ·refine⟨y+1,⟨by omega,fun t ht=>?_⟩,by omega,aG (by omega)⟩
    by_cases e:t=y
    ·rw[e];exact Ne.symm h5
    ·exact hy.2 t (by omega)
   ·have he:=nF hp (x:=x) (by omega)
    have fW:=Da he.2
    have hs:=GN hp x we
    have BD:((es.getD x ([],0,[],[])).2.1,(es.getD x ([],0,[],[])).2.2.1,(es.getD x ([],0,[],[])).2.2.2)=(es.getD x ([],0,[],[])).2:=rfl
    rw[BD]
    refine⟨⟨by omega,by omega⟩,he.2,fun _=>⟨x+1,⟨by omega,Jp hxk (by omega) (fun j hj=>hy.2 j (by omega))⟩,by omega,?_,aG (by omega)⟩⟩
    rw[zW (by omega),wrap_small (by omega)];rfl
  ·obtain rfl:x=es.length:=by omega
   simp only[Bool.and_eq_true,decide_eq_true_eq] at h
   rw[List.take_length,Ln (c:=(cap,es)) h.1 h.2 (by show es.length<=30;omega) hx.2]
theorem Py :
 ∀(d:Int×List (List Int×Int×List Int×List Int)),Ty.wf bq d->bj d.2->(decide (d.1<(0:Int))=true->false=bK d)/\(decide (d.1<(0:Int))=false->(decide ((5000:Int)<d.1)=true->false=bK d)/\(decide ((5000:Int)<d.1)=false->(decide ((30:Int)<(d.2.length:Int))=true->false=bK d)/\(decide ((30:Int)<(d.2.length:Int))=false->bj d.2/\(Ty.wf ai (c9 d.2:Int)->(decide (d.1<(c9 d.2:Int))=true->false=bK d)/\(decide (d.1<(c9 d.2:Int))=false->((0:Nat)<=d.2.length/\jZ d.2 (0:Nat))/\(((d.1=d.1/\d.2=d.2)/\d.2=d.2/\ae (d.2.length:Int)/\(0:Int)=(↑(0:Nat):Int))/\d.1=d.1/\d.2=d.2)/\∀(x:Nat),x<=d.2.length/\jZ d.2 x->(decide ((x:Int)<(d.2.length:Int))=true->((0:Int)<=(x:Int)/\(x:Int)<(d.2.length:Int))/\(decide ((5000:Int)<(↑(List.length (d.2.getD ((x:Int).toNat) ([],(0:Int),[],[])).1):Int))=true->false=bK d)/\(decide ((5000:Int)<(↑(List.length (d.2.getD ((x:Int).toNat) ([],(0:Int),[],[])).1):Int))=false->((0:Int)<=(0:Int)/\(0:Int)<=(x:Int)/\(x:Int)<=(d.2.length:Int))/\True/\(Ty.wf ai (aL (d.2.getD ((x:Int).toNat) ([],(0:Int),[],[])).1 (List.drop ((0:Int).toNat) (List.take ((x:Int).toNat) d.2)) (0:Int))->(decide ((0:Int)<=aL (d.2.getD ((x:Int).toNat) ([],(0:Int),[],[])).1 (List.drop ((0:Int).toNat) (List.take ((x:Int).toNat) d.2)) (0:Int))=true->false=bK d)/\(decide ((0:Int)<=aL (d.2.getD ((x:Int).toNat) ([],(0:Int),[],[])).1 (List.drop ((0:Int).toNat) (List.take ((x:Int).toNat) d.2)) (0:Int))=false->∃(x':Nat),(x'<=d.2.length/\jZ d.2 x')/\d.2.length-x'<d.2.length-x/\((d.1=d.1/\d.2=d.2)/\d.2=d.2/\ae (d.2.length:Int)/\i64.wrap ((x:Int)+(1:Int))=(x':Int))/\d.1=d.1/\d.2=d.2))))/\(decide ((x:Int)<(d.2.length:Int))=false->true=bK d)))))):=by
  intro (d:Ca) hw hp
  obtain⟨cap,es⟩:=d
  replace hp:bj es:=hp
  simp only[exists_const,forall_const,decide_eq_true_eq,decide_eq_false_iff_not,beq_iff_eq,sxS]
  refine⟨fun h=>jJ (fun hc=>?_),fun h=>⟨fun h1=>jJ (fun hc=>?_),fun h1=>⟨fun h2=>jJ (fun hc=>?_),fun h2=>⟨hp,fun _=>⟨fun h3=>jJ (fun hc=>?_),fun h3=>⟨⟨by omega,fun i hi=>absurd hi (Nat.not_lt_zero _)⟩,rfl,fun x hx=>⟨fun h4=>?_,fun h4=>?_⟩⟩⟩⟩⟩⟩⟩
  ·have:=(fI hc).1;simp only at this;omega
  ·have:=(fI hc).2.1;simp only at this;omega
  ·have:=(fI hc).2.2.1;simp only at this;omega
  ·have:=(fI hc).2.2.2.2;simp only at this;omega
  ·obtain⟨we,hxk⟩:=hx
   simp only[Int.toNat_zero,List.drop_zero]
   have ny:(es.take x).length=x:=by rw[List.length_take];omega
   have htg:∀ t,t<x->(es.take x).getD t ([],0,[],[])=es.getD t ([],0,[],[]):=fun t ht=>by
    rw[List.getD_eq_getElem?_getD,List.getD_eq_getElem?_getD,List.getElem?_take,if_pos ht]
   have cS:=EA (key:=(es.getD x ([],0,[],[])).1) (es:=es.take x) (k:=0) (Int.le_refl 0)
   refine⟨⟨by omega,by omega⟩,fun h5=>jJ (fun hc=>?_),fun h5=>⟨⟨by omega,by omega,by omega⟩,fun _=>⟨fun h6=>jJ (fun hc=>?_),fun h6=>?_⟩⟩⟩
   ·have:=((fI hc).2.2.2.1 x (by show x<es.length;omega)).1
    simp only at this
    omega
   ·have h7:=((fI hc).2.2.2.1 x (by show x<es.length;omega)).2
    have:=cS.2 (fun t ht=>by rw[ny] at ht;rw[htg t ht];exact h7 t ht)
    omega
   ·have h7:=cS.1 (by omega)
    exact⟨x+1,⟨by omega,Jp hxk (by omega) (fun j hj=>by have:=h7 j (by omega);rw[htg j hj] at this;exact this)⟩,by omega,aG (by omega)⟩
  ·obtain rfl:x=es.length:=by omega
   rw[Ln (c:=(cap,es)) (by show 0<=cap;omega) (by show cap<=5000;omega) (by show es.length<=30;omega) hx.2,decide_eq_true (show ((c9 es:Nat):Int)<=cap by omega)]
set_option maxRecDepth 10000
theorem zz{p A B k:Int}(h:A=B+p*k):A%p=B%p:=by rw[h,Int.add_mul_emod_self_left]
theorem wo(x p:Int):∃ k,x%p=x+p*k:=⟨-(x/p),by rw[Int.emod_def,Int.mul_neg];rfl⟩
theorem ei{p:Int}(h:0<p)(x:Int):El p (x%p):=⟨Int.emod_nonneg x (by omega),Int.emod_lt_of_pos x h⟩
theorem gz{p x:Int}(h:El p x):x%p=x:=Int.emod_eq_of_lt h.1 h.2
theorem bZ(p a b:Int):a%p*b%p=a*b%p:=by
 obtain⟨k,hk⟩:=wo a p
 exact zz (k:=k*b) (by rw[hk];grind)
theorem bU(p a b:Int):a*(b%p)%p=a*b%p:=by rw[Int.mul_comm,bZ,Int.mul_comm]
theorem eC(p a b:Int):(a%p+b)%p=(a+b)%p:=by
 obtain⟨k,hk⟩:=wo a p
 exact zz (k:=k) (by rw[hk];grind)
theorem fM(p a b:Int):(a+b%p)%p=(a+b)%p:=by rw[Int.add_comm,eC,Int.add_comm]
theorem pf(p a b:Int):(a%p-b)%p=(a-b)%p:=by
 obtain⟨k,hk⟩:=wo a p
 exact zz (k:=k) (by rw[hk];grind)
theorem mQ(p a b:Int):(a-b%p)%p=(a-b)%p:=by
 obtain⟨k,hk⟩:=wo b p
 exact zz (k := -k) (by rw[hk];grind)
theorem pow_mod(p a:Int):∀ n:Nat,(a%p)^n%p=a^n%p
 | 0=>by rw[Int.pow_zero,Int.pow_zero]
 | n+1=>by
   rw[Int.pow_succ,Int.pow_succ,bU,<-bZ,pow_mod p a n,bZ]
theorem rI{p x:Int}(hx:0<=x):x.tmod p=x%p:=Int.tmod_eq_emod_of_nonneg hx
theorem tmod_neg{p x:Int}(hp:0<p)(hx:x<0):x.tmod p=x%p/\x%p=0\/x.tmod p=x%p-p/\0<x%p:=by
 have h:=Int.emod_nonneg x (show p≠0 by omega)
 by_cases hd:p ∣ x
 ·exact .inl ⟨by rw[Int.tmod_eq_emod,if_pos (.inr hd)];exact Int.sub_zero _,Int.emod_eq_zero_of_dvd hd⟩
 ·refine .inr ⟨?_,?_⟩
  ·rw[Int.tmod_eq_emod,if_neg (by rintro (h|h);omega;exact hd h)]
   omega
  ·have:x%p≠0:=fun e=>hd (Int.dvd_of_emod_eq_zero e)
   omega
theorem ES{p x:Int}(hp:0<p):x.tmod p=x%p/\(0<=x\/x%p=0)\/x.tmod p=x%p-p/\0<x%p/\x<0:=by
 by_cases h:0<=x
 ·exact .inl ⟨rI h,.inl h⟩
 ·rcases tmod_neg hp (show x<0 by omega) with h1|h1
  ·exact .inl ⟨h1.1,.inr h1.2⟩
  ·exact .inr ⟨h1.1,h1.2,by omega⟩
theorem Js(f:Int):af f=0/\¬(0<=f/\f<9)\/au (af f)/\0<=f/\f<9:=by
 by_cases h:0<=f/\f<9
 ·have hb:=kr h
  exact .inr ⟨⟨hb.1,hb.2.1⟩,h⟩
 ·exact .inl ⟨oL h,h⟩
theorem b9{f:Int}(h:af f≠0):au (af f)/\0<=f/\f<9:=by
 rcases Js f with h1|h1
 ·exact absurd h1.1 h
 ·exact h1
theorem mJ{p a b:Int}(hp:au p)(ha:El p a)(hb:El p b):0<=a*b/\a*b<=1009095135000000000:=by
 unfold au at hp
 unfold El at ha hb
 have h1:a*b<=1004535808*1004535808:=Int.mul_le_mul (by omega) (by omega) hb.1 (by omega)
 exact⟨Int.mul_nonneg ha.1 hb.1,by omega⟩
theorem sE{p a b:Int}(hp:au p)(ha:El p a)(hb:El p b):(i64.wrap (a*b)).tmod p=mulM p a b:=by
 have h:=mJ hp ha hb
 rw[wrap_small (by omega),rI h.1];rfl
theorem f_{p:Int}(hp:au p)(a b:Int):El p (mulM p a b):=ei (by unfold au at hp;omega) _
theorem xR{p:Int}(hp:au p)(a b:Int):El p (eO p a b):=ei (by unfold au at hp;omega) _
theorem lC{p:Int}(hp:au p)(a b:Int):El p (bR p a b):=ei (by unfold au at hp;omega) _
theorem CJ{p:Int}(hp:au p)(a:Int)(e:Nat):El p (b6 p a e):=ei (by unfold au at hp;omega) _
theorem uj{p:Int}(hp:au p)(a:Int):El p (bk p a):=CJ hp _ _
theorem ke{p:Int}(hp:au p):El p 1:=by unfold au at hp;exact⟨by omega,by omega⟩
theorem gA{p:Int}(hp:au p):El p 0:=by unfold au at hp;exact⟨by omega,by omega⟩
theorem VH{f:Int}(h:af f=0)(x:Int):eu f x = -1:=by unfold eu;rw[if_pos h]
theorem kz{f:Int}(h:af f≠0)(x:Int):eu f x=x%af f:=by unfold eu;rw[if_neg h]
theorem He{f:Int}(h:af f≠0)(a b:Int):po f a b=eO (af f) a b:=by unfold po;rw[if_neg h]
theorem yA{f:Int}(h:af f≠0)(a b:Int):jj f a b=bR (af f) a b:=by unfold jj;rw[if_neg h]
theorem lJ{f:Int}(h:af f≠0)(a b:Int):c8 f a b=mulM (af f) a b:=by unfold c8;rw[if_neg h]
theorem yn{f:Int}(h:af f≠0)(a e:Int):bG f a e=qi (af f) a e:=by unfold bG;rw[if_neg h]
theorem Nj{p a:Int}(hp:au p)(h:a%p≠0):qi p a (-1)=bk p a:=by
 unfold au at hp
 unfold qi bk
 rw[if_neg h]
 congr 2
 have:=Int.add_mul_emod_self_left (p-2) (p-1) (-1)
 rw[show p-2+(p-1) * -1 = -1 by omega] at this
 rw[this]
 exact Int.emod_eq_of_lt (by omega) (by omega)
theorem Ng{p r:Int}(hp:au p){x:Int×Int×Nat}(h:oA p r x)(ho:(x.2.2:Int).tmod 2=1):oA p r (mulM p x.1 x.1,mulM p x.2.1 x.1,x.2.2/2):=by
 obtain⟨a,b,n⟩:=x
 obtain⟨h1,h2,h3,h4⟩:=h
 refine⟨f_ hp _ _,f_ hp _ _,?_,by simp only at h4 ⊢;omega⟩
 rw[<-h3]
 simp only at *
 have hn:n=n/2+n/2+1:=by
  have:(n:Int).tmod 2=((n%2:Nat):Int):=rfl
  omega
 unfold mulM
 rw[bZ,<-bU,pow_mod,bU]
 conv=>rhs;rw[hn]
 congr 1
 rw[Int.pow_succ,Int.pow_add,Int.mul_pow]
 grind
theorem Jx{p r:Int}(hp:au p){x:Int×Int×Nat}(h:oA p r x)(ho:¬(x.2.2:Int).tmod 2=1):oA p r (mulM p x.1 x.1,x.2.1,x.2.2/2):=by
 obtain⟨a,b,n⟩:=x
 obtain⟨h1,h2,h3,h4⟩:=h
 refine⟨f_ hp _ _,h2,?_,by simp only at h4 ⊢;omega⟩
 rw[<-h3]
 simp only at *
 have hn:n=n/2+n/2:=by
  have:(n:Int).tmod 2=((n%2:Nat):Int):=rfl
  omega
 unfold mulM
 rw[<-bU,pow_mod,bU]
 conv=>rhs;rw[hn]
 congr 1
 rw[Int.pow_add,Int.mul_pow]
theorem Nf{p r:Int}{x:Int×Int×Nat}(h:oA p r x)(ho:¬(0:Int)<(x.2.2:Int)):x.2.1=r:=by
 obtain⟨a,b,n⟩:=x
 obtain⟨h1,h2,h3,h4⟩:=h
 simp only at *
 obtain rfl:n=0:=by omega
 rw[Int.pow_zero,Int.mul_one,gz h2] at h3
 exact h3
theorem sv{n:Nat}(h:(n:Int)<=9223372036854775807):i64.wrap ((n:Int).tdiv 2)=((n/2:Nat):Int):=by
 have:(n:Int).tdiv 2=((n/2:Nat):Int):=rfl
 rw[this,wrap_small (by omega)]
theorem Tn :
 ∀(d:Int×Int),Ty.wf ai d.1/\Ty.wf ai d.2->True->True/\(Ty.wf ai (af d.1)->(decide (af d.1=(0:Int))=true->(-1:Int)=eu d.1 d.2)/\(decide (af d.1=(0:Int))=false->af d.1≠(0:Int)/\(decide (Int.tmod d.2 (af d.1)<(0:Int))=true->i64.wrap (Int.tmod d.2 (af d.1)+af d.1)=eu d.1 d.2)/\(decide (Int.tmod d.2 (af d.1)<(0:Int))=false->Int.tmod d.2 (af d.1)=eu d.1 d.2))):=by
  intro (d:Int×Int) hw _
  obtain⟨f,x⟩:=d
  simp only[exists_const,forall_const,decide_eq_true_eq,decide_eq_false_iff_not,beq_iff_eq,sxS]
  intro _
  refine⟨fun h=>(VH h x).symm,fun h=>⟨h,fun h1=>?_,fun h1=>?_⟩⟩
  all_goals
   have hp:=(b9 h).1
   unfold au at hp
   rw[kz h]
   rcases ES (p:=af f) (x:=x) (by omega) with ⟨e,h2⟩|⟨e,h2,h3⟩
  ·have:=Int.emod_nonneg x h;omega
  ·rw[e,Int.sub_add_cancel,wrap_small]
   have:=ei (p:=af f) (by omega) x
   unfold El at this
   omega
  ·exact e
  ·have:=ei (p:=af f) (by omega) x
   unfold El at this
   omega
theorem Z8 :
 ∀(d:Int×Int×Int),Ty.wf ai d.1/\Ty.wf ai d.2.1/\Ty.wf ai d.2.2->True->True/\(Ty.wf ai (af d.1)->(decide (af d.1=(0:Int))=true->(-1:Int)=po d.1 d.2.1 d.2.2)/\(decide (af d.1=(0:Int))=false->True/\(Ty.wf ai (eu d.1 d.2.1)->True/\(Ty.wf ai (eu d.1 d.2.2)->True/\(Ty.wf ai (eu d.1 (i64.wrap (eu d.1 d.2.1+eu d.1 d.2.2)))->eu d.1 (i64.wrap (eu d.1 d.2.1+eu d.1 d.2.2))=po d.1 d.2.1 d.2.2))))):=by
  intro (d:Int×Int×Int) hw _
  obtain⟨f,a,b⟩:=d
  simp only[exists_const,forall_const,decide_eq_true_eq,decide_eq_false_iff_not,beq_iff_eq,sxS]
  intro _
  refine⟨fun h=>by unfold po;rw[if_pos h],fun h _ _ _=>?_⟩
  have hp:=(b9 h).1
  have h0:=ei (p:=af f) (by unfold au at hp;omega) a
  have h1:=ei (p:=af f) (by unfold au at hp;omega) b
  unfold El at h0 h1
  unfold au at hp
  rw[kz h,kz h,kz h,He h,wrap_small (by omega),eO,eC,fM]
theorem Z_ :
 ∀(d:Int×Int×Int),Ty.wf ai d.1/\Ty.wf ai d.2.1/\Ty.wf ai d.2.2->True->True/\(Ty.wf ai (af d.1)->(decide (af d.1=(0:Int))=true->(-1:Int)=jj d.1 d.2.1 d.2.2)/\(decide (af d.1=(0:Int))=false->True/\(Ty.wf ai (eu d.1 d.2.1)->True/\(Ty.wf ai (eu d.1 d.2.2)->True/\(Ty.wf ai (eu d.1 (i64.wrap (eu d.1 d.2.1-eu d.1 d.2.2)))->eu d.1 (i64.wrap (eu d.1 d.2.1-eu d.1 d.2.2))=jj d.1 d.2.1 d.2.2))))):=by
  intro (d:Int×Int×Int) hw _
  obtain⟨f,a,b⟩:=d
  simp only[exists_const,forall_const,decide_eq_true_eq,decide_eq_false_iff_not,beq_iff_eq,sxS]
  intro _
  refine⟨fun h=>by unfold jj;rw[if_pos h],fun h _ _ _=>?_⟩
  have hp:=(b9 h).1
  have h0:=ei (p:=af f) (by unfold au at hp;omega) a
  have h1:=ei (p:=af f) (by unfold au at hp;omega) b
  unfold El at h0 h1
  unfold au at hp
  rw[kz h,kz h,kz h,yA h,wrap_small (by omega),bR,pf,mQ]
theorem Z9 :
 ∀(d:Int×Int×Int),Ty.wf ai d.1/\Ty.wf ai d.2.1/\Ty.wf ai d.2.2->True->True/\(Ty.wf ai (af d.1)->(decide (af d.1=(0:Int))=true->(-1:Int)=c8 d.1 d.2.1 d.2.2)/\(decide (af d.1=(0:Int))=false->True/\(Ty.wf ai (eu d.1 d.2.1)->True/\(Ty.wf ai (eu d.1 d.2.2)->True/\(Ty.wf ai (eu d.1 (i64.wrap (eu d.1 d.2.1*eu d.1 d.2.2)))->eu d.1 (i64.wrap (eu d.1 d.2.1*eu d.1 d.2.2))=c8 d.1 d.2.1 d.2.2))))):=by
  intro (d:Int×Int×Int) hw _
  obtain⟨f,a,b⟩:=d
  simp only[exists_const,forall_const,decide_eq_true_eq,decide_eq_false_iff_not,beq_iff_eq,sxS]
  intro _
  refine⟨fun h=>by unfold c8;rw[if_pos h],fun h _ _ _=>?_⟩
  have hp:=(b9 h).1
  have h0:=ei (p:=af f) (by unfold au at hp;omega) a
  have h1:=ei (p:=af f) (by unfold au at hp;omega) b
  have h2:=mJ hp h0 h1
  rw[kz h,kz h,kz h,lJ h,wrap_small (by omega),mulM,bZ,bU]
theorem Wh :
 ∀(d:Int×Int×Int),Ty.wf ai d.1/\Ty.wf ai d.2.1/\Ty.wf ai d.2.2->True->True/\(Ty.wf ai (af d.1)->(decide (af d.1=(0:Int))=true->(-1:Int)=bG d.1 d.2.1 d.2.2)/\(decide (af d.1=(0:Int))=false->True/\(Ty.wf ai (eu d.1 d.2.1)->(decide (eu d.1 d.2.1=(0:Int))=true->(decide (d.2.2=(0:Int))=true->(1:Int)=bG d.1 d.2.1 d.2.2)/\(decide (d.2.2=(0:Int))=false->(decide (d.2.2<(0:Int))=true->(-1:Int)=bG d.1 d.2.1 d.2.2)/\(decide (d.2.2<(0:Int))=false->(0:Int)=bG d.1 d.2.1 d.2.2)))/\(decide (eu d.1 d.2.1=(0:Int))=false->i64.wrap (af d.1-(1:Int))≠(0:Int)/\((decide (Int.tmod d.2.2 (i64.wrap (af d.1-(1:Int)))<(0:Int))=true->∃(x':Unit),True/\d.1=d.1/\ae d.2.1/\ae d.2.2/\ae (0:Int)/\ae (af d.1)/\ae (eu d.1 d.2.1)/\i64.wrap (i64.wrap (Int.tmod d.2.2 (i64.wrap (af d.1-(1:Int)))+af d.1)-(1:Int))=(↑(Int.toNat (d.2.2%(af d.1-(1:Int)))):Int))/\(decide (Int.tmod d.2.2 (i64.wrap (af d.1-(1:Int)))<(0:Int))=false->∃(x':Unit),True/\d.1=d.1/\ae d.2.1/\ae d.2.2/\ae (0:Int)/\ae (af d.1)/\ae (eu d.1 d.2.1)/\Int.tmod d.2.2 (i64.wrap (af d.1-(1:Int)))=(↑(Int.toNat (d.2.2%(af d.1-(1:Int)))):Int)))/\∀(x:Unit),True->oA (af d.1) (b6 (af d.1) d.2.1 (Int.toNat (d.2.2%(af d.1-(1:Int))))) (d.2.1%af d.1,(1:Int),Int.toNat (d.2.2%(af d.1-(1:Int))))/\(d.1=d.1/\ae d.2.1/\ae d.2.2/\ae (0:Int)/\ae (af d.1)/\eu d.1 d.2.1=d.2.1%af d.1/\ae (↑(Int.toNat (d.2.2%(af d.1-(1:Int)))):Int)/\ae (1:Int))/\∀(x:Int×Int×Nat),oA (af d.1) (b6 (af d.1) d.2.1 (Int.toNat (d.2.2%(af d.1-(1:Int))))) x->(decide ((0:Int)<(x.2.2:Int))=true->(2:Int)≠(0:Int)/\(decide (Int.tmod (x.2.2:Int) (2:Int)=(1:Int))=true->af d.1≠(0:Int)/\af d.1≠(0:Int)/\(2:Int)≠(0:Int)/\∃(x':Int×Int×Nat),oA (af d.1) (b6 (af d.1) d.2.1 (Int.toNat (d.2.2%(af d.1-(1:Int))))) x'/\x'.2.2<x.2.2/\d.1=d.1/\ae d.2.1/\ae d.2.2/\ae (0:Int)/\ae (af d.1)/\Int.tmod (i64.wrap (x.1*x.1)) (af d.1)=x'.1/\i64.wrap (Int.tdiv (x.2.2:Int) (2:Int))=(x'.2.2:Int)/\Int.tmod (i64.wrap (x.2.1*x.1)) (af d.1)=x'.2.1)/\(decide (Int.tmod (x.2.2:Int) (2:Int)=(1:Int))=false->af d.1≠(0:Int)/\(2:Int)≠(0:Int)/\∃(x':Int×Int×Nat),oA (af d.1) (b6 (af d.1) d.2.1 (Int.toNat (d.2.2%(af d.1-(1:Int))))) x'/\x'.2.2<x.2.2/\d.1=d.1/\ae d.2.1/\ae d.2.2/\ae (0:Int)/\ae (af d.1)/\Int.tmod (i64.wrap (x.1*x.1)) (af d.1)=x'.1/\i64.wrap (Int.tdiv (x.2.2:Int) (2:Int))=(x'.2.2:Int)/\x.2.1=x'.2.1))/\(decide ((0:Int)<(x.2.2:Int))=false->x.2.1=bG d.1 d.2.1 d.2.2))))):=by
  intro (d:Int×Int×Int) hw _
  obtain⟨f,a,e⟩:=d
  simp only[exists_const,forall_const,decide_eq_true_eq,decide_eq_false_iff_not,beq_iff_eq,sxS]
  intro _
  refine⟨fun h=>by unfold bG;rw[if_pos h],fun h _=>?_⟩
  have hp:=(b9 h).1
  have aJ:=hp
  unfold au at hp
  rw[kz h,yn h,wrap_small (n:=af f-1) (by omega)]
  have hen:=ei (p:=af f-1) (by omega) e
  unfold El at hen
  refine⟨fun h1=>⟨fun h2=>by unfold qi;rw[if_pos h1,if_pos h2],fun h2=>⟨fun h3=>by unfold qi;rw[if_pos h1,if_neg h2,if_pos h3],fun h3=>by unfold qi;rw[if_pos h1,if_neg h2,if_neg h3]⟩⟩,fun h1=>⟨by omega,⟨fun h2=>?_,fun h2=>?_⟩,?_⟩⟩
  ·rcases ES (p:=af f-1) (x:=e) (by omega) with ⟨g,_⟩|⟨g,h3,h4⟩
   ·omega
   ·rw[g,wrap_small (n:=e%(af f-1)-(af f-1)+af f) (by omega),wrap_small (by omega)]
    omega
  ·rcases ES (p:=af f-1) (x:=e) (by omega) with ⟨g,_⟩|⟨g,h3,h4⟩<;>omega
  ·refine⟨⟨ei (by omega) a,ke aJ,?_,by simp only;omega⟩,rfl,fun x hx=>⟨fun h2=>⟨by decide,fun h3=>⟨h,h,by decide,?_⟩,fun h3=>⟨h,by decide,?_⟩⟩,fun h2=>?_⟩⟩
   ·simp only[Int.one_mul];exact pow_mod _ _ _
   ·exact⟨_,Ng aJ hx h3,by show x.2.2/2<x.2.2;omega,sE aJ hx.1 hx.1,sv hx.2.2.2,sE aJ hx.2.1 hx.1⟩
   ·exact⟨_,Jx aJ hx h3,by show x.2.2/2<x.2.2;omega,sE aJ hx.1 hx.1,sv hx.2.2.2,rfl⟩
   ·rw[Nf hx h2]
    unfold qi
    rw[if_neg h1]
theorem PW :
 ∀(d:Int×Int),Ty.wf ai d.1/\Ty.wf ai d.2->True->True/\(Ty.wf ai (bG d.1 d.2 (-1:Int))->ae (bG d.1 d.2 (-1:Int))):=by
  intro (d:Int×Int) hw _
  simp only[exists_const,forall_const,decide_eq_true_eq,decide_eq_false_iff_not,beq_iff_eq,sxS]
theorem Z5 :
 ∀(d:(Int×Int×Int)×Int×Int),Ty.wf bW d.1/\Ty.wf ai d.2.1/\Ty.wf ai d.2.2->au d.1.1/\El d.1.1 d.2.1/\El d.1.1 d.2.2->d.1.1≠(0:Int)/\Int.tmod (i64.wrap (d.2.1+d.2.2)) d.1.1=eO d.1.1 d.2.1 d.2.2:=by
  intro (d:Fd×Int×Int) hw hp
  obtain⟨⟨p,g,t⟩,a,b⟩:=d
  replace hp:au p/\El p a/\El p b:=hp
  simp only[exists_const,forall_const,decide_eq_true_eq,decide_eq_false_iff_not,beq_iff_eq,sxS]
  obtain⟨h0,h1,h2⟩:=hp
  unfold au at h0;unfold El at h1 h2
  rw[wrap_small (by omega)]
  exact⟨by omega,rI (by omega)⟩
theorem Z7 :
 ∀(d:(Int×Int×Int)×Int×Int),Ty.wf bW d.1/\Ty.wf ai d.2.1/\Ty.wf ai d.2.2->au d.1.1/\El d.1.1 d.2.1/\El d.1.1 d.2.2->d.1.1≠(0:Int)/\Int.tmod (i64.wrap (i64.wrap (d.2.1-d.2.2)+d.1.1)) d.1.1=bR d.1.1 d.2.1 d.2.2:=by
  intro (d:Fd×Int×Int) hw hp
  obtain⟨⟨p,g,t⟩,a,b⟩:=d
  replace hp:au p/\El p a/\El p b:=hp
  simp only[exists_const,forall_const,decide_eq_true_eq,decide_eq_false_iff_not,beq_iff_eq,sxS]
  obtain⟨h0,h1,h2⟩:=hp
  unfold au at h0;unfold El at h1 h2
  rw[wrap_small (n:=a-b) (by omega),wrap_small (by omega)]
  refine⟨by omega,?_⟩
  rw[rI (by omega),Int.add_emod_right];rfl
theorem Z6 :
 ∀(d:(Int×Int×Int)×Int×Int),Ty.wf bW d.1/\Ty.wf ai d.2.1/\Ty.wf ai d.2.2->au d.1.1/\El d.1.1 d.2.1/\El d.1.1 d.2.2->d.1.1≠(0:Int)/\Int.tmod (i64.wrap (d.2.1*d.2.2)) d.1.1=mulM d.1.1 d.2.1 d.2.2:=by
  intro (d:Fd×Int×Int) hw hp
  obtain⟨⟨p,g,t⟩,a,b⟩:=d
  replace hp:au p/\El p a/\El p b:=hp
  simp only[exists_const,forall_const,decide_eq_true_eq,decide_eq_false_iff_not,beq_iff_eq,sxS]
  obtain⟨h0,h1,h2⟩:=hp
  exact⟨by unfold au at h0;omega,sE h0 h1 h2⟩
theorem V_ :
 ∀(d:(Int×Int×Int)×Int×Int),Ty.wf bW d.1/\Ty.wf ai d.2.1/\Ty.wf ai d.2.2->au d.1.1/\El d.1.1 d.2.1/\(0:cj [ai])<=d.2.2->oA d.1.1 (b6 d.1.1 d.2.1 d.2.2.toNat) (d.2.1,(1:Int),d.2.2.toNat)/\(((ae d.1.1/\ae d.1.2.1/\ae d.1.2.2)/\ae d.2.1/\d.2.2=(d.2.2.toNat:Int)/\ae (0:Int)/\ae (1:Int))/\ae d.1.1/\ae d.1.2.1/\ae d.1.2.2)/\∀(x:Int×Int×Nat),oA d.1.1 (b6 d.1.1 d.2.1 d.2.2.toNat) x->(decide ((0:Int)<(x.2.2:Int))=true->(2:Int)≠(0:Int)/\(decide (Int.tmod (x.2.2:Int) (2:Int)=(1:Int))=true->(au d.1.1/\El d.1.1 x.2.1/\El d.1.1 x.1)/\(Ty.wf ai (mulM d.1.1 x.2.1 x.1)->(au d.1.1/\El d.1.1 x.1/\El d.1.1 x.1)/\(Ty.wf ai (mulM d.1.1 x.1 x.1)->(2:Int)≠(0:Int)/\∃(x':Int×Int×Nat),oA d.1.1 (b6 d.1.1 d.2.1 d.2.2.toNat) x'/\x'.2.2<x.2.2/\((ae d.1.1/\ae d.1.2.1/\ae d.1.2.2)/\mulM d.1.1 x.1 x.1=x'.1/\i64.wrap (Int.tdiv (x.2.2:Int) (2:Int))=(x'.2.2:Int)/\ae (0:Int)/\mulM d.1.1 x.2.1 x.1=x'.2.1)/\ae d.1.1/\ae d.1.2.1/\ae d.1.2.2)))/\(decide (Int.tmod (x.2.2:Int) (2:Int)=(1:Int))=false->(au d.1.1/\El d.1.1 x.1/\El d.1.1 x.1)/\(Ty.wf ai (mulM d.1.1 x.1 x.1)->(2:Int)≠(0:Int)/\∃(x':Int×Int×Nat),oA d.1.1 (b6 d.1.1 d.2.1 d.2.2.toNat) x'/\x'.2.2<x.2.2/\((ae d.1.1/\ae d.1.2.1/\ae d.1.2.2)/\mulM d.1.1 x.1 x.1=x'.1/\i64.wrap (Int.tdiv (x.2.2:Int) (2:Int))=(x'.2.2:Int)/\ae (0:Int)/\x.2.1=x'.2.1)/\ae d.1.1/\ae d.1.2.1/\ae d.1.2.2)))/\(decide ((0:Int)<(x.2.2:Int))=false->x.2.1=b6 d.1.1 d.2.1 d.2.2.toNat):=by
  intro (d:Fd×Int×Int) hw hp
  obtain⟨⟨p,g,t⟩,a,e⟩:=d
  replace hp:au p/\El p a/\(0:Int)<=e:=hp
  simp only[exists_const,forall_const,decide_eq_true_eq,decide_eq_false_iff_not,beq_iff_eq,sxS]
  obtain⟨h0,h1,h2⟩:=hp
  have he:e<=9223372036854775807:=hw.2.2.2
  refine⟨⟨h1,ke h0,by simp only[Int.one_mul];rfl,by simp only;omega⟩,by omega,fun x hx=>⟨fun h3=>⟨by decide,fun h4=>⟨⟨h0,hx.2.1,hx.1⟩,fun _=>⟨⟨h0,hx.1,hx.1⟩,fun _=>⟨by decide,?_⟩⟩⟩,fun h4=>⟨⟨h0,hx.1,hx.1⟩,fun _=>⟨by decide,?_⟩⟩⟩,fun h3=>Nf hx h3⟩⟩
  ·exact⟨_,Ng h0 hx h4,by show x.2.2/2<x.2.2;omega,rfl,sv hx.2.2.2,rfl⟩
  ·exact⟨_,Jx h0 hx h4,by show x.2.2/2<x.2.2;omega,rfl,sv hx.2.2.2,rfl⟩
theorem Px :
 ∀(d:(Int×Int×Int)×Int),Ty.wf bW d.1/\Ty.wf ai d.2->au d.1.1/\El d.1.1 d.2->(au d.1.1/\El d.1.1 d.2/\(0:cj [ai])<=i64.wrap (d.1.1-(2:Int)))/\(Ty.wf ai (b6 d.1.1 d.2 (Int.toNat (i64.wrap (d.1.1-(2:Int)))))->b6 d.1.1 d.2 (Int.toNat (i64.wrap (d.1.1-(2:Int))))=bk d.1.1 d.2):=by
  intro (d:Fd×Int) hw hp
  obtain⟨⟨p,g,t⟩,a⟩:=d
  replace hp:au p/\El p a:=hp
  simp only[exists_const,forall_const,decide_eq_true_eq,decide_eq_false_iff_not,beq_iff_eq,sxS]
  have h0:=hp.1
  unfold au at h0
  have nQ:i64.wrap (p-2)=p-2:=wrap_small (by omega)
  rw[nQ]
  exact⟨⟨hp.1,hp.2,show (0:Int)<=p-2 by omega⟩,fun _=>rfl⟩
set_option maxRecDepth 10000
def QP(p lo:Nat):Nat->Bool
 | 0=>p%lo != 0
 | n+1=>QP p lo n&&QP p (lo+2^n) n
theorem M3{p:Nat}:∀(n lo:Nat),QP p lo n=true->∀ d,lo<=d->d<lo+2^n->p%d≠0
 | 0,lo,h,d,h1,h2=>by
   obtain rfl:d=lo:=by simp at h2;omega
   simpa[QP] using h
 | n+1,lo,h,d,h1,h2=>by
   unfold QP at h
   rw[Bool.and_eq_true] at h
   rw[Nat.pow_succ] at h2
   by_cases hd:d<lo+2^n
   ·exact M3 n lo h.1 d h1 hd
   ·exact M3 n (lo+2^n) h.2 d (by omega) (by omega)
theorem adl{d n:Nat}{p:Nat}(h:d*d<=p)(hn:p<n*n):d<n:=by
 by_cases hd:d<n
 ·exact hd
 ·have:=Nat.mul_le_mul (Nat.le_of_not_lt hd) (Nat.le_of_not_lt hd)
  omega
theorem tV{p n:Nat}(h:QP p 2 n=true)(hn:p<(2+2^n)*(2+2^n)){d:Nat}(h2:2<=d)(hd:d*d<=p):p%d≠0 :=
 M3 n 2 h d h2 (adl hd hn)
theorem Xl{f:Int}(h:0<=f/\f<9){d:Nat}(h2:2<=d)(hd:d*d<=(af f).toNat):(af f).toNat%d≠0:=by
 rcases im h with rfl|rfl|rfl|rfl|rfl|rfl|rfl|rfl|rfl
 ·exact tV (p:=17) (n:=2) (by decide +kernel) (by decide) h2 hd
 ·exact tV (p:=97) (n:=3) (by decide +kernel) (by decide) h2 hd
 ·exact tV (p:=193) (n:=4) (by decide +kernel) (by decide) h2 hd
 ·exact tV (p:=257) (n:=4) (by decide +kernel) (by decide) h2 hd
 ·exact tV (p:=7681) (n:=7) (by decide +kernel) (by decide) h2 hd
 ·exact tV (p:=12289) (n:=7) (by decide +kernel) (by decide) h2 hd
 ·exact tV (p:=998244353) (n:=15) (by decide +kernel) (by decide) h2 hd
 ·exact tV (p:=469762049) (n:=15) (by decide +kernel) (by decide) h2 hd
 ·exact tV (p:=1004535809) (n:=15) (by decide +kernel) (by decide) h2 hd
theorem Vd{p:Nat}(hp:2<=p)(h:∀ d,2<=d->d*d<=p->p%d≠0){a b:Nat}(hd:p ∣ a*b):p ∣ a\/p ∣ b:=by
 obtain⟨k,hk⟩:=Nat.gcd_dvd_left p a
 generalize hg:Nat.gcd p a=g at hk
 have hga:g ∣ a:=hg▸Nat.gcd_dvd_right p a
 by_cases h1:g=1
 ·subst h1
  exact .inr (Nat.Coprime.dvd_of_dvd_mul_left hg hd)
 ·by_cases h2:k=1
  ·subst h2
   rw[Nat.mul_one] at hk
   exact .inl (hk▸hga)
  ·have hg0:g≠0:=by rintro rfl;omega
   have Jd:k≠0:=by rintro rfl;omega
   exfalso
   by_cases hle:g<=k
   ·refine h g (by omega) ?_ (by rw[hk,Nat.mul_mod_right])
    rw[hk];exact Nat.mul_le_mul_left g hle
   ·refine h k (by omega) ?_ (by rw[hk,Nat.mul_mod_left])
    rw[hk];exact Nat.mul_le_mul_right k (by omega)
structure Rk (p:Int):Prop where
 mod:au p
 pr:∀ a b:Int,a*b%p=0->a%p=0\/b%p=0
theorem nU{f:Int}(h:af f≠0):Rk (af f):=by
 obtain⟨h1,h2⟩:=b9 h
 refine⟨h1,fun a b ki=>?_⟩
 have h0:0<=af f:=by unfold au at h1;omega
 have hn:af f=(((af f).toNat:Nat):Int):=(Int.toNat_of_nonneg h0).symm
 have hd:(af f).toNat ∣ a.natAbs*b.natAbs:=by
  rw[<-Int.natAbs_mul]
  exact Int.natAbs_dvd_natAbs.2 (Int.dvd_of_emod_eq_zero ki) |> fun h=>by rwa [show (af f).natAbs=(af f).toNat by omega] at h
 have hs:∀ x:Int,(af f).toNat ∣ x.natAbs->x%af f=0:=fun x hx=>by
  refine Int.emod_eq_zero_of_dvd (Int.natAbs_dvd_natAbs.1 ?_)
  rwa [show (af f).natAbs=(af f).toNat by omega]
 rcases Vd (by unfold au at h1;omega) (fun d=>Xl h2) hd with h|h
 ·exact .inl (hs a h)
 ·exact .inr (hs b h)
theorem acP{p x y:Int}(hx:El p x)(hy:El p y)(h:x≠y):(x-y)%p≠0:=by
 intro e
 obtain⟨k,hk⟩:=Int.dvd_of_emod_eq_zero e
 unfold El at hx hy
 have h1:k=0:=by
  have hp:0<p:=by omega
  rcases Int.lt_trichotomy k 0 with h0|h0|h0
  ·have:=Int.mul_le_mul_of_nonneg_left (show k ≤ -1 by omega) (Int.le_of_lt hp)
   omega
  ·exact h0
  ·have:=Int.mul_le_mul_of_nonneg_left (show 1<=k by omega) (Int.le_of_lt hp)
   omega
 subst h1
 omega
theorem ab8{p a b:Int}(hp:Rk p)(ha:a%p≠0)(hb:b%p≠0):a*b%p≠0:=fun e=>(hp.pr a b e).elim ha hb
theorem mod_mod(p x:Int):x%p%p=x%p:=Int.emod_emod_of_dvd _ (Int.dvd_refl p)
set_option maxRecDepth 10000
theorem rS{p:Int}{xs:List Int}(h:aq p xs=true){i:Nat}(hi:i<xs.length):El p (xs.getD i 0):=by
 unfold aq at h
 rw[decide_eq_true_eq] at h
 have h1:=h (xs.getD i 0) (by rw[List.getD_eq_getElem?_getD,List.getElem?_eq_getElem hi];exact List.getElem_mem hi)
 unfold El
 omega
theorem kY{f:Int}{xs:List Int}(h:bT f xs=true):af f≠0/\1<=xs.length/\xs.length<=40/\aq (af f) xs=true/\xs.Nodup:=by
 unfold bT aC at h
 simp only[Bool.and_eq_true,decide_eq_true_eq] at h
 exact⟨h.1.2.1,h.1.1.1,h.1.1.2,h.1.2.2,h.2⟩
theorem So{f:Int}{xs:List Int}(h1:af f≠0)(h2:1<=xs.length)(h3:xs.length<=40)(h4:aq (af f) xs=true)(h5:xs.Nodup):bT f xs=true:=by
 unfold bT aC
 simp only[Bool.and_eq_true,decide_eq_true_eq]
 exact⟨⟨⟨h2,h3⟩,h1,h4⟩,h5⟩
theorem zD{xs:List Int}{x:Nat}(hx:x<xs.length):(xs.take (x+1)).Nodup↔(xs.take x).Nodup/\xs.getD x 0 ∉ xs.take x:=by
 rw[<-rH (z:=(0:Int)) hx,List.nodup_append]
 constructor
 ·rintro⟨h1,_,h2⟩
  exact⟨h1,fun hm=>h2 _ hm _ (List.mem_singleton.2 rfl) rfl⟩
 ·rintro⟨h1,h2⟩
  refine⟨h1,List.nodup_cons.2 ⟨by simp,List.nodup_nil⟩,fun a ha b hb e=>?_⟩
  rw[List.mem_singleton.1 hb] at e
  subst e
  exact h2 ha
theorem Se{xs:List Int}(h:xs.Nodup)(n:Nat):(xs.take n).Nodup:=h.sublist (List.take_sublist n xs)
theorem MW{xs:List Int}{x:Nat}{y:Int}(hx:x<xs.length)(h:y ∉ xs.take x)(hy:¬xs.getD x 0=y):y ∉ xs.take (x+1):=by
 rw[<-rH (z:=(0:Int)) hx]
 intro hm
 rcases List.mem_append.1 hm with hm|hm
 ·exact h hm
 ·exact hy (List.mem_singleton.1 hm).symm
theorem v5{xs:List Int}{x y:Nat}(h:y<x):(xs.take x).getD y 0=xs.getD y 0:=by
 rw[List.getD_eq_getElem?_getD,List.getD_eq_getElem?_getD,List.getElem?_take,if_pos h]
theorem MV{xs:List Int}{x:Nat}(h:x<xs.length):xs.getD x 0∈xs:=by
 rw[List.getD_eq_getElem?_getD,List.getElem?_eq_getElem h];exact List.getElem_mem h
theorem M6{xs:List Int}(h:xs.Nodup){i j:Nat}(hi:i<xs.length)(hj:j<xs.length)(Yl:i≠j):xs.getD i 0≠xs.getD j 0:=by
 rw[List.getD_eq_getElem?_getD,List.getD_eq_getElem?_getD,List.getElem?_eq_getElem hi,List.getElem?_eq_getElem hj]
 exact fun e=>Yl ((List.getElem_inj h).1 e)
theorem RD{p:Int}(hp:au p)(xs:List Int)(i:Nat):∀ n,El p (il p xs i n)
 | 0=>ke hp
 | n+1=>by
   unfold il
   split
   ·exact RD hp xs i n
   ·exact f_ hp _ _
theorem Ru{p:Int}(hp:Rk p){xs:List Int}(he:aq p xs=true)(hn:xs.Nodup){i:Nat}(hi:i<xs.length):∀ n,n<=xs.length->il p xs i n%p≠0
 | 0,_=>by
   rw[show il p xs i 0=1 from rfl,gz (ke hp.mod)];decide
 | n+1,h=>by
   unfold il
   split
   ·exact Ru hp he hn hi n (by omega)
   ·rename_i bo
    unfold mulM bR
    rw[mod_mod]
    refine ab8 hp (Ru hp he hn hi n (by omega)) ?_
    rw[mod_mod]
    exact acP (rS he hi) (rS he (by omega)) (M6 hn hi (by omega) (Ne.symm bo))
theorem Gm{f:Int}{xs:List Int}(h:bT f xs=true):iT f xs=((ar f).1,true):=by unfold iT;rw[if_pos h]
theorem YL{f:Int}{xs:List Int}(h:bT f xs=false):iT f xs=((0,0,0),false):=by unfold iT;rw[h];rfl
theorem Vm{f:Int}{xs:List Int}:(iT f xs).2=bT f xs:=by
 cases h:bT f xs
 ·rw[YL h]
 ·rw[Gm h]
theorem aca{f:Int}{xs:List Int}(h:bT f xs=true):(iT f xs).1.1=af f:=by rw[Gm h];rfl
theorem Tr :
 ∀(d:List Int×Int),Ty.wf aj d.1/\Ty.wf ai d.2->True->((0:Nat)<=d.1.length/\¬d.2∈List.take (0:Nat) d.1)/\(d.1=d.1/\d.2=d.2/\(0:Int)=(↑(0:Nat):Int))/\∀(x:Nat),x<=d.1.length/\¬d.2∈List.take x d.1->(decide ((x:Int)<(d.1.length:Int))=true->((0:Int)<=(x:Int)/\(x:Int)<(d.1.length:Int))/\(decide (d.1.getD ((x:Int).toNat) (0:Int)=d.2)=true->true=zf d.1 d.2)/\(decide (d.1.getD ((x:Int).toNat) (0:Int)=d.2)=false->∃(x':Nat),(x'<=d.1.length/\¬d.2∈List.take x' d.1)/\d.1.length-x'<d.1.length-x/\d.1=d.1/\d.2=d.2/\i64.wrap ((x:Int)+(1:Int))=(x':Int)))/\(decide ((x:Int)<(d.1.length:Int))=false->false=zf d.1 d.2):=by
  intro (d:List Int×Int) hw _
  obtain⟨l,y⟩:=d
  have hl:l.length<=9223372036854775807:=hw.1.1
  simp only[exists_const,forall_const,decide_eq_true_eq,decide_eq_false_iff_not,beq_iff_eq,sxS]
  refine⟨⟨by omega,by simp⟩,rfl,fun x hx=>⟨fun h=>⟨⟨by omega,by omega⟩,fun h1=>?_,fun h1=>?_⟩,fun h=>?_⟩⟩
  ·unfold zf
   refine (decide_eq_true ?_).symm
   rw[<-h1];exact MV (by omega)
  ·exact⟨x+1,⟨by omega,MW (by omega) hx.2 h1⟩,by omega,aG (by omega)⟩
  ·unfold zf
   refine (decide_eq_false ?_).symm
   have:=hx.2
   rwa [List.take_of_length_le (by omega)] at this
theorem OC :
 ∀(d:Int×List Int),Ty.wf ai d.1/\Ty.wf aj d.2->True->True/\((!(decide ((1:Int)<=(d.2.length:Int))&&decide ((d.2.length:Int)<=(40:Int))))=true->false=bT d.1 d.2)/\((!(decide ((1:Int)<=(d.2.length:Int))&&decide ((d.2.length:Int)<=(40:Int))))=false->True/\((!aC d.1 d.2)=true->false=bT d.1 d.2)/\((!aC d.1 d.2)=false->((0:Nat)<=d.2.length/\List.Nodup (List.take (0:Nat) d.2))/\(d.1=d.1/\d.2=d.2/\(0:Int)=(↑(0:Nat):Int))/\∀(x:Nat),x<=d.2.length/\List.Nodup (List.take x d.2)->(decide ((x:Int)<(d.2.length:Int))=true->((0:Int)<=(0:Int)/\(0:Int)<=(x:Int)/\(x:Int)<=(d.2.length:Int))/\((0:Int)<=(x:Int)/\(x:Int)<(d.2.length:Int))/\True/\(zf (List.drop ((0:Int).toNat) (List.take ((x:Int).toNat) d.2)) (d.2.getD ((x:Int).toNat) (0:Int))=true->false=bT d.1 d.2)/\(zf (List.drop ((0:Int).toNat) (List.take ((x:Int).toNat) d.2)) (d.2.getD ((x:Int).toNat) (0:Int))=false->∃(x':Nat),(x'<=d.2.length/\List.Nodup (List.take x' d.2))/\d.2.length-x'<d.2.length-x/\d.1=d.1/\d.2=d.2/\i64.wrap ((x:Int)+(1:Int))=(x':Int)))/\(decide ((x:Int)<(d.2.length:Int))=false->true=bT d.1 d.2))):=by
  intro (d:Int×List Int) hw _
  obtain⟨f,xs⟩:=d
  have hl:xs.length<=9223372036854775807:=hw.2.1
  simp only[exists_const,forall_const,decide_eq_true_eq,decide_eq_false_iff_not,beq_iff_eq,sxS]
  refine⟨fun h=>?_,fun h=>⟨fun h1=>?_,fun h1=>⟨⟨by omega,by simp⟩,rfl,fun x hx=>⟨fun h2=>⟨⟨by omega,by omega,by omega⟩,⟨by omega,by omega⟩,fun h3=>?_,fun h3=>?_⟩,fun h2=>?_⟩⟩⟩⟩
  ·cases hp:bT f xs with
   | false=>rfl
   | true =>
     have:=kY hp
     rw[decide_eq_true (show (1:Int)<=xs.length by omega),decide_eq_true (show (xs.length:Int)<=40 by omega)] at h
     cases h
  ·unfold bT
   rw[h1,Bool.and_false];rfl
  ·simp only[Int.toNat_zero,List.drop_zero] at h3
   cases hp:bT f xs with
   | false=>rfl
   | true =>
     have h4:=Se (kY hp).2.2.2.2 (x+1)
     rw[zD (by omega)] at h4
     exact absurd (of_decide_eq_true h3) h4.2
  ·simp only[Int.toNat_zero,List.drop_zero] at h3
   exact⟨x+1,⟨by omega,(zD (by omega)).2 ⟨hx.2,of_decide_eq_false h3⟩⟩,by omega,aG (by omega)⟩
  ·have h3:=hx.2
   rw[List.take_of_length_le (by omega)] at h3
   simp only[Bool.and_eq_true,decide_eq_true_eq] at h
   unfold aC at h1
   rw[Bool.and_eq_true,decide_eq_true_eq] at h1
   exact (So h1.1 (by omega) (by omega) h1.2 h3).symm
theorem Ii :
 ∀(d:Int×List Int),Ty.wf ai d.1/\Ty.wf aj d.2->True->True/\(Ty.wf bW (ar d.1).1/\Ty.wf Ty.bool (ar d.1).2->((!(ar d.1).2)=true->(((0:Int),(0:Int),(0:Int)),false)=iT d.1 d.2)/\((!(ar d.1).2)=false->(decide ((d.2.length:Int)<(1:Int))=true->(((0:Int),(0:Int),(0:Int)),false)=iT d.1 d.2)/\(decide ((d.2.length:Int)<(1:Int))=false->(decide ((40:Int)<(d.2.length:Int))=true->(((0:Int),(0:Int),(0:Int)),false)=iT d.1 d.2)/\(decide ((40:Int)<(d.2.length:Int))=false->True/\((!aq (ar d.1).1.1 d.2)=true->(((0:Int),(0:Int),(0:Int)),false)=iT d.1 d.2)/\((!aq (ar d.1).1.1 d.2)=false->((0:Nat)<=d.2.length/\List.Nodup (List.take (0:Nat) d.2))/\((d.1=d.1/\d.2=d.2/\ae ((ar d.1).2)/\d.2=d.2/\ae (d.2.length:Int)/\(0:Int)=(↑(0:Nat):Int))/\(ae (0:Int)/\ae (0:Int)/\ae (0:Int))/\ae ((ar d.1).1.1)/\ae ((ar d.1).1.2.1)/\ae ((ar d.1).1.2.2))/\∀(x:Nat),x<=d.2.length/\List.Nodup (List.take x d.2)->(decide ((x:Int)<(d.2.length:Int))=true->((0:Int)<=(x:Int)/\(x:Int)<(d.2.length:Int))/\((0:Int)<=(0:Int)/\(0:Int)<=(x:Int)/\(x:Int)<=(d.2.length:Int))/\((0:Nat)<=x/\¬d.2.getD x (0:Int)∈List.take (0:Nat) d.2)/\((d.1=d.1/\d.2=d.2/\ae ((ar d.1).2)/\ae (x:Int)/\ae (d.2.getD ((x:Int).toNat) (0:Int))/\d.2=d.2/\ae (d.2.length:Int)/\ae (x:Int)/\ae (List.drop ((0:Int).toNat) (List.take ((x:Int).toNat) d.2))/\ae (↑(List.length (List.drop ((0:Int).toNat) (List.take ((x:Int).toNat) d.2))):Int)/\(0:Int)=(↑(0:Nat):Int))/\(ae (0:Int)/\ae (0:Int)/\ae (0:Int))/\ae ((ar d.1).1.1)/\ae ((ar d.1).1.2.1)/\ae ((ar d.1).1.2.2))/\∀(x_1:Nat),x_1<=x/\¬d.2.getD x (0:Int)∈List.take x_1 d.2->(decide ((x_1:Int)<(↑(List.length (List.drop ((0:Int).toNat) (List.take ((x:Int).toNat) d.2))):Int))=true->((0:Int)<=(x_1:Int)/\(x_1:Int)<(↑(List.length (List.drop ((0:Int).toNat) (List.take ((x:Int).toNat) d.2))):Int))/\(decide (d.2.getD ((x:Int).toNat) (0:Int)=List.getD (List.drop ((0:Int).toNat) (List.take ((x:Int).toNat) d.2)) ((x_1:Int).toNat) (0:Int))=true->(((0:Int),(0:Int),(0:Int)),false)=iT d.1 d.2)/\(decide (d.2.getD ((x:Int).toNat) (0:Int)=List.getD (List.drop ((0:Int).toNat) (List.take ((x:Int).toNat) d.2)) ((x_1:Int).toNat) (0:Int))=false->∃(x':Nat),(x'<=x/\¬d.2.getD x (0:Int)∈List.take x' d.2)/\x-x'<x-x_1/\(d.1=d.1/\d.2=d.2/\ae ((ar d.1).2)/\ae (x:Int)/\ae (d.2.getD ((x:Int).toNat) (0:Int))/\d.2=d.2/\ae (d.2.length:Int)/\ae (x:Int)/\ae (List.drop ((0:Int).toNat) (List.take ((x:Int).toNat) d.2))/\ae (↑(List.length (List.drop ((0:Int).toNat) (List.take ((x:Int).toNat) d.2))):Int)/\i64.wrap ((x_1:Int)+(1:Int))=(x':Int))/\(ae (0:Int)/\ae (0:Int)/\ae (0:Int))/\ae ((ar d.1).1.1)/\ae ((ar d.1).1.2.1)/\ae ((ar d.1).1.2.2)))/\(decide ((x_1:Int)<(↑(List.length (List.drop ((0:Int).toNat) (List.take ((x:Int).toNat) d.2))):Int))=false->∃(x':Nat),(x'<=d.2.length/\List.Nodup (List.take x' d.2))/\d.2.length-x'<d.2.length-x/\(d.1=d.1/\d.2=d.2/\ae ((ar d.1).2)/\d.2=d.2/\ae (d.2.length:Int)/\i64.wrap ((x:Int)+(1:Int))=(x':Int))/\(ae (0:Int)/\ae (0:Int)/\ae (0:Int))/\ae ((ar d.1).1.1)/\ae ((ar d.1).1.2.1)/\ae ((ar d.1).1.2.2)))/\(decide ((x:Int)<(d.2.length:Int))=false->((Prod.fst (ar d.1).1,(ar d.1).1.2.1,(ar d.1).1.2.2),true)=iT d.1 d.2)))))):=by
  intro (d:Int×List Int) hw _
  obtain⟨f,xs⟩:=d
  have hl:xs.length<=9223372036854775807:=hw.2.1
  simp only[exists_const,forall_const,decide_eq_true_eq,decide_eq_false_iff_not,beq_iff_eq,sxS]
  intro _
  have lu:∀ {P:Prop},(bT f xs=true->False)->((0,0,0),false)=iT f xs:=fun h=>by
   cases hp:bT f xs with
   | false=>rw[YL hp]
   | true=>exact (h hp).elim
  have hf:∀ {b},(ar f).2=b->b=true->af f≠0:=fun h e=>by
   subst e
   have:=kr (fU.1 h)
   omega
  refine⟨fun h=>lu (P:=True) (fun hp=>?_),fun h=>⟨fun h1=>lu (P:=True) (fun hp=>?_),fun h1=>⟨fun h2=>lu (P:=True) (fun hp=>?_),fun h2=>⟨fun h3=>lu (P:=True) (fun hp=>?_),fun h3=>?_⟩⟩⟩⟩
  ·have:=kY hp
   have h4:¬(0<=f/\f<9):=fun hh=>by rw[fU.2 hh] at h;cases h
   exact this.1 (oL h4)
  ·have:=kY hp;omega
  ·have:=kY hp;omega
  ·have:=(kY hp).2.2.2.1
   rw[show af f=(ar f).1.1 from rfl,h3] at this;cases this
  ·refine⟨⟨by omega,by simp⟩,rfl,fun x hx=>⟨fun h4=>⟨⟨by omega,by omega⟩,⟨by omega,by omega,by omega⟩,⟨by omega,by simp⟩,rfl,fun y hy=>?_⟩,fun h4=>?_⟩⟩
   ·simp only[Int.toNat_zero,List.drop_zero,List.length_take]
    rw[Nat.min_eq_left (by omega)]
    refine⟨fun h5=>⟨⟨by omega,by omega⟩,?_⟩,fun h5=>?_⟩
    ·rw[v5 (by omega)]
     refine⟨fun h6=>lu (P:=True) (fun hp=>?_),fun h6=>?_⟩
     ·exact M6 (kY hp).2.2.2.2 (i:=x) (j:=y) (by omega) (by omega) (by omega) h6
     ·exact⟨y+1,⟨by omega,MW (by omega) hy.2 (Ne.symm h6)⟩,by omega,aG (by omega)⟩
    ·obtain rfl:y=x:=by omega
     exact⟨y+1,⟨by omega,(zD (by omega)).2 ⟨hx.2,hy.2⟩⟩,by omega,aG (by omega)⟩
   ·have h5:=hx.2
    rw[List.take_of_length_le (by omega)] at h5
    rw[Gm (So (hf h rfl) (by omega) (by omega) h3 h5)]
theorem Te :
 ∀(d:(Int×Int×Int)×List Int×Int),Ty.wf bW d.1/\Ty.wf aj d.2.1/\Ty.wf ai d.2.2->au d.1.1/\aq d.1.1 d.2.1=true/\(0:cj [ai])<=d.2.2/\d.2.2<(↑d.2.1.length:cj [ai])->(0:Nat)<=d.2.1.length/\(((ae d.1.1/\ae d.1.2.1/\ae d.1.2.2)/\ae d.2.1/\ae d.2.2/\ae (0:Int)/\(1:Int)=il d.1.1 d.2.1 d.2.2.toNat (0:Nat)/\ae d.2.1/\ae (d.2.1.length:Int)/\(0:Int)=(↑(0:Nat):Int))/\ae d.1.1/\ae d.1.2.1/\ae d.1.2.2)/\∀(x:Nat),x<=d.2.1.length->(decide ((x:Int)<(d.2.1.length:Int))=true->((0:Int)<=(x:Int)/\(x:Int)<(d.2.1.length:Int))/\((!decide ((x:Int)=d.2.2))=true->((0:Int)<=d.2.2/\d.2.2<(d.2.1.length:Int))/\(au d.1.1/\El d.1.1 (d.2.1.getD d.2.2.toNat (0:Int))/\El d.1.1 (d.2.1.getD ((x:Int).toNat) (0:Int)))/\(au d.1.1/\El d.1.1 (il d.1.1 d.2.1 d.2.2.toNat x)/\El d.1.1 (bR d.1.1 (d.2.1.getD d.2.2.toNat (0:Int)) (d.2.1.getD ((x:Int).toNat) (0:Int))))/\(Ty.wf ai (mulM d.1.1 (il d.1.1 d.2.1 d.2.2.toNat x) (bR d.1.1 (d.2.1.getD d.2.2.toNat (0:Int)) (d.2.1.getD ((x:Int).toNat) (0:Int))))->Ty.wf ai (bR d.1.1 (d.2.1.getD d.2.2.toNat (0:Int)) (d.2.1.getD ((x:Int).toNat) (0:Int)))->∃(x':Nat),x'<=d.2.1.length/\d.2.1.length-x'<d.2.1.length-x/\((ae d.1.1/\ae d.1.2.1/\ae d.1.2.2)/\ae d.2.1/\ae d.2.2/\ae (0:Int)/\mulM d.1.1 (il d.1.1 d.2.1 d.2.2.toNat x) (bR d.1.1 (d.2.1.getD d.2.2.toNat (0:Int)) (d.2.1.getD ((x:Int).toNat) (0:Int)))=il d.1.1 d.2.1 d.2.2.toNat x'/\ae d.2.1/\ae (d.2.1.length:Int)/\i64.wrap ((x:Int)+(1:Int))=(x':Int))/\ae d.1.1/\ae d.1.2.1/\ae d.1.2.2))/\((!decide ((x:Int)=d.2.2))=false->∃(x':Nat),x'<=d.2.1.length/\d.2.1.length-x'<d.2.1.length-x/\((ae d.1.1/\ae d.1.2.1/\ae d.1.2.2)/\ae d.2.1/\ae d.2.2/\ae (0:Int)/\il d.1.1 d.2.1 d.2.2.toNat x=il d.1.1 d.2.1 d.2.2.toNat x'/\ae d.2.1/\ae (d.2.1.length:Int)/\i64.wrap ((x:Int)+(1:Int))=(x':Int))/\ae d.1.1/\ae d.1.2.1/\ae d.1.2.2))/\(decide ((x:Int)<(d.2.1.length:Int))=false->(au d.1.1/\El d.1.1 (il d.1.1 d.2.1 d.2.2.toNat x))/\(Ty.wf ai (bk d.1.1 (il d.1.1 d.2.1 d.2.2.toNat x))->bk d.1.1 (il d.1.1 d.2.1 d.2.2.toNat x)=n6 d.1.1 d.2.1 d.2.2.toNat)):=by
  intro (d:Fd×List Int×Int) hw hp
  obtain⟨⟨p,g,t⟩,xs,i⟩:=d
  have hl:xs.length<=9223372036854775807:=hw.2.1.1
  replace hp:au p/\aq p xs=true/\(0:Int)<=i/\i<(xs.length:Nat):=hp
  simp only[exists_const,forall_const,decide_eq_true_eq,decide_eq_false_iff_not,beq_iff_eq,sxS]
  obtain⟨h0,h1,h2,h3⟩:=hp
  obtain⟨n,rfl⟩:=Int.eq_ofNat_of_zero_le h2
  simp only[Int.toNat_natCast]
  refine⟨by omega,⟨rfl,rfl⟩,fun x hx=>⟨fun h4=>⟨⟨by omega,by omega⟩,fun h5=>⟨⟨by omega,by omega⟩,⟨h0,rS h1 (by omega),rS h1 (by omega)⟩,⟨h0,RD h0 _ _ _,lC h0 _ _⟩,fun _ _=>?_⟩,fun h5=>?_⟩,fun h4=>?_⟩⟩
  ·refine⟨x+1,by omega,by omega,?_,aG (by omega)⟩
   show _=if x=n then _ else _
   rw[if_neg (by omega)]
  ·refine⟨x+1,by omega,by omega,?_,aG (by omega)⟩
   show _=if x=n then _ else _
   rw[if_pos (by omega)]
  ·obtain rfl:x=xs.length:=by omega
   exact⟨⟨h0,RD h0 _ _ _⟩,fun _=>rfl⟩
set_option maxRecDepth 10000
theorem jB{α:Type}(g:Nat->α)(n:Nat):((List.range n).map g).length=n:=by rw[List.length_map,List.length_range]
theorem qd(g:Nat->Int)(n i:Nat):((List.range n).map g).getD i 0=if i<n then g i else 0:=by
 rw[List.getD_eq_getElem?_getD,List.getElem?_map]
 by_cases h:i<n
 ·rw[List.getElem?_range h,if_pos h];rfl
 ·rw[List.getElem?_eq_none (by rw[List.length_range];omega),if_neg h];rfl
theorem yh{α:Type}(g:Nat->α)(n:Nat):(List.range n).map g++[g n]=(List.range (n+1)).map g:=by rw[List.range_succ,List.map_append];rfl
theorem eG{α:Type}{g h:Nat->α}{n:Nat}(e:∀ i,i<n->g i=h i):(List.range n).map g=(List.range n).map h :=
 List.map_congr_left (fun i hi=>e i (List.mem_range.1 hi))
theorem qe{α:Type}(g:Nat->α)(n i:Nat)(v:α):((List.range n).map g).set i v=(List.range n).map (fun t=>if t=i then v else g t):=by
 apply List.ext_getElem?
 intro j
 simp only[List.getElem?_set,List.getElem?_map,List.length_map,List.length_range]
 by_cases h:i=j
 ·subst h
  by_cases hn:i<n
  ·simp[hn]
  ·simp[hn]
 ·by_cases hn:j<n
  ·simp[h,hn,Ne.symm h]
  ·simp[h,hn]
theorem vr{α:Type}(v:α)(n:Nat):List.replicate n v=(List.range n).map (fun _=>v):=by rw[List.map_const',List.length_range]
theorem fc{p:Int}(hp:au p){xs:List Int}(h:aq p xs=true)(i:Nat):El p (xs.getD i 0):=by
 by_cases hi:i<xs.length
 ·exact rS h hi
 ·rw[List.getD_eq_getElem?_getD,List.getElem?_eq_none (by omega)]
  exact gA hp
theorem yO{p:Int}{xs:List Int}(h:∀ i,i<xs.length->El p (xs.getD i 0)):aq p xs=true:=by
 unfold aq
 rw[decide_eq_true_eq]
 intro x hx
 obtain⟨i,hi,rfl⟩:=List.getElem_of_mem hx
 have:=h i hi
 rw[List.getD_eq_getElem?_getD,List.getElem?_eq_getElem hi] at this
 unfold El at this
 simp only[Option.getD_some] at this
 omega
theorem Eb{p:Int}{g:Nat->Int}{n:Nat}(h:∀ i,i<n->El p (g i)):aq p ((List.range n).map g)=true:=by
 refine yO (fun i hi=>?_)
 rw[jB] at hi
 rw[qd,if_pos hi]
 exact h i hi
theorem RE{p:Int}{xs:List Int}(h:aq p xs=true)(n:Nat):aq p (xs.take n)=true:=by
 unfold aq at *
 rw[decide_eq_true_eq] at *
 exact fun x hx=>h x (List.mem_of_mem_take hx)
theorem jt{f:Int}{a:List Int}(h:aC f a=true):af f≠0/\aq (af f) a=true:=by
 unfold aC at h
 rw[Bool.and_eq_true,decide_eq_true_eq] at h
 exact h
theorem iH{f:Int}{a:List Int}(h:af f≠0)(h1:aq (af f) a=true):aC f a=true:=by
 unfold aC
 rw[Bool.and_eq_true,decide_eq_true_eq]
 exact⟨h,h1⟩
theorem CG(l:List Int):∀ n,oC l n<=n
 | 0=>Nat.le_refl _
 | n+1=>by
   unfold oC
   split
   ·have:=CG l n;omega
   ·exact Nat.le_refl _
theorem xO(l:List Int):ka l<=l.length:=CG l _
theorem IW(l:List Int):qY l l.length:=⟨Nat.le_refl _,rfl⟩
theorem Lt{l:List Int}{k:Nat}(h:qY l (k+1))(h0:l.getD k 0=0):qY l k:=by
 refine⟨by have:=h.1;omega,?_⟩
 have:=h.2
 unfold oC at this
 rwa [if_pos h0] at this
theorem Lu{l:List Int}{k:Nat}(h:qY l (k+1))(h0:¬l.getD k 0=0):k+1=ka l:=by
 have:=h.2
 unfold oC at this
 rwa [if_neg h0] at this
theorem Qi{l:List Int}(h:qY l 0):0=ka l:=h.2
theorem oP(l:List Int):(cf l).length=ka l:=by
 unfold cf
 rw[List.length_take,Nat.min_eq_left (xO l)]
theorem ju(l:List Int):jk l=true↔l.length=0\/l.getD (l.length-1) 0≠0:=by
 unfold jk ka
 rw[decide_eq_true_eq]
 match h:l.length with
 | 0=>exact⟨fun _=>.inl rfl,fun _=>rfl⟩
 | n+1 =>
   rw[Nat.add_sub_cancel]
   unfold oC
   split
   ·rename_i h0
    have:=CG l n
    exact⟨fun e=>by omega,fun e=>e.elim (fun e=>by omega) (fun e=>absurd h0 e)⟩
   ·rename_i h0
    exact⟨fun _=>.inr h0,fun _=>rfl⟩
theorem c6{f:Int}{a:List Int}(h:aZ f a=true):af f≠0/\aq (af f) a=true/\a.length<=400/\jk a=true:=by
 unfold aZ at h
 simp only[Bool.and_eq_true,decide_eq_true_eq] at h
 have:=jt h.1.2
 exact⟨this.1,this.2,h.1.1,h.2⟩
theorem lK{f:Int}{a:List Int}(h:af f≠0)(h1:aq (af f) a=true)(h2:a.length<=400)(h3:jk a=true):aZ f a=true:=by
 unfold aZ
 simp only[Bool.and_eq_true,decide_eq_true_eq]
 exact⟨⟨h2,iH h h1⟩,h3⟩
theorem TL(a:List Int)(x:Nat):gu a (x:Int)=a.getD x 0:=by
 unfold gu
 rw[if_pos (by omega),Int.toNat_natCast]
theorem Fl(p:Int)(a b:List Int)(n:Nat):fC p a b n++[eO p (a.getD n 0) (b.getD n 0)]=fC p a b (n+1):=yh _ n
theorem A9(p:Int)(a b:List Int)(n:Nat):(fC p a b n).length=n:=jB _ n
theorem JF(p:Int)(a:List Int)(c:Int)(n:Nat):kD p a c n++[mulM p (a.getD n 0) c]=kD p a c (n+1):=yh _ n
theorem EK(p:Int)(a:List Int)(c:Int)(n:Nat):(kD p a c n).length=n:=jB _ n
theorem Sd(p:Int)(a b:List Int)(n:Nat):fq p a b n++[fL p a b n (min (n+1) a.length)]=fq p a b (n+1):=yh (fun i=>fL p a b i (min (i+1) a.length)) n
theorem wu(p:Int)(a b:List Int)(n:Nat):(fq p a b n).length=n:=jB _ n
theorem Hp{p:Int}(hp:au p)(a b:List Int)(i:Nat):∀ j,El p (fL p a b i j)
 | 0=>gA hp
 | j+1=>by
   unfold fL
   split
   ·exact ei (by unfold au at hp;omega) _
   ·exact Hp hp a b i j
theorem sI{p:Int}{a b:List Int}{i j:Nat}(h:i-j<b.length):fL p a b i (j+1)=(fL p a b i j+a.getD j 0*b.getD (i-j) 0)%p:=by
 show (if _ then _ else _)=_
 rw[if_pos h]
theorem wz{p:Int}{a b:List Int}{i j:Nat}(h:¬i-j<b.length):fL p a b i (j+1)=fL p a b i j:=by
 show (if _ then _ else _)=_
 rw[if_neg h]
theorem Li{p s a b:Int}(hp:au p)(hs:El p s)(ha:El p a)(hb:El p b):(i64.wrap (s+i64.wrap (a*b))).tmod p=(s+a*b)%p:=by
 have h:=mJ hp ha hb
 unfold au at hp;unfold El at hs
 rw[wrap_small (n:=a*b) (by omega),wrap_small (by omega),rI (by omega)]
theorem C1(p:Int)(a b:List Int)(x y:Nat):(eU p a b x y).length=a.length+b.length-1:=jB _ _
theorem XD(p:Int)(a b:List Int):List.replicate (a.length+b.length-1) 0=eU p a b 0 0:=by
 rw[vr]
 refine eG (fun t _=>?_)
 rw[if_neg (by omega),Nat.zero_min]
 rfl
theorem ZO{p:Int}{a b:List Int}{x y:Nat}(hx:x<a.length)(hy:y<b.length):(eU p a b x y).getD (x+y) 0=fL p a b (x+y) x:=by
 unfold eU
 rw[qd,if_pos (by omega),if_neg (by omega),Nat.min_eq_left (by omega)]
theorem ZQ{p:Int}{a b:List Int}{x y:Nat}(hx:x<a.length)(hy:y<b.length):(eU p a b x y).set (x+y) (fL p a b (x+y) (x+1))=eU p a b x (y+1):=by
 unfold eU
 rw[qe]
 refine eG (fun t _=>?_)
 by_cases h:t=x+y
 ·subst h
  rw[if_pos rfl,if_pos (by omega)]
 ·rw[if_neg h]
  by_cases h2:x<=t/\t<x+y
  ·rw[if_pos h2,if_pos (by omega)]
  ·rw[if_neg h2,if_neg (by omega)]
theorem XC(p:Int)(a b:List Int)(x:Nat):eU p a b x b.length=eU p a b (x+1) 0:=by
 refine eG (fun t _=>?_)
 rw[if_neg (show ¬(x+1<=t/\t<x+1+0) by omega)]
 by_cases h:x<=t
 ·rw[Nat.min_eq_left (show x+1<=t+1 by omega)]
  by_cases h2:t<x+b.length
  ·rw[if_pos ⟨h,h2⟩]
  ·rw[if_neg (by omega),Nat.min_eq_left (by omega),wz (by omega)]
 ·rw[if_neg (by omega),Nat.min_eq_right (by omega),Nat.min_eq_right (by omega)]
theorem ZN(p:Int)(a b:List Int):eU p a b a.length 0=fq p a b (a.length+b.length-1):=by
 refine eG (fun t _=>?_)
 rw[if_neg (by omega),Nat.min_comm]
theorem vH(l:List Int):jk (cf l)=true:=by
 have key:∀ n,n<=l.length->oC l n=0\/l.getD (oC l n-1) 0≠0:=by
  intro n
  induction n with
  | zero=>intro _;exact .inl rfl
  | succ n ih =>
    intro h
    unfold oC
    split
    ·exact ih (by omega)
    ·rename_i h0;exact .inr h0
 rw[ju,oP]
 rcases key l.length (Nat.le_refl _) with h|h
 ·exact .inl h
 ·by_cases h0:ka l=0
  ·exact .inl h0
  ·refine .inr ?_
   unfold cf
   rw[v5 (by omega)]
   exact h
theorem Ts :
 ∀(d:List Int),Ty.wf aj d->d.length<=(1048576:Nat)->qY d d.length/\(d=d/\aQ/\ae (d.length:Int))/\∀(x:Nat),qY d x->(decide ((0:Int)<(x:Int))=true->((0:Int)<=i64.wrap ((x:Int)-(1:Int))/\i64.wrap ((x:Int)-(1:Int))<(d.length:Int))/\(decide (d.getD (Int.toNat (i64.wrap ((x:Int)-(1:Int)))) (0:Int)=(0:Int))=true->∃(x':Nat),qY d x'/\x'<x/\d=d/\aQ/\i64.wrap ((x:Int)-(1:Int))=(x':Int))/\(decide (d.getD (Int.toNat (i64.wrap ((x:Int)-(1:Int)))) (0:Int)=(0:Int))=false->((0:Int)<=(0:Int)/\(0:Int)<=(x:Int)/\(x:Int)<=(d.length:Int))/\List.length (List.drop ((0:Int).toNat) (List.take ((x:Int).toNat) d))<=(1048576:Nat)/\(Ty.wf aj (List.drop ((0:Int).toNat) (List.take ((x:Int).toNat) d))->List.drop ((0:Int).toNat) (List.take ((x:Int).toNat) d)=cf d)))/\(decide ((0:Int)<(x:Int))=false->((0:Int)<=(0:Int)/\(0:Int)<=(x:Int)/\(x:Int)<=(d.length:Int))/\List.length (List.drop ((0:Int).toNat) (List.take ((x:Int).toNat) d))<=(1048576:Nat)/\(Ty.wf aj (List.drop ((0:Int).toNat) (List.take ((x:Int).toNat) d))->List.drop ((0:Int).toNat) (List.take ((x:Int).toNat) d)=cf d)):=by
  intro (a:List Int) hw hp
  replace hp:a.length<=1048576:=hp
  simp only[exists_const,forall_const,decide_eq_true_eq,decide_eq_false_iff_not,beq_iff_eq,sxS]
  refine⟨IW a,fun x hx=>?_⟩
  have we:=hx.1
  match x,hx with
  | 0,hx =>
    refine⟨fun h=>absurd h (by omega),fun _=>?_⟩
    have hc:=Qi hx
    simp only[Int.toNat_zero,List.drop_zero,Int.natCast_zero,List.take_zero]
    refine⟨⟨by omega,by omega,by omega⟩,by simp,fun _=>?_⟩
    unfold cf
    rw[<-hc];rfl
  | x+1,hx =>
    have we:x+1<=a.length:=hx.1
    have fW:i64.wrap (((x+1:Nat):Int)-1)=(x:Int):=by rw[wrap_small (by omega)];omega
    rw[fW]
    simp only[Int.toNat_natCast,Int.toNat_zero,List.drop_zero]
    refine⟨fun _=>⟨⟨by omega,by omega⟩,fun h=>⟨x,Lt hx h,by omega,rfl⟩,fun h=>?_⟩,fun h=>absurd h (by omega)⟩
    have hc:=Lu hx h
    refine⟨⟨by omega,by omega,by omega⟩,by rw[List.length_take];omega,fun _=>?_⟩
    unfold cf
    rw[<-hc]
theorem Tm :
 ∀(d:Int×List Int),Ty.wf ai d.1/\Ty.wf aj d.2->True->(decide ((400:Int)<(d.2.length:Int))=true->false=aZ d.1 d.2)/\(decide ((400:Int)<(d.2.length:Int))=false->True/\((!aC d.1 d.2)=true->false=aZ d.1 d.2)/\((!aC d.1 d.2)=false->(decide ((d.2.length:Int)=(0:Int))=true->true=aZ d.1 d.2)/\(decide ((d.2.length:Int)=(0:Int))=false->((0:Int)<=i64.wrap ((d.2.length:Int)-(1:Int))/\i64.wrap ((d.2.length:Int)-(1:Int))<(d.2.length:Int))/\(!decide (d.2.getD (Int.toNat (i64.wrap ((d.2.length:Int)-(1:Int)))) (0:Int)=(0:Int)))=aZ d.1 d.2))):=by
  intro (d:Int×List Int) hw _
  obtain⟨f,a⟩:=d
  have hl:a.length<=9223372036854775807:=hw.2.1
  simp only[exists_const,forall_const,decide_eq_true_eq,decide_eq_false_iff_not,beq_iff_eq,sxS]
  have no:∀ {b},(aZ f a=true->False)->b=false->b=aZ f a:=fun h e=>by
   subst e
   cases hp:aZ f a with
   | false=>rfl
   | true=>exact (h hp).elim
  refine⟨fun h=>no (fun hp=>?_) rfl,fun h=>⟨fun h1=>no (fun hp=>?_) rfl,fun h1=>⟨fun h2=>?_,fun h2=>?_⟩⟩⟩
  ·have:=(c6 hp).2.2.1;omega
  ·have:=c6 hp
   rw[iH this.1 this.2.1] at h1;cases h1
  ·have h3:=jt h1
   exact (lK h3.1 h3.2 (by omega) ((ju a).2 (.inl (by omega)))).symm
  ·have h3:=jt h1
   have fW:i64.wrap ((a.length:Int)-1)=((a.length-1:Nat):Int):=by rw[wrap_small (by omega)];omega
   rw[fW,Int.toNat_natCast]
   refine⟨⟨by omega,by omega⟩,?_⟩
   by_cases h4:a.getD (a.length-1) 0=0
   ·rw[decide_eq_true h4]
    refine no (fun hp=>?_) rfl
    rcases (ju a).1 (c6 hp).2.2.2 with h5|h5
    ·omega
    ·exact h5 h4
   ·rw[decide_eq_false h4]
    exact (lK h3.1 h3.2 (by omega) ((ju a).2 (.inr h4))).symm
theorem Wj :
 ∀(d:List Int×Int),Ty.wf aj d.1/\Ty.wf ai d.2->True->(decide ((0:Int)<=d.2)=true->(decide (d.2<(d.1.length:Int))=true->((0:Int)<=d.2/\d.2<(d.1.length:Int))/\d.1.getD d.2.toNat (0:Int)=gu d.1 d.2)/\(decide (d.2<(d.1.length:Int))=false->(0:Int)=gu d.1 d.2))/\(decide ((0:Int)<=d.2)=false->(0:Int)=gu d.1 d.2):=by
  intro (d:List Int×Int) hw _
  obtain⟨a,i⟩:=d
  simp only[exists_const,forall_const,decide_eq_true_eq,decide_eq_false_iff_not,beq_iff_eq,sxS]
  unfold gu
  refine⟨fun h=>⟨fun h1=>⟨⟨h,h1⟩,by rw[if_pos h]⟩,fun h1=>?_⟩,fun h=>by rw[if_neg h]⟩
  rw[if_pos h,List.getD_eq_getElem?_getD,List.getElem?_eq_none (by omega)];rfl
theorem PT :
 ∀(d:Int×List Int×List Int),Ty.wf ai d.1/\Ty.wf aj d.2.1/\Ty.wf aj d.2.2->True->True/\((!aZ d.1 d.2.1)=true->[]=rP d.1 d.2.1 d.2.2)/\((!aZ d.1 d.2.1)=false->True/\((!aZ d.1 d.2.2)=true->[]=rP d.1 d.2.1 d.2.2)/\((!aZ d.1 d.2.2)=false->(0:Nat)<=max d.2.1.length d.2.2.length/\((d.1=d.1/\ae d.2.1/\ae d.2.2/\aQ/\(0:Int)=(↑(0:Nat):Int))/\[]=fC (af d.1) d.2.1 d.2.2 (0:Nat))/\∀(x:Nat),x<=max d.2.1.length d.2.2.length->(decide ((x:Int)<(d.2.1.length:Int))=true->True/\(Ty.wf ai (gu d.2.1 (x:Int))->True/\(Ty.wf ai (gu d.2.2 (x:Int))->True/\(Ty.wf ai (po d.1 (gu d.2.1 (x:Int)) (gu d.2.2 (x:Int)))->(List.length (fC (af d.1) d.2.1 d.2.2 x)+List.length [po d.1 (gu d.2.1 (x:Int)) (gu d.2.2 (x:Int))])*(8:Nat)<=(140737488355328:Nat)/\∃(x':Nat),x'<=max d.2.1.length d.2.2.length/\max d.2.1.length d.2.2.length-x'<max d.2.1.length d.2.2.length-x/\(d.1=d.1/\ae d.2.1/\ae d.2.2/\aQ/\i64.wrap ((x:Int)+(1:Int))=(x':Int))/\fC (af d.1) d.2.1 d.2.2 x++[po d.1 (gu d.2.1 (x:Int)) (gu d.2.2 (x:Int))]=fC (af d.1) d.2.1 d.2.2 x'))))/\(decide ((x:Int)<(d.2.1.length:Int))=false->(decide ((x:Int)<(d.2.2.length:Int))=true->True/\(Ty.wf ai (gu d.2.1 (x:Int))->True/\(Ty.wf ai (gu d.2.2 (x:Int))->True/\(Ty.wf ai (po d.1 (gu d.2.1 (x:Int)) (gu d.2.2 (x:Int)))->(List.length (fC (af d.1) d.2.1 d.2.2 x)+List.length [po d.1 (gu d.2.1 (x:Int)) (gu d.2.2 (x:Int))])*(8:Nat)<=(140737488355328:Nat)/\∃(x':Nat),x'<=max d.2.1.length d.2.2.length/\max d.2.1.length d.2.2.length-x'<max d.2.1.length d.2.2.length-x/\(d.1=d.1/\ae d.2.1/\ae d.2.2/\aQ/\i64.wrap ((x:Int)+(1:Int))=(x':Int))/\fC (af d.1) d.2.1 d.2.2 x++[po d.1 (gu d.2.1 (x:Int)) (gu d.2.2 (x:Int))]=fC (af d.1) d.2.1 d.2.2 x'))))/\(decide ((x:Int)<(d.2.2.length:Int))=false->List.length (fC (af d.1) d.2.1 d.2.2 x)<=(1048576:Nat)/\(Ty.wf aj (cf (fC (af d.1) d.2.1 d.2.2 x))->cf (fC (af d.1) d.2.1 d.2.2 x)=rP d.1 d.2.1 d.2.2))))):=by
  intro (d:Int×List Int×List Int) hw _
  obtain⟨f,a,b⟩:=d
  simp only[exists_const,forall_const,decide_eq_true_eq,decide_eq_false_iff_not,beq_iff_eq,sxS]
  have no:∀ {P:Prop},((aZ f a&&aZ f b)=false)->[]=rP f a b:=fun h=>by unfold rP;rw[h];rfl
  refine⟨fun h=>no (P:=True) (by rw[h];rfl),fun h=>⟨fun h1=>no (P:=True) (by rw[h1,Bool.and_false]),fun h1=>⟨by omega,⟨rfl,rfl⟩,fun x hx=>?_⟩⟩⟩
  have ha:=c6 h
  have hb:=c6 h1
  simp only[TL,He ha.1,A9]
  have step:x<max a.length b.length->(x+[eO (af f) (a.getD x 0) (b.getD x 0)].length)*8<=140737488355328/\∃ x',x'<=max a.length b.length/\max a.length b.length-x'<max a.length b.length-x/\i64.wrap ((x:Int)+1)=(x':Int) ∧
   fC (af f) a b x++[eO (af f) (a.getD x 0) (b.getD x 0)]=fC (af f) a b x' :=
   fun aT=>⟨by simp only[List.length_cons,List.length_nil];omega,x+1,by omega,by omega,aG (by omega),Fl _ _ _ _⟩
  refine⟨fun h2 _ _ _=>step (by omega),fun h2=>⟨fun h3 _ _ _=>step (by omega),fun h3=>⟨by omega,fun _=>?_⟩⟩⟩
  unfold rP sU
  rw[h,h1,show x=max a.length b.length by omega];rfl
theorem KL :
 ∀(d:Int×List Int×Int),Ty.wf ai d.1/\Ty.wf aj d.2.1/\Ty.wf ai d.2.2->True->True/\((!aZ d.1 d.2.1)=true->[]=lN d.1 d.2.1 d.2.2)/\((!aZ d.1 d.2.1)=false->(0:Nat)<=d.2.1.length/\((d.1=d.1/\ae d.2.1/\ae d.2.2/\aQ/\(0:Int)=(↑(0:Nat):Int))/\[]=kD (af d.1) d.2.1 d.2.2 (0:Nat))/\∀(x:Nat),x<=d.2.1.length->(decide ((x:Int)<(d.2.1.length:Int))=true->((0:Int)<=(x:Int)/\(x:Int)<(d.2.1.length:Int))/\True/\(Ty.wf ai (c8 d.1 (d.2.1.getD ((x:Int).toNat) (0:Int)) d.2.2)->(List.length (kD (af d.1) d.2.1 d.2.2 x)+List.length [c8 d.1 (d.2.1.getD ((x:Int).toNat) (0:Int)) d.2.2])*(8:Nat)<=(140737488355328:Nat)/\∃(x':Nat),x'<=d.2.1.length/\d.2.1.length-x'<d.2.1.length-x/\(d.1=d.1/\ae d.2.1/\ae d.2.2/\aQ/\i64.wrap ((x:Int)+(1:Int))=(x':Int))/\kD (af d.1) d.2.1 d.2.2 x++[c8 d.1 (d.2.1.getD ((x:Int).toNat) (0:Int)) d.2.2]=kD (af d.1) d.2.1 d.2.2 x'))/\(decide ((x:Int)<(d.2.1.length:Int))=false->List.length (kD (af d.1) d.2.1 d.2.2 x)<=(1048576:Nat)/\(Ty.wf aj (cf (kD (af d.1) d.2.1 d.2.2 x))->cf (kD (af d.1) d.2.1 d.2.2 x)=lN d.1 d.2.1 d.2.2))):=by
  intro (d:Int×List Int×Int) hw _
  obtain⟨f,a,c⟩:=d
  simp only[exists_const,forall_const,decide_eq_true_eq,decide_eq_false_iff_not,beq_iff_eq,sxS]
  refine⟨fun h=>by unfold lN;rw[h];rfl,fun h=>⟨by omega,⟨rfl,rfl⟩,fun x hx=>?_⟩⟩
  have ha:=c6 h
  simp only[lJ ha.1,EK]
  refine⟨fun h2=>⟨⟨by omega,by omega⟩,fun _=>⟨by simp only[List.length_cons,List.length_nil];omega,x+1,by omega,by omega,aG (by omega),JF _ _ _ _⟩⟩,fun h2=>⟨by omega,fun _=>?_⟩⟩
  unfold lN gv
  rw[h,show x=a.length by omega];rfl
theorem Tt :
 ∀(d:Int×List Int×List Int),Ty.wf ai d.1/\Ty.wf aj d.2.1/\Ty.wf aj d.2.2->aC d.1 d.2.1=true/\aC d.1 d.2.2=true/\d.2.1.length<=(1000:Nat)/\d.2.2.length<=(1000:Nat)->True/\(Ty.wf ai (af d.1)->(decide ((d.2.1.length:Int)=(0:Int))=true->[]=ee (af d.1) d.2.1 d.2.2)/\(decide ((d.2.1.length:Int)=(0:Int))=false->(decide ((d.2.2.length:Int)=(0:Int))=true->[]=ee (af d.1) d.2.1 d.2.2)/\(decide ((d.2.2.length:Int)=(0:Int))=false->(0:Nat)<=d.2.1.length+d.2.2.length-(1:Nat)/\((d.1=d.1/\ae d.2.1/\ae d.2.2/\aQ/\ae (af d.1)/\(0:Int)=(↑(0:Nat):Int))/\[]=fq (af d.1) d.2.1 d.2.2 (0:Nat))/\∀(x:Nat),x<=d.2.1.length+d.2.2.length-(1:Nat)->(decide ((x:Int)<i64.wrap (i64.wrap ((d.2.1.length:Int)+(d.2.2.length:Int))-(1:Int)))=true->(0:Nat)<=min (x+(1:Nat)) d.2.1.length/\((d.1=d.1/\ae d.2.1/\ae d.2.2/\aQ/\ae (af d.1)/\ae (x:Int)/\(0:Int)=fL (af d.1) d.2.1 d.2.2 x (0:Nat)/\(0:Int)=(↑(0:Nat):Int))/\ae (fq (af d.1) d.2.1 d.2.2 x))/\∀(x_1:Nat),x_1<=min (x+(1:Nat)) d.2.1.length->(decide ((x_1:Int)<=(x:Int))=true->(decide ((x_1:Int)<(d.2.1.length:Int))=true->(decide (i64.wrap ((x:Int)-(x_1:Int))<(d.2.2.length:Int))=true->((0:Int)<=(x_1:Int)/\(x_1:Int)<(d.2.1.length:Int))/\((0:Int)<=i64.wrap ((x:Int)-(x_1:Int))/\i64.wrap ((x:Int)-(x_1:Int))<(d.2.2.length:Int))/\af d.1≠(0:Int)/\∃(x':Nat),x'<=min (x+(1:Nat)) d.2.1.length/\min (x+(1:Nat)) d.2.1.length-x'<min (x+(1:Nat)) d.2.1.length-x_1/\(d.1=d.1/\ae d.2.1/\ae d.2.2/\aQ/\ae (af d.1)/\ae (x:Int)/\Int.tmod (i64.wrap (fL (af d.1) d.2.1 d.2.2 x x_1+i64.wrap (d.2.1.getD ((x_1:Int).toNat) (0:Int)*d.2.2.getD (Int.toNat (i64.wrap ((x:Int)-(x_1:Int)))) (0:Int)))) (af d.1)=fL (af d.1) d.2.1 d.2.2 x x'/\i64.wrap ((x_1:Int)+(1:Int))=(x':Int))/\ae (fq (af d.1) d.2.1 d.2.2 x))/\(decide (i64.wrap ((x:Int)-(x_1:Int))<(d.2.2.length:Int))=false->∃(x':Nat),x'<=min (x+(1:Nat)) d.2.1.length/\min (x+(1:Nat)) d.2.1.length-x'<min (x+(1:Nat)) d.2.1.length-x_1/\(d.1=d.1/\ae d.2.1/\ae d.2.2/\aQ/\ae (af d.1)/\ae (x:Int)/\fL (af d.1) d.2.1 d.2.2 x x_1=fL (af d.1) d.2.1 d.2.2 x x'/\i64.wrap ((x_1:Int)+(1:Int))=(x':Int))/\ae (fq (af d.1) d.2.1 d.2.2 x)))/\(decide ((x_1:Int)<(d.2.1.length:Int))=false->(List.length (fq (af d.1) d.2.1 d.2.2 x)+List.length [fL (af d.1) d.2.1 d.2.2 x x_1])*(8:Nat)<=(140737488355328:Nat)/\∃(x':Nat),x'<=d.2.1.length+d.2.2.length-(1:Nat)/\d.2.1.length+d.2.2.length-(1:Nat)-x'<d.2.1.length+d.2.2.length-(1:Nat)-x/\(d.1=d.1/\ae d.2.1/\ae d.2.2/\aQ/\ae (af d.1)/\i64.wrap ((x:Int)+(1:Int))=(x':Int))/\fq (af d.1) d.2.1 d.2.2 x++[fL (af d.1) d.2.1 d.2.2 x x_1]=fq (af d.1) d.2.1 d.2.2 x'))/\(decide ((x_1:Int)<=(x:Int))=false->(List.length (fq (af d.1) d.2.1 d.2.2 x)+List.length [fL (af d.1) d.2.1 d.2.2 x x_1])*(8:Nat)<=(140737488355328:Nat)/\∃(x':Nat),x'<=d.2.1.length+d.2.2.length-(1:Nat)/\d.2.1.length+d.2.2.length-(1:Nat)-x'<d.2.1.length+d.2.2.length-(1:Nat)-x/\(d.1=d.1/\ae d.2.1/\ae d.2.2/\aQ/\ae (af d.1)/\i64.wrap ((x:Int)+(1:Int))=(x':Int))/\fq (af d.1) d.2.1 d.2.2 x++[fL (af d.1) d.2.1 d.2.2 x x_1]=fq (af d.1) d.2.1 d.2.2 x'))/\(decide ((x:Int)<i64.wrap (i64.wrap ((d.2.1.length:Int)+(d.2.2.length:Int))-(1:Int)))=false->List.length (fq (af d.1) d.2.1 d.2.2 x)<=(1048576:Nat)/\(Ty.wf aj (cf (fq (af d.1) d.2.1 d.2.2 x))->cf (fq (af d.1) d.2.1 d.2.2 x)=ee (af d.1) d.2.1 d.2.2))))):=by
  intro (d:Int×List Int×List Int) hw hp
  obtain⟨f,a,b⟩:=d
  replace hp:aC f a=true/\aC f b=true/\a.length<=1000/\b.length<=1000:=hp
  simp only[exists_const,forall_const,decide_eq_true_eq,decide_eq_false_iff_not,beq_iff_eq,sxS]
  intro _
  obtain⟨hpa,hpb,hla,FX⟩:=hp
  obtain⟨hm,qv⟩:=jt hpa
  obtain⟨_,lp⟩:=jt hpb
  have hp:=(b9 hm).1
  refine⟨fun h=>by unfold ee;rw[if_pos (by omega)],fun h=>⟨fun h1=>by unfold ee;rw[if_pos (by omega)],fun h1=>⟨by omega,⟨rfl,rfl⟩,fun x hx=>?_⟩⟩⟩
  have fW:i64.wrap (i64.wrap ((a.length:Int)+(b.length:Int))-1)=((a.length+b.length-1:Nat):Int):=by
   rw[wrap_small (n:=(a.length:Int)+(b.length:Int)) (by omega),wrap_small (by omega)];omega
  rw[fW,wu]
  refine⟨fun h2=>⟨by omega,⟨rfl,rfl⟩,fun y hy=>?_⟩,fun h2=>⟨by omega,fun _=>?_⟩⟩
  ·have fin:y=min (x+1) a.length->(x+[fL (af f) a b x y].length)*8<=140737488355328/\∃ x',x'<=a.length+b.length-1/\a.length+b.length-1-x'<a.length+b.length-1-x/\i64.wrap ((x:Int)+1)=(x':Int) ∧
    fq (af f) a b x++[fL (af f) a b x y]=fq (af f) a b x':=fun e =>
    ⟨by simp only[List.length_cons,List.length_nil];omega,x+1,by omega,by omega,aG (by omega),by rw[e];exact Sd _ _ _ _⟩
   refine⟨fun h3=>⟨fun h4=>?_,fun h4=>fin (by omega)⟩,fun h3=>fin (by omega)⟩
   have nQ:i64.wrap ((x:Int)-(y:Int))=((x-y:Nat):Int):=by rw[wrap_small (by omega)];omega
   rw[nQ,Int.toNat_natCast]
   refine⟨fun h5=>⟨⟨by omega,by omega⟩,⟨by omega,by omega⟩,hm,y+1,by omega,by omega,?_,aG (by omega)⟩,fun h5=>⟨y+1,by omega,by omega,(wz (by omega)).symm,aG (by omega)⟩⟩
   rw[Li hp (Hp hp _ _ _ _) (fc hp qv _) (fc hp lp _),sI (by omega)]
  ·unfold ee
   rw[if_neg (by omega),show x=a.length+b.length-1 by omega]
theorem PD :
 ∀(xs:List Int),Ty.wf (Ty.sl ai) xs->qY xs xs.length/\((ae (xs.length)/\aQ)/\xs=xs)/\∀(x:Nat),qY xs x->(decide ((0:Int)<(x:Int))=true->((0:Int)<=i64.wrap ((x:Int)-(1:Int))/\i64.wrap ((x:Int)-(1:Int))<(x:Int))/\(decide (xs.getD (Int.toNat (i64.wrap ((x:Int)-(1:Int)))) (0:Int)=(0:Int))=true->((0:Int)<=i64.wrap ((x:Int)-(1:Int))/\i64.wrap ((x:Int)-(1:Int))<=(x:Int))/\∃(x':Nat),qY xs x'/\x'<x/\(Int.toNat (i64.wrap ((x:Int)-(1:Int)))=x'/\aQ)/\xs=xs)/\(decide (xs.getD (Int.toNat (i64.wrap ((x:Int)-(1:Int)))) (0:Int)=(0:Int))=false->x=ka xs/\xs=xs))/\(decide ((0:Int)<(x:Int))=false->x=ka xs/\xs=xs):=by
  intro (l:List Int) hw
  have hl:l.length<=9223372036854775807:=hw.1
  simp only[exists_const,forall_const,decide_eq_true_eq,decide_eq_false_iff_not,beq_iff_eq,sxS]
  refine⟨IW l,fun x hx=>?_⟩
  match x,hx with
  | 0,hx=>exact⟨fun h=>absurd h (by omega),fun _=>Qi hx⟩
  | x+1,hx =>
    have we:x+1<=l.length:=hx.1
    have fW:i64.wrap (((x+1:Nat):Int)-1)=(x:Int):=by rw[wrap_small (by omega)];omega
    rw[fW]
    simp only[Int.toNat_natCast]
    exact⟨fun _=>⟨⟨by omega,by omega⟩,fun h=>⟨⟨by omega,by omega⟩,x,Lt hx h,by omega,rfl⟩,fun h=>Lu hx h⟩,fun h=>absurd h (by omega)⟩
theorem GY :
 ∀(d:List Int×Int),Ty.wf aj d.1/\Ty.wf ai d.2->(0:cj [ai])<=d.2->(decide ((d.1.length:Int)<=d.2)=true->(0:Int)=gu d.1 d.2)/\(decide ((d.1.length:Int)<=d.2)=false->((0:Int)<=d.2/\d.2<(d.1.length:Int))/\d.1.getD d.2.toNat (0:Int)=gu d.1 d.2):=by
  intro (d:List Int×Int) hw hp
  obtain⟨a,i⟩:=d
  replace hp:(0:Int)<=i:=hp
  simp only[exists_const,forall_const,decide_eq_true_eq,decide_eq_false_iff_not,beq_iff_eq,sxS]
  unfold gu
  rw[if_pos hp]
  refine⟨fun h=>?_,fun h=>⟨⟨hp,by omega⟩,rfl⟩⟩
  rw[List.getD_eq_getElem?_getD,List.getElem?_eq_none (by omega)];rfl
theorem Ps :
 ∀(d:(Int×Int×Int)×List Int×List Int),Ty.wf bW d.1/\Ty.wf aj d.2.1/\Ty.wf aj d.2.2->au d.1.1/\aq d.1.1 d.2.1=true/\aq d.1.1 d.2.2=true/\d.2.1.length<=(1000:Nat)/\d.2.2.length<=(1000:Nat)->(0:Nat)<=max d.2.1.length d.2.2.length/\(((ae d.1.1/\ae d.1.2.1/\ae d.1.2.2)/\ae d.2.1/\ae d.2.2/\aQ/\ae (imax (d.2.1.length:Int) (d.2.2.length:Int))/\(0:Int)=(↑(0:Nat):Int))/\(ae d.1.1/\ae d.1.2.1/\ae d.1.2.2)/\[]=fC d.1.1 d.2.1 d.2.2 (0:Nat))/\∀(x:Nat),x<=max d.2.1.length d.2.2.length->(decide ((x:Int)<imax (d.2.1.length:Int) (d.2.2.length:Int))=true->(0:cj [ai])<=(x:Int)/\(0:cj [ai])<=(x:Int)/\(au d.1.1/\El d.1.1 (gu d.2.1 (x:Int))/\El d.1.1 (gu d.2.2 (x:Int)))/\(Ty.wf ai (eO d.1.1 (gu d.2.1 (x:Int)) (gu d.2.2 (x:Int)))->Ty.wf ai (gu d.2.2 (x:Int))->Ty.wf ai (gu d.2.1 (x:Int))->(List.length (fC d.1.1 d.2.1 d.2.2 x)+List.length [eO d.1.1 (gu d.2.1 (x:Int)) (gu d.2.2 (x:Int))])*(8:Nat)<=(140737488355328:Nat)/\∃(x':Nat),x'<=max d.2.1.length d.2.2.length/\max d.2.1.length d.2.2.length-x'<max d.2.1.length d.2.2.length-x/\((ae d.1.1/\ae d.1.2.1/\ae d.1.2.2)/\ae d.2.1/\ae d.2.2/\aQ/\ae (imax (d.2.1.length:Int) (d.2.2.length:Int))/\i64.wrap ((x:Int)+(1:Int))=(x':Int))/\(ae d.1.1/\ae d.1.2.1/\ae d.1.2.2)/\fC d.1.1 d.2.1 d.2.2 x++[eO d.1.1 (gu d.2.1 (x:Int)) (gu d.2.2 (x:Int))]=fC d.1.1 d.2.1 d.2.2 x'))/\(decide ((x:Int)<imax (d.2.1.length:Int) (d.2.2.length:Int))=false->List.take (ka (fC d.1.1 d.2.1 d.2.2 x)) (fC d.1.1 d.2.1 d.2.2 x)=sU d.1.1 d.2.1 d.2.2):=by
  intro (d:Fd×List Int×List Int) hw hp
  obtain⟨⟨p,g,t⟩,a,b⟩:=d
  replace hp:au p/\aq p a=true/\aq p b=true/\a.length<=1000/\b.length<=1000:=hp
  simp only[exists_const,forall_const,decide_eq_true_eq,decide_eq_false_iff_not,beq_iff_eq,sxS]
  obtain⟨h0,h1,h2,h3,h4⟩:=hp
  simp only[TL,A9]
  have hmx:imax (a.length:Int) (b.length:Int)=((max a.length b.length:Nat):Int):=by unfold imax;split<;>omega
  rw[hmx]
  refine⟨by omega,⟨rfl,rfl⟩,fun x hx=>⟨fun h5=>⟨Int.natCast_nonneg _,Int.natCast_nonneg _,⟨h0,fc h0 h1 _,fc h0 h2 _⟩,fun _ _ _=>⟨by simp only[List.length_cons,List.length_nil];omega,x+1,by omega,by omega,aG (by omega),Fl _ _ _ _⟩⟩,fun h5=>?_⟩⟩
  unfold sU cf
  rw[show x=max a.length b.length by omega]
theorem Ky :
 ∀(d:(Int×Int×Int)×List Int×Int),Ty.wf bW d.1/\Ty.wf aj d.2.1/\Ty.wf ai d.2.2->au d.1.1/\aq d.1.1 d.2.1=true/\El d.1.1 d.2.2/\d.2.1.length<=(1000:Nat)->(0:Nat)<=d.2.1.length/\(((ae d.1.1/\ae d.1.2.1/\ae d.1.2.2)/\ae d.2.1/\ae d.2.2/\aQ/\ae d.2.1/\ae (d.2.1.length:Int)/\(0:Int)=(↑(0:Nat):Int))/\(ae d.1.1/\ae d.1.2.1/\ae d.1.2.2)/\[]=kD d.1.1 d.2.1 d.2.2 (0:Nat))/\∀(x:Nat),x<=d.2.1.length->(decide ((x:Int)<(d.2.1.length:Int))=true->((0:Int)<=(x:Int)/\(x:Int)<(d.2.1.length:Int))/\(au d.1.1/\El d.1.1 (d.2.1.getD ((x:Int).toNat) (0:Int))/\El d.1.1 d.2.2)/\(Ty.wf ai (mulM d.1.1 (d.2.1.getD ((x:Int).toNat) (0:Int)) d.2.2)->(List.length (kD d.1.1 d.2.1 d.2.2 x)+List.length [mulM d.1.1 (d.2.1.getD ((x:Int).toNat) (0:Int)) d.2.2])*(8:Nat)<=(140737488355328:Nat)/\∃(x':Nat),x'<=d.2.1.length/\d.2.1.length-x'<d.2.1.length-x/\((ae d.1.1/\ae d.1.2.1/\ae d.1.2.2)/\ae d.2.1/\ae d.2.2/\aQ/\ae d.2.1/\ae (d.2.1.length:Int)/\i64.wrap ((x:Int)+(1:Int))=(x':Int))/\(ae d.1.1/\ae d.1.2.1/\ae d.1.2.2)/\kD d.1.1 d.2.1 d.2.2 x++[mulM d.1.1 (d.2.1.getD ((x:Int).toNat) (0:Int)) d.2.2]=kD d.1.1 d.2.1 d.2.2 x'))/\(decide ((x:Int)<(d.2.1.length:Int))=false->List.take (ka (kD d.1.1 d.2.1 d.2.2 x)) (kD d.1.1 d.2.1 d.2.2 x)=gv d.1.1 d.2.1 d.2.2):=by
  intro (d:Fd×List Int×Int) hw hp
  obtain⟨⟨p,g,t⟩,a,c⟩:=d
  replace hp:au p/\aq p a=true/\El p c/\a.length<=1000:=hp
  simp only[exists_const,forall_const,decide_eq_true_eq,decide_eq_false_iff_not,beq_iff_eq,sxS]
  obtain⟨h0,h1,h2,h3⟩:=hp
  simp only[EK]
  refine⟨by omega,⟨rfl,rfl⟩,fun x hx=>⟨fun h5=>⟨⟨by omega,by omega⟩,⟨h0,fc h0 h1 _,h2⟩,fun _=>⟨by simp only[List.length_cons,List.length_nil];omega,x+1,by omega,by omega,aG (by omega),JF _ _ _ _⟩⟩,fun h5=>?_⟩⟩
  unfold gv cf
  rw[show x=a.length by omega]
theorem PA :
 ∀(d:(Int×Int×Int)×List Int×List Int),Ty.wf bW d.1/\Ty.wf aj d.2.1/\Ty.wf aj d.2.2->au d.1.1/\aq d.1.1 d.2.1=true/\aq d.1.1 d.2.2=true/\d.2.1.length<=(1000:Nat)/\d.2.2.length<=(1000:Nat)->(decide ((d.2.1.length:Int)=(0:Int))=true->[]=ee d.1.1 d.2.1 d.2.2)/\(decide ((d.2.1.length:Int)=(0:Int))=false->(decide ((d.2.2.length:Int)=(0:Int))=true->[]=ee d.1.1 d.2.1 d.2.2)/\(decide ((d.2.2.length:Int)=(0:Int))=false->((0:Int)<=i64.wrap (i64.wrap ((d.2.1.length:Int)+(d.2.2.length:Int))-(1:Int))/\i64.wrap (i64.wrap ((d.2.1.length:Int)+(d.2.2.length:Int))-(1:Int))<=i64.wrap (i64.wrap ((d.2.1.length:Int)+(d.2.2.length:Int))-(1:Int))/\i64.wrap (i64.wrap ((d.2.1.length:Int)+(d.2.2.length:Int))-(1:Int))*(↑(8:Nat):Int)<=(140737488355328:Int))/\(0:Nat)<=d.2.1.length/\(((ae d.1.1/\ae d.1.2.1/\ae d.1.2.2)/\ae d.2.1/\ae d.2.2/\aQ/\ae d.2.1/\ae (d.2.1.length:Int)/\(0:Int)=(↑(0:Nat):Int))/\(ae d.1.1/\ae d.1.2.1/\ae d.1.2.2)/\List.replicate (Int.toNat (i64.wrap (i64.wrap ((d.2.1.length:Int)+(d.2.2.length:Int))-(1:Int)))) (0:Int)=eU d.1.1 d.2.1 d.2.2 (0:Nat) (0:Nat))/\∀(x:Nat),x<=d.2.1.length->(decide ((x:Int)<(d.2.1.length:Int))=true->((0:Int)<=(x:Int)/\(x:Int)<(d.2.1.length:Int))/\(0:Nat)<=d.2.2.length/\(((ae d.1.1/\ae d.1.2.1/\ae d.1.2.2)/\ae d.2.1/\ae d.2.2/\aQ/\ae (x:Int)/\ae (d.2.1.getD ((x:Int).toNat) (0:Int))/\ae d.2.1/\ae (d.2.1.length:Int)/\ae (x:Int)/\ae d.2.2/\ae (d.2.2.length:Int)/\(0:Int)=(↑(0:Nat):Int))/\(ae d.1.1/\ae d.1.2.1/\ae d.1.2.2)/\ae (eU d.1.1 d.2.1 d.2.2 x (0:Nat)))/\∀(x_1:Nat),x_1<=d.2.2.length->(decide ((x_1:Int)<(d.2.2.length:Int))=true->((0:Int)<=(x_1:Int)/\(x_1:Int)<(d.2.2.length:Int))/\((0:Int)<=i64.wrap ((x:Int)+(x_1:Int))/\i64.wrap ((x:Int)+(x_1:Int))<(↑(List.length (eU d.1.1 d.2.1 d.2.2 x x_1)):Int))/\d.1.1≠(0:Int)/\((0:Int)<=i64.wrap ((x:Int)+(x_1:Int))/\i64.wrap ((x:Int)+(x_1:Int))<(↑(List.length (eU d.1.1 d.2.1 d.2.2 x x_1)):Int))/\∃(x':Nat),x'<=d.2.2.length/\d.2.2.length-x'<d.2.2.length-x_1/\((ae d.1.1/\ae d.1.2.1/\ae d.1.2.2)/\ae d.2.1/\ae d.2.2/\aQ/\ae (x:Int)/\ae (d.2.1.getD ((x:Int).toNat) (0:Int))/\ae d.2.1/\ae (d.2.1.length:Int)/\ae (x:Int)/\ae d.2.2/\ae (d.2.2.length:Int)/\i64.wrap ((x_1:Int)+(1:Int))=(x':Int))/\(ae d.1.1/\ae d.1.2.1/\ae d.1.2.2)/\List.set (eU d.1.1 d.2.1 d.2.2 x x_1) (Int.toNat (i64.wrap ((x:Int)+(x_1:Int)))) (Int.tmod (i64.wrap (List.getD (eU d.1.1 d.2.1 d.2.2 x x_1) (Int.toNat (i64.wrap ((x:Int)+(x_1:Int)))) (0:Int)+i64.wrap (d.2.1.getD ((x:Int).toNat) (0:Int)*d.2.2.getD ((x_1:Int).toNat) (0:Int)))) d.1.1)=eU d.1.1 d.2.1 d.2.2 x x')/\(decide ((x_1:Int)<(d.2.2.length:Int))=false->∃(x':Nat),x'<=d.2.1.length/\d.2.1.length-x'<d.2.1.length-x/\((ae d.1.1/\ae d.1.2.1/\ae d.1.2.2)/\ae d.2.1/\ae d.2.2/\aQ/\ae d.2.1/\ae (d.2.1.length:Int)/\i64.wrap ((x:Int)+(1:Int))=(x':Int))/\(ae d.1.1/\ae d.1.2.1/\ae d.1.2.2)/\eU d.1.1 d.2.1 d.2.2 x x_1=eU d.1.1 d.2.1 d.2.2 x' (0:Nat)))/\(decide ((x:Int)<(d.2.1.length:Int))=false->List.take (ka (eU d.1.1 d.2.1 d.2.2 x (0:Nat))) (eU d.1.1 d.2.1 d.2.2 x (0:Nat))=ee d.1.1 d.2.1 d.2.2))):=by
  intro (d:Fd×List Int×List Int) hw hp
  obtain⟨⟨p,g,t⟩,a,b⟩:=d
  replace hp:au p/\aq p a=true/\aq p b=true/\a.length<=1000/\b.length<=1000:=hp
  simp only[exists_const,forall_const,decide_eq_true_eq,decide_eq_false_iff_not,beq_iff_eq,sxS]
  obtain⟨h0,qv,lp,h3,h4⟩:=hp
  have hm:p≠0:=by unfold au at h0;omega
  refine⟨fun h=>by unfold ee;rw[if_pos (by omega)],fun h=>⟨fun h1=>by unfold ee;rw[if_pos (by omega)],fun h1=>?_⟩⟩
  have fW:i64.wrap (i64.wrap ((a.length:Int)+(b.length:Int))-1)=((a.length+b.length-1:Nat):Int):=by
   rw[wrap_small (n:=(a.length:Int)+(b.length:Int)) (by omega),wrap_small (by omega)];omega
  rw[fW,Int.toNat_natCast]
  refine⟨⟨by omega,by omega,by omega⟩,by omega,⟨rfl,XD _ _ _⟩,fun x hx=>⟨fun h2=>⟨⟨by omega,by omega⟩,by omega,rfl,fun y hy=>⟨fun h5=>?_,fun h5=>?_⟩⟩,fun h2=>?_⟩⟩
  ·have nQ:i64.wrap ((x:Int)+(y:Int))=((x+y:Nat):Int):=by rw[wrap_small (by omega)];omega
   rw[nQ,Int.toNat_natCast,C1,ZO (by omega) (by omega),Li h0 (Hp h0 _ _ _ _) (fc h0 qv _) (fc h0 lp _)]
   refine⟨⟨by omega,by omega⟩,⟨by omega,by omega⟩,hm,⟨by omega,by omega⟩,y+1,by omega,by omega,aG (by omega),?_⟩
   rw[<-ZQ (by omega) (by omega),sI (by omega),Nat.add_sub_cancel_left]
  ·refine⟨x+1,by omega,by omega,aG (by omega),?_⟩
   rw[show y=b.length by omega]
   exact XC _ _ _ _
  ·rw[show x=a.length by omega,ZN]
   unfold ee cf
   rw[if_neg (by omega)]
set_option maxRecDepth 10000
theorem vp{a b:List Int}(hl:a.length=b.length)(h:∀ t,t<a.length->a.getD t 0=b.getD t 0):a=b:=by
 apply List.ext_getElem hl
 intro i h1 h2
 have:=h i h1
 rw[List.getD_eq_getElem?_getD,List.getD_eq_getElem?_getD,List.getElem?_eq_getElem h1,List.getElem?_eq_getElem h2] at this
 exact this
theorem my{a:List Int}{t:Nat}(h:a.length<=t):a.getD t 0=0:=by
 rw[List.getD_eq_getElem?_getD,List.getElem?_eq_none h];rfl
def AK(A:List Int)(t:Nat):Int:=if t=0 then 0 else A.getD (t-1) 0
def kp(p r:Int)(A:List Int):List Int:=(List.range (A.length+1)).map (fun t=>(A.getD t 0*r+AK A t)%p)
theorem yf(p r:Int)(A:List Int):(kp p r A).length=A.length+1:=jB _ _
theorem ry{p:Int}(r:Int)(A:List Int)(t:Nat):(kp p r A).getD t 0=(A.getD t 0*r+AK A t)%p:=by
 unfold kp
 rw[qd]
 split
 ·rfl
 ·have h1:AK A t=0:=by
   unfold AK
   rw[if_neg (by omega)]
   exact my (by omega)
  rw[my (show A.length<=t by omega),h1,Int.zero_mul]
  rfl
theorem UY{p:Int}(r:Int)(A:List Int)(t:Nat):AK (kp p r A) t=(AK A t*r+(if t=0 then 0 else AK A (t-1)))%p:=by
 unfold AK
 by_cases h:t=0
 ·rw[if_pos h,if_pos h,if_pos h,Int.zero_mul,Int.add_zero,Int.zero_emod]
 ·rw[if_neg h,if_neg h,if_neg h,ry];rfl
theorem QK(p x r y:Int):(x%p*r+y%p)%p=(x*r+y)%p:=by
 rw[fM,<-eC,bZ,eC]
theorem Xg(p r s:Int)(A:List Int):kp p r (kp p s A)=kp p s (kp p r A):=by
 refine vp (by simp only[yf]) (fun t _=>?_)
 rw[ry,ry,ry,ry,UY,UY,QK,QK]
 congr 1
 grind
theorem Nl{p r:Int}{A:List Int}{t:Nat}:∀ j,j+1<=t->fL p A [r,1] t j=0
 | 0,_=>rfl
 | j+1,h=>by
   rw[wz (by simp only[List.length_cons,List.length_nil];omega)]
   exact Nl j (by omega)
theorem UX{p:Int}(hp:au p)(r:Int)(A:List Int):aq p (kp p r A)=true:=Eb (fun _ _=>ei (by unfold au at hp;omega) _)
theorem MN{p:Int}{r:Int}{A:List Int}(hl:1<=A.length)(he:aq p A=true):(kp p r A).getD A.length 0=A.getD (A.length-1) 0:=by
 rw[ry,my (Nat.le_refl _),Int.zero_mul,Int.zero_add]
 unfold AK
 rw[if_neg (by omega)]
 exact gz (rS he (by omega))
theorem yN{l:List Int}(h:jk l=true):cf l=l:=by
 unfold jk at h
 rw[decide_eq_true_eq] at h
 unfold cf
 rw[h,List.take_length]
theorem QN{p:Int}(hp:au p){r:Int}{A:List Int}(hl:1<=A.length)(he:aq p A=true)(ht:A.getD (A.length-1) 0≠0):ee p A [r,1]=kp p r A:=by
 have key:fq p A [r,1] (A.length+1)=kp p r A:=by
  refine eG (fun t htt=>?_)
  have fe:∀ {x},x=1->([r,1]:List Int).getD x 0=1:=fun h=>by subst h;rfl
  have eS:1<=t->fL p A [r,1] t t=A.getD (t-1) 0%p:=fun h=>by
   obtain⟨u,rfl⟩:∃ u,t=u+1:=⟨t-1,by omega⟩
   rw[sI (by simp only[List.length_cons,List.length_nil];omega),Nl u (by omega),fe (by omega),Int.zero_add,Int.mul_one,Nat.add_sub_cancel]
  by_cases h:t<A.length
  ·rw[Nat.min_eq_left (by omega),sI (by simp only[List.length_cons,List.length_nil];omega),Nat.sub_self]
   show (_+A.getD t 0*r)%p=_
   unfold AK
   by_cases h0:t=0
   ·subst h0
    rw[if_pos rfl]
    show (0+_)%p=_
    rw[Int.zero_add,Int.add_zero]
   ·rw[if_neg h0,eS (by omega),eC,Int.add_comm]
  ·rw[Nat.min_eq_right (by omega)]
   obtain rfl:t=A.length:=by omega
   rw[eS (by omega),my (Nat.le_refl _),Int.zero_mul,Int.zero_add]
   unfold AK
   rw[if_neg (by omega)]
 unfold ee
 rw[if_neg (by simp only[List.length_cons,List.length_nil];omega)]
 show cf (fq p A [r,1] (A.length+1+1-1))=_
 rw[Nat.add_sub_cancel,key]
 refine yN ((ju _).2 (.inr ?_))
 rw[yf,Nat.add_sub_cancel,MN hl he]
 exact ht
theorem yC{p:Int}(hp:au p)(xs:List Int):∀ n,(eV p xs n).length=n+1/\aq p (eV p xs n)=true/\(eV p xs n).getD n 0=1/\eV p xs (n+1)=kp p (bR p 0 (xs.getD n 0)) (eV p xs n)
 | 0=>by
   have he:aq p [1]=true:=yO (fun i hi=>by
    obtain rfl:i=0:=by simp only[List.length_cons,List.length_nil] at hi;omega
    exact ke hp)
   exact⟨rfl,he,rfl,QN hp (A:=[1]) (Nat.le_refl _) he (by decide)⟩
 | n+1=>by
   obtain⟨h1,h2,h3,h4⟩:=yC hp xs n
   have e1:(eV p xs (n+1)).length=n+1+1:=by rw[h4,yf,h1]
   have e2:aq p (eV p xs (n+1))=true:=by rw[h4];exact UX hp _ _
   have e3:(eV p xs (n+1)).getD (n+1) 0=1:=by
    have:=MN (p:=p) (r:=bR p 0 (xs.getD n 0)) (A:=eV p xs n) (by omega) h2
    rw[h1,Nat.add_sub_cancel,h3] at this
    rw[h4];exact this
   refine⟨e1,e2,e3,?_⟩
   refine QN hp (by omega) e2 ?_
   rw[e1,Nat.add_sub_cancel,e3];decide
theorem Rc{p:Int}(l:List Int)(x:Int):∀ n,n<=l.length->eV p (l++[x]) n=eV p l n
 | 0,_=>rfl
 | n+1,h=>by
   show ee p _ [bR p 0 ((l++[x]).getD n 0),1]=ee p _ [bR p 0 (l.getD n 0),1]
   rw[Rc l x n (by omega),show (l++[x]).getD n 0=l.getD n 0 by rw[List.getD_eq_getElem?_getD,List.getD_eq_getElem?_getD,List.getElem?_append_left (by omega)]]
theorem JN{p:Int}(hp:au p)(l:List Int)(x:Int):dx p (l++[x])=kp p (bR p 0 x) (dx p l):=by
 unfold dx
 rw[List.length_append]
 show eV p (l++[x]) (l.length+1)=_
 rw[(yC hp (l++[x]) l.length).2.2.2,Rc l x _ (Nat.le_refl _)]
 congr 2
 rw[List.getD_eq_getElem?_getD,List.getElem?_append_right (Nat.le_refl _),Nat.sub_self];rfl
theorem uC{p:Int}(hp:au p)(xs:List Int):(dx p xs).length=xs.length+1/\aq p (dx p xs)=true/\jk (dx p xs)=true:=by
 obtain⟨h1,h2,h3,_⟩:=yC hp xs xs.length
 refine⟨h1,h2,(ju _).2 (.inr ?_)⟩
 show (eV p xs xs.length).getD ((eV p xs xs.length).length-1) 0≠0
 rw[h1,Nat.add_sub_cancel,h3];decide
theorem uv(xs:List Int)(i:Nat):∀ n,(dY xs i n).length<=n
 | 0=>Nat.le_refl _
 | n+1=>by
   have:=uv xs i n
   unfold dY
   split
   ·omega
   ·rw[List.length_append];simp only[List.length_cons,List.length_nil];omega
theorem Gj{xs:List Int}{i n:Nat}(h:n=i):dY xs i (n+1)=dY xs i n:=by
 show (if _ then _ else _)=_
 rw[if_pos h]
theorem BR{xs:List Int}{i n:Nat}(h:n≠i):dY xs i (n+1)=dY xs i n++[xs.getD n 0]:=by
 show (if _ then _ else _)=_
 rw[if_neg h]
theorem Ju{p:Int}{xs:List Int}(he:aq p xs=true)(i:Nat):∀ n,n<=xs.length->aq p (dY xs i n)=true
 | 0,_=>by simp[dY,aq]
 | n+1,h=>by
   have h1:=Ju he i n (by omega)
   by_cases e:n=i
   ·rw[Gj e];exact h1
   ·rw[BR e]
    unfold aq at *
    rw[decide_eq_true_eq] at *
    intro x hx
    rcases List.mem_append.1 hx with hx|hx
    ·exact h1 x hx
    ·rw[List.mem_singleton.1 hx]
     exact he _ (MV (by omega))
theorem Rd{p:Int}(hp:au p)(xs:List Int)(i:Nat):∀ m,(m<=i->dx p (dY xs i m)=eV p xs m)/\(i<m->kp p (bR p 0 (xs.getD i 0)) (dx p (dY xs i m))=eV p xs m)
 | 0=>⟨fun _=>rfl,fun h=>absurd h (by omega)⟩
 | m+1=>by
   obtain⟨h1,h2⟩:=Rd hp xs i m
   have hs:=(yC hp xs m).2.2.2
   refine⟨fun h=>?_,fun h=>?_⟩
   ·rw[BR (by omega),JN hp,h1 (by omega),hs]
   ·by_cases e:m=i
    ·rw[Gj e,h1 (by omega),hs,e]
    ·rw[BR e,JN hp,Xg,h2 (by omega),hs]
theorem VC{p:Int}(r:Int){A:List Int}(he:aq p A=true):∀ k,k<=A.length->ly p r (kp p r A) k=A.getD (A.length-k) 0
 | 0,_=>by
   rw[Nat.sub_zero,my (Nat.le_refl _)];rfl
 | k+1,h=>by
   show bR p ((kp p r A).getD ((kp p r A).length-1-k) 0) (mulM p (ly p r (kp p r A) k) r)=_
   rw[VC r he k (by omega),yf,Nat.add_sub_cancel,ry]
   unfold bR mulM AK
   rw[if_neg (by omega),pf,mQ,show A.getD (A.length-k) 0*r+A.getD (A.length-k-1) 0-A.getD (A.length-k) 0*r=A.getD (A.length-k-1) 0 by omega,gz (rS he (by omega))]
   rfl
theorem ZI{p:Int}(r:Int){A:List Int}(he:aq p A=true):NN p r (kp p r A)=A:=by
 unfold NN
 rw[yf,Nat.add_sub_cancel]
 refine vp (jB _ _) (fun t ht=>?_)
 rw[jB] at ht
 rw[qd,if_pos ht,VC r he _ (by omega)]
 congr 1
 omega
theorem ZJ{p:Int}(hp:au p){xs:List Int}{i:Nat}(hi:i<xs.length):NN p (bR p 0 (xs.getD i 0)) (dx p xs)=dx p (dY xs i xs.length):=by
 have h:=(Rd hp xs i xs.length).2 hi
 have:dx p xs=eV p xs xs.length:=rfl
 rw[this,<-h]
 exact ZI _ (uC hp _).2.1
theorem zZ{p:Int}{l:List Int}(h:aq p l=true):aq p (cf l)=true:=RE h _
theorem Fm{p:Int}(hp:au p)(a b:List Int):aq p (sU p a b)=true/\(sU p a b).length<=max a.length b.length/\jk (sU p a b)=true:=by
 refine⟨zZ (Eb (fun _ _=>xR hp _ _)),?_,vH _⟩
 unfold sU
 rw[oP]
 have:=xO (fC p a b (max a.length b.length))
 rwa [A9] at this
theorem zQ{p:Int}(hp:au p)(a:List Int)(c:Int):aq p (gv p a c)=true/\(gv p a c).length<=a.length/\jk (gv p a c)=true:=by
 refine⟨zZ (Eb (fun _ _=>f_ hp _ _)),?_,vH _⟩
 unfold gv
 rw[oP]
 have:=xO (kD p a c a.length)
 rwa [EK] at this
theorem yB{p:Int}(hp:au p){xs:List Int}(ys:List Int)(hl:xs.length<=40):∀ n,aq p (fk p xs ys n)=true/\(fk p xs ys n).length<=41/\jk (fk p xs ys n)=true
 | 0=>⟨by simp[fk,aq],by simp[fk],by unfold fk;rfl⟩
 | n+1=>by
   obtain⟨h1,h2,h3⟩:=yB hp ys hl n
   unfold fk
   refine⟨(Fm hp _ _).1,?_,(Fm hp _ _).2.2⟩
   have e1:=(Fm hp (fk p xs ys n) (gv p (dx p (dY xs n xs.length)) (mulM p (ys.getD n 0) (n6 p xs n)))).2.1
   have e2:=(zQ hp (dx p (dY xs n xs.length)) (mulM p (ys.getD n 0) (n6 p xs n))).2.1
   have e3:=(uC hp (dY xs n xs.length)).1
   have e4:=uv xs n xs.length
   omega
set_option maxRecDepth 10000
theorem LI:(∀ y:Fin 17,y.val≠0->y.val^16%17=1)/\(∀ y:Fin 97,y.val≠0->y.val^96%97=1)/\(∀ y:Fin 193,y.val≠0->y.val^192%193=1)/\(∀ y:Fin 257,y.val≠0->y.val^256%257=1):=by decide +kernel
theorem vW{P:Nat}(h:∀ y:Fin P,y.val≠0->y.val^(P-1)%P=1){x:Int}(hP:0<P)(hx:x%(P:Int)≠0):x^(P-1)%(P:Int)=1:=by
 have h0:=Int.emod_nonneg x (show (P:Int)≠0 by omega)
 have h1:=Int.emod_lt_of_pos x (show (0:Int)<P by omega)
 obtain⟨n,hn⟩:=Int.eq_ofNat_of_zero_le h0
 have h2:=h ⟨n,by omega⟩ (by show n≠0;omega)
 simp only at h2
 rw[<-pow_mod,hn,<-Int.natCast_pow,<-Int.natCast_emod,h2]
 rfl
theorem T4{f:Int}(h:0<=f/\f<4){x:Int}(hx:x%af f≠0):x^(af f-1).toNat%af f=1:=by
 obtain⟨h1,h2,h3,h4⟩:=LI
 have hc:f=0\/f=1\/f=2\/f=3:=by omega
 rcases hc with rfl|rfl|rfl|rfl
 ·exact vW (P:=17) h1 (by decide) hx
 ·exact vW (P:=97) h2 (by decide) hx
 ·exact vW (P:=193) h3 (by decide) hx
 ·exact vW (P:=257) h4 (by decide) hx
theorem DP(p:Int)(hp:au p){y:Int}(h:y%p=1):∀ q:Nat,y^q%p=1
 | 0=>by rw[Int.pow_zero];exact gz (ke hp)
 | q+1=>by rw[Int.pow_succ,<-bZ,DP p hp h q,Int.one_mul,h]
theorem Xo{f:Int}(hm:af f≠0)(x:Int){i:Nat}(hi:i<=400):qi (af f) x (i:Int)=b6 (af f) x i:=by
 obtain⟨hp,hf⟩:=b9 hm
 unfold qi
 by_cases hx:x%af f=0
 ·rw[if_pos hx]
  match i with
  | 0 =>
    rw[if_pos (show ((0:Nat):Int)=0 from rfl)]
    unfold b6
    rw[Int.pow_zero];exact (gz (ke hp)).symm
  | i+1 =>
    rw[if_neg (by omega),if_neg (by omega)]
    unfold b6
    rw[Int.pow_succ,<-bU,hx,Int.mul_zero,Int.zero_emod]
 ·rw[if_neg hx]
  by_cases hs:f<4
  ·have hfm:=T4 ⟨hf.1,hs⟩ hx
   have aeI:=hp
   unfold au at aeI
   obtain⟨P,hP⟩:=Int.eq_ofNat_of_zero_le (show 0<=af f-1 by omega)
   have hr:((i:Int)%(af f-1)).toNat=i%P:=by rw[hP];rfl
   rw[hr]
   rw[hP,Int.toNat_natCast] at hfm
   unfold b6
   conv=>rhs;rw[<-Nat.div_add_mod i P,Int.pow_add,Int.pow_mul,<-bZ,DP _ hp hfm,Int.one_mul]
  ·have Bt:7681<=af f:=by
    have hc:f=4\/f=5\/f=6\/f=7\/f=8:=by omega
    rcases hc with rfl|rfl|rfl|rfl|rfl<;>decide
   rw[Int.emod_eq_of_lt (by omega) (by omega),Int.toNat_natCast]
theorem aaB{p:Int}(hp:au p)(a:List Int)(x:Int):∀ n,El p (sm p a x n)
 | 0=>gA hp
 | n+1=>xR hp _ _
theorem TY{p:Int}(hp:au p)(a:List Int)(x:Int):El p (sn p a x):=aaB hp a x _
theorem Ur{p:Int}(hp:au p){a:List Int}{x:Int}{t:Nat×Int}{n:Nat}(hn:t.1=n+1)(h:yH p a x t):yH p a x (n,(t.2*x+a.getD n 0)%p):=by
 obtain⟨m,o⟩:=t
 simp only at hn
 subst hn
 obtain⟨h1,h2,h3⟩:=h
 simp only at h1 h2 h3
 refine⟨by show n<=_;omega,ei (by unfold au at hp;omega) _,?_⟩
 simp only
 rw[<-h3,<-eC,bZ,eC]
 show _=(o*x^(n+1)+eO p (sm p a x n) (mulM p (a.getD n 0) (b6 p x n)))%p
 unfold eO mulM b6
 rw[fM,bU,<-Int.add_assoc,fM]
 congr 1
 rw[Int.pow_succ]
 grind
theorem W0{p:Int}(hp:au p){a:List Int}{x:Int}{t:Nat×Int}(h0:t.1=0)(h:yH p a x t):t.2=sn p a x:=by
 obtain⟨m,o⟩:=t
 simp only at h0
 subst h0
 obtain⟨h1,h2,h3⟩:=h
 simp only at h2 h3
 rw[Int.pow_zero,Int.mul_one] at h3
 rw[<-h3]
 show o=(o+0)%p
 rw[Int.add_zero,gz h2]
theorem kV(p r:Int)(a:List Int)(k:Nat):(cQ p r a k).length=a.length:=jB _ _
theorem UP(p r:Int)(a:List Int)(k j:Nat):(mn p r a k j).length=a.length:=by
 unfold mn
 split
 ·exact kV ..
 ·split
  ·rw[List.length_set,kV]
  ·exact kV ..
theorem Xu(p r:Int)(a:List Int)(k:Nat):(mb p r a k).length=a.length-1:=jB _ _
theorem CK{p:Int}(hp:au p)(r:Int)(a:List Int):∀ k,El p (ly p r a k)
 | 0=>gA hp
 | k+1=>lC hp _ _
theorem rv{p r:Int}{a:List Int}{k t:Nat}(ht:t<a.length):(cQ p r a k).getD t 0=if t+k<a.length-1 then a.getD t 0 else if t+k=a.length-1 then ly p r a (k+1) else 0:=by
 unfold cQ
 rw[qd,if_pos ht]
theorem UR{p r:Int}{a:List Int}(h2:2<=a.length)(he:aq p a=true):a=cQ p r a 0:=by
 refine vp (kV ..).symm (fun t ht=>?_)
 rw[rv ht]
 by_cases h:t+0<a.length-1
 ·rw[if_pos h]
 ·rw[if_neg h,if_pos (by omega)]
  show _=bR p (a.getD (a.length-1-0) 0) (mulM p 0 r)
  unfold bR mulM
  rw[Int.zero_mul,Int.zero_emod,Int.sub_zero,show a.length-1-0=t by omega,gz (rS he ht)]
theorem VD(p r:Int)(a:List Int):List.replicate (a.length-1) 0=mb p r a 0:=by
 rw[vr]
 refine eG (fun t ht=>?_)
 rw[if_neg (by omega)]
theorem NO{p r:Int}{a:List Int}{k:Nat}(hk:k+1<=a.length-1):(mb p r a k).set (a.length-2-k) (ly p r a (k+1))=mb p r a (k+1):=by
 unfold mb
 rw[qe]
 refine eG (fun t ht=>?_)
 by_cases h:t=a.length-2-k
 ·rw[if_pos h,if_pos (by omega)]
  congr 1
  omega
 ·rw[if_neg h]
  by_cases h2:a.length-1<=t+k
  ·rw[if_pos h2,if_pos (by omega)]
  ·rw[if_neg h2,if_neg (by omega)]
theorem Xt(p r:Int)(a:List Int):mb p r a (a.length-1)=NN p r a:=eG (fun t ht=>by rw[if_pos (by omega)])
theorem UQ{p r:Int}{a:List Int}{k:Nat}(hk:k+1<=a.length-1)(he:aq p a=true)(hz:ly p r a (k+1)=0):cQ p r a k=cQ p r a (k+1):=by
 refine vp (by simp only[kV]) (fun t ht=>?_)
 rw[kV] at ht
 rw[rv ht,rv ht]
 by_cases h:t+(k+1)<a.length-1
 ·rw[if_pos h,if_pos (by omega)]
 ·rw[if_neg h]
  by_cases h2:t+(k+1)=a.length-1
  ·rw[if_pos h2,if_pos (by omega)]
   show _=bR p (a.getD (a.length-1-(k+1)) 0) (mulM p (ly p r a (k+1)) r)
   unfold bR mulM
   rw[hz,Int.zero_mul,Int.zero_emod,Int.sub_zero,show a.length-1-(k+1)=t by omega,gz (rS he ht)]
  ·rw[if_neg h2,if_neg (by omega)]
   by_cases h3:t+k=a.length-1
   ·rw[if_pos h3,hz]
   ·rw[if_neg h3]
theorem Xd{p r:Int}{a:List Int}{k:Nat}(hk:k+1<=a.length-1):((cQ p r a k).set (a.length-2-k) (ly p r a (k+2))).set (a.length-1-k) 0=cQ p r a (k+1):=by
 unfold cQ
 rw[qe,qe]
 refine eG (fun t ht=>?_)
 by_cases h:t=a.length-1-k
 ·rw[if_pos h,if_neg (by omega),if_neg (by omega)]
 ·rw[if_neg h]
  by_cases h2:t=a.length-2-k
  ·rw[if_pos h2,if_neg (by omega),if_pos (by omega)]
  ·rw[if_neg h2]
   by_cases h3:t+k<a.length-1
   ·rw[if_pos h3,if_pos (by omega)]
   ·rw[if_neg h3,if_neg (by omega),if_neg (by omega),if_neg (by omega)]
theorem T7{l:List Int}{i j:Nat}{v:Int}(hi:i<l.length):(l.set i v).getD j 0=if j=i then v else l.getD j 0:=by
 rw[List.getD_eq_getElem?_getD,List.getElem?_set]
 by_cases h:i=j
 ·subst h
  rw[if_pos rfl,if_pos hi,if_pos rfl];rfl
 ·rw[if_neg h,if_neg (Ne.symm h),List.getD_eq_getElem?_getD]
theorem inv_one{p:Int}(hp:au p):bk p 1=1:=by
 unfold bk b6
 rw[Int.one_pow,gz (ke hp)]
theorem Gl{p:Int}{a b:Int}(ha:El p a)(hb:El p b):aq p [a,b]=true:=yO (fun i hi=>by
 simp only[List.length_cons,List.length_nil] at hi
 match i with
 | 0=>exact ha
 | 1=>exact hb
 | n+2=>omega)
theorem oI{f:Int}{xs ys:List Int}(h:(bT f xs&&decide (ys.length=xs.length)&&aC f ys)=false):([],false)=cK f xs ys:=by unfold cK;rw[h];rfl
theorem Ey{f:Int}{xs ys:List Int}(h1:bT f xs=true)(h2:ys.length=xs.length)(h3:aC f ys=true):cK f xs ys=(gk (af f) xs ys,true):=by
 unfold cK
 rw[h1,h3,decide_eq_true h2];rfl
theorem UK{f:Int}{xs ys:List Int}(h:(cK f xs ys).2=true):bT f xs=true/\ys.length=xs.length/\aC f ys=true/\cK f xs ys=(gk (af f) xs ys,true):=by
 by_cases hc:(bT f xs&&decide (ys.length=xs.length)&&aC f ys)=true
 ·have fF:=hc
  simp only[Bool.and_eq_true,decide_eq_true_eq] at fF
  exact⟨fF.1.1,fF.1.2,fF.2,Ey fF.1.1 fF.1.2 fF.2⟩
 ·rw[<-oI (by simpa using hc)] at h
  cases h
theorem KP :
 ∀(d:Int×List Int),Ty.wf ai d.1/\Ty.wf aj d.2->aC d.1 d.2=true/\d.2.length<=(40:Nat)->(0:Nat)<=d.2.length/\((d.1=d.1/\d.2=d.2/\aQ/\(0:Int)=(↑(0:Nat):Int))/\[(1:Int)]=eV (af d.1) d.2 (0:Nat))/\∀(x:Nat),x<=d.2.length->(decide ((x:Int)<(d.2.length:Int))=true->((0:Int)<=(x:Int)/\(x:Int)<(d.2.length:Int))/\True/\(Ty.wf ai (jj d.1 (0:Int) (d.2.getD ((x:Int).toNat) (0:Int)))->(aC d.1 (eV (af d.1) d.2 x)=true/\aC d.1 [jj d.1 (0:Int) (d.2.getD ((x:Int).toNat) (0:Int)),(1:Int)]=true/\List.length (eV (af d.1) d.2 x)<=(1000:Nat)/\List.length [jj d.1 (0:Int) (d.2.getD ((x:Int).toNat) (0:Int)),(1:Int)]<=(1000:Nat))/\(Ty.wf aj (ee (af d.1) (eV (af d.1) d.2 x) [jj d.1 (0:Int) (d.2.getD ((x:Int).toNat) (0:Int)),(1:Int)])->∃(x':Nat),x'<=d.2.length/\d.2.length-x'<d.2.length-x/\(d.1=d.1/\d.2=d.2/\aQ/\i64.wrap ((x:Int)+(1:Int))=(x':Int))/\ee (af d.1) (eV (af d.1) d.2 x) [jj d.1 (0:Int) (d.2.getD ((x:Int).toNat) (0:Int)),(1:Int)]=eV (af d.1) d.2 x')))/\(decide ((x:Int)<(d.2.length:Int))=false->eV (af d.1) d.2 x=dx (af d.1) d.2):=by
  intro (d:Int×List Int) hw hp
  obtain⟨f,xs⟩:=d
  replace hp:aC f xs=true/\xs.length<=40:=hp
  simp only[exists_const,forall_const,decide_eq_true_eq,decide_eq_false_iff_not,beq_iff_eq,sxS]
  obtain⟨hs,hl⟩:=hp
  obtain⟨hm,he⟩:=jt hs
  have h0:=(b9 hm).1
  refine⟨by omega,⟨rfl,rfl⟩,fun x hx=>⟨fun h=>⟨⟨by omega,by omega⟩,fun _=>?_⟩,fun h=>by rw[show x=xs.length by omega];rfl⟩⟩
  rw[yA hm]
  have hv:=yC h0 xs x
  exact⟨⟨iH hm hv.2.1,iH hm (Gl (lC h0 _ _) (ke h0)),by omega,by simp⟩,fun _=>⟨x+1,by omega,by omega,aG (by omega),rfl⟩⟩
theorem Td :
 ∀(d:(Int×Int×Int)×List Int),Ty.wf bW d.1/\Ty.wf aj d.2->au d.1.1/\aq d.1.1 d.2=true/\d.2.length<=(40:Nat)->(0:Nat)<=d.2.length/\(((ae d.1.1/\ae d.1.2.1/\ae d.1.2.2)/\d.2=d.2/\aQ/\d.2=d.2/\ae (d.2.length:Int)/\(0:Int)=(↑(0:Nat):Int))/\(ae d.1.1/\ae d.1.2.1/\ae d.1.2.2)/\[(1:Int)]=eV d.1.1 d.2 (0:Nat))/\∀(x:Nat),x<=d.2.length->(decide ((x:Int)<(d.2.length:Int))=true->((0:Int)<=(x:Int)/\(x:Int)<(d.2.length:Int))/\(au d.1.1/\El d.1.1 (0:Int)/\El d.1.1 (d.2.getD ((x:Int).toNat) (0:Int)))/\(au d.1.1/\aq d.1.1 (eV d.1.1 d.2 x)=true/\aq d.1.1 [bR d.1.1 (0:Int) (d.2.getD ((x:Int).toNat) (0:Int)),(1:Int)]=true/\List.length (eV d.1.1 d.2 x)<=(1000:Nat)/\List.length [bR d.1.1 (0:Int) (d.2.getD ((x:Int).toNat) (0:Int)),(1:Int)]<=(1000:Nat))/\(Ty.wf aj (ee d.1.1 (eV d.1.1 d.2 x) [bR d.1.1 (0:Int) (d.2.getD ((x:Int).toNat) (0:Int)),(1:Int)])->Ty.wf ai (bR d.1.1 (0:Int) (d.2.getD ((x:Int).toNat) (0:Int)))->∃(x':Nat),x'<=d.2.length/\d.2.length-x'<d.2.length-x/\((ae d.1.1/\ae d.1.2.1/\ae d.1.2.2)/\d.2=d.2/\aQ/\d.2=d.2/\ae (d.2.length:Int)/\i64.wrap ((x:Int)+(1:Int))=(x':Int))/\(ae d.1.1/\ae d.1.2.1/\ae d.1.2.2)/\ee d.1.1 (eV d.1.1 d.2 x) [bR d.1.1 (0:Int) (d.2.getD ((x:Int).toNat) (0:Int)),(1:Int)]=eV d.1.1 d.2 x'))/\(decide ((x:Int)<(d.2.length:Int))=false->eV d.1.1 d.2 x=dx d.1.1 d.2):=by
  intro (d:Fd×List Int) hw hp
  obtain⟨⟨p,g,t⟩,xs⟩:=d
  replace hp:au p/\aq p xs=true/\xs.length<=40:=hp
  simp only[exists_const,forall_const,decide_eq_true_eq,decide_eq_false_iff_not,beq_iff_eq,sxS]
  obtain⟨h0,he,hl⟩:=hp
  refine⟨by omega,⟨rfl,rfl⟩,fun x hx=>⟨fun h=>⟨⟨by omega,by omega⟩,⟨h0,gA h0,fc h0 he _⟩,?_⟩,fun h=>by rw[show x=xs.length by omega];rfl⟩⟩
  have hv:=yC h0 xs x
  exact⟨⟨h0,hv.2.1,Gl (lC h0 _ _) (ke h0),by omega,by simp⟩,fun _ _=>⟨x+1,by omega,by omega,aG (by omega),rfl⟩⟩
theorem It :
 ∀(d:Int×List Int×List Int),Ty.wf ai d.1/\Ty.wf aj d.2.1/\Ty.wf aj d.2.2->bT d.1 d.2.1=true/\d.2.2.length=d.2.1.length->(0:Nat)<=d.2.1.length/\((d.1=d.1/\ae d.2.1/\ae d.2.2/\aQ/\(0:Int)=(↑(0:Nat):Int))/\[]=fk (af d.1) d.2.1 d.2.2 (0:Nat))/\∀(x:Nat),x<=d.2.1.length->(decide ((x:Int)<(d.2.1.length:Int))=true->(0:Nat)<=d.2.1.length/\((d.1=d.1/\ae d.2.1/\ae d.2.2/\aQ/\ae (x:Int)/\(1:Int)=il (af d.1) d.2.1 x (0:Nat)/\(0:Int)=(↑(0:Nat):Int))/\ae (fk (af d.1) d.2.1 d.2.2 x)/\[]=dY d.2.1 x (0:Nat))/\∀(x_1:Nat),x_1<=d.2.1.length->(decide ((x_1:Int)<(d.2.1.length:Int))=true->((!decide ((x_1:Int)=(x:Int)))=true->((0:Int)<=(x_1:Int)/\(x_1:Int)<(d.2.1.length:Int))/\(List.length (dY d.2.1 x x_1)+List.length [d.2.1.getD ((x_1:Int).toNat) (0:Int)])*(8:Nat)<=(140737488355328:Nat)/\((0:Int)<=(x:Int)/\(x:Int)<(d.2.1.length:Int))/\((0:Int)<=(x_1:Int)/\(x_1:Int)<(d.2.1.length:Int))/\True/\True/\(Ty.wf ai (c8 d.1 (il (af d.1) d.2.1 x x_1) (jj d.1 (d.2.1.getD ((x:Int).toNat) (0:Int)) (d.2.1.getD ((x_1:Int).toNat) (0:Int))))->Ty.wf ai (jj d.1 (d.2.1.getD ((x:Int).toNat) (0:Int)) (d.2.1.getD ((x_1:Int).toNat) (0:Int)))->∃(x':Nat),x'<=d.2.1.length/\d.2.1.length-x'<d.2.1.length-x_1/\(d.1=d.1/\ae d.2.1/\ae d.2.2/\aQ/\ae (x:Int)/\c8 d.1 (il (af d.1) d.2.1 x x_1) (jj d.1 (d.2.1.getD ((x:Int).toNat) (0:Int)) (d.2.1.getD ((x_1:Int).toNat) (0:Int)))=il (af d.1) d.2.1 x x'/\i64.wrap ((x_1:Int)+(1:Int))=(x':Int))/\ae (fk (af d.1) d.2.1 d.2.2 x)/\dY d.2.1 x x_1++[d.2.1.getD ((x_1:Int).toNat) (0:Int)]=dY d.2.1 x x'))/\((!decide ((x_1:Int)=(x:Int)))=false->∃(x':Nat),x'<=d.2.1.length/\d.2.1.length-x'<d.2.1.length-x_1/\(d.1=d.1/\ae d.2.1/\ae d.2.2/\aQ/\ae (x:Int)/\il (af d.1) d.2.1 x x_1=il (af d.1) d.2.1 x x'/\i64.wrap ((x_1:Int)+(1:Int))=(x':Int))/\ae (fk (af d.1) d.2.1 d.2.2 x)/\dY d.2.1 x x_1=dY d.2.1 x x'))/\(decide ((x_1:Int)<(d.2.1.length:Int))=false->(aC d.1 (dY d.2.1 x x_1)=true/\List.length (dY d.2.1 x x_1)<=(40:Nat))/\((0:Int)<=(x:Int)/\(x:Int)<(d.2.2.length:Int))/\True/\True/\True/\True/\(Ty.wf aj (rP d.1 (fk (af d.1) d.2.1 d.2.2 x) (lN d.1 (dx (af d.1) (dY d.2.1 x x_1)) (c8 d.1 (d.2.2.getD ((x:Int).toNat) (0:Int)) (bG d.1 (il (af d.1) d.2.1 x x_1) (-1:Int)))))->Ty.wf aj (lN d.1 (dx (af d.1) (dY d.2.1 x x_1)) (c8 d.1 (d.2.2.getD ((x:Int).toNat) (0:Int)) (bG d.1 (il (af d.1) d.2.1 x x_1) (-1:Int))))->Ty.wf ai (c8 d.1 (d.2.2.getD ((x:Int).toNat) (0:Int)) (bG d.1 (il (af d.1) d.2.1 x x_1) (-1:Int)))->Ty.wf ai (bG d.1 (il (af d.1) d.2.1 x x_1) (-1:Int))->Ty.wf aj (dx (af d.1) (dY d.2.1 x x_1))->∃(x':Nat),x'<=d.2.1.length/\d.2.1.length-x'<d.2.1.length-x/\(d.1=d.1/\ae d.2.1/\ae d.2.2/\aQ/\i64.wrap ((x:Int)+(1:Int))=(x':Int))/\rP d.1 (fk (af d.1) d.2.1 d.2.2 x) (lN d.1 (dx (af d.1) (dY d.2.1 x x_1)) (c8 d.1 (d.2.2.getD ((x:Int).toNat) (0:Int)) (bG d.1 (il (af d.1) d.2.1 x x_1) (-1:Int))))=fk (af d.1) d.2.1 d.2.2 x')))/\(decide ((x:Int)<(d.2.1.length:Int))=false->List.length (fk (af d.1) d.2.1 d.2.2 x)<=(1048576:Nat)/\(Ty.wf aj (cf (fk (af d.1) d.2.1 d.2.2 x))->cf (fk (af d.1) d.2.1 d.2.2 x)=gk (af d.1) d.2.1 d.2.2)):=by
  intro (d:Int×List Int×List Int) hw hp
  obtain⟨f,xs,ys⟩:=d
  replace hp:bT f xs=true/\ys.length=xs.length:=hp
  simp only[exists_const,forall_const,decide_eq_true_eq,decide_eq_false_iff_not,beq_iff_eq,sxS]
  obtain⟨o7,AA⟩:=hp
  obtain⟨hm,tx,mg,he,hn⟩:=kY o7
  have hp:=nU hm
  refine⟨by omega,⟨rfl,rfl⟩,fun x hx=>⟨fun h=>⟨by omega,⟨⟨rfl,rfl⟩,rfl⟩,fun y hy=>⟨fun h1=>⟨fun h2=>?_,fun h2=>?_⟩,fun h1=>?_⟩⟩,fun h=>?_⟩⟩
  ·have hol:=uv xs x y
   rw[lJ hm,yA hm]
   refine⟨⟨by omega,by omega⟩,by simp only[List.length_cons,List.length_nil];omega,⟨by omega,by omega⟩,⟨by omega,by omega⟩,fun _ _=>⟨y+1,by omega,by omega,⟨?_,aG (by omega)⟩,(BR (by omega)).symm⟩⟩
   show _=if y=x then _ else _
   rw[if_neg (by omega)]
  ·refine⟨y+1,by omega,by omega,⟨?_,aG (by omega)⟩,(Gj (by omega)).symm⟩
   show _=if y=x then _ else _
   rw[if_pos (by omega)]
  ·obtain rfl:y=xs.length:=by omega
   have hol:=uv xs x xs.length
   have hv:=uC hp.mod (dY xs x xs.length)
   have hinv:bG f (il (af f) xs x xs.length) (-1)=n6 (af f) xs x:=by
    rw[yn hm,Nj hp.mod (Ru hp he hn (by omega) _ (Nat.le_refl _))];rfl
   have Yw:=zQ hp.mod (dx (af f) (dY xs x xs.length)) (mulM (af f) (ys.getD x 0) (n6 (af f) xs x))
   have QD:=yB hp.mod ys mg x
   have aeJ:lN f (dx (af f) (dY xs x xs.length)) (mulM (af f) (ys.getD x 0) (n6 (af f) xs x))=gv (af f) (dx (af f) (dY xs x xs.length)) (mulM (af f) (ys.getD x 0) (n6 (af f) xs x)):=by
    unfold lN
    rw[if_pos (lK hm hv.2.1 (by omega) hv.2.2)]
   rw[hinv,lJ hm,aeJ]
   refine⟨⟨iH hm (Ju he x _ (Nat.le_refl _)),by omega⟩,⟨by omega,by omega⟩,fun _ _ _ _ _=>⟨x+1,by omega,by omega,aG (by omega),?_⟩⟩
   unfold rP
   rw[lK hm QD.1 (by omega) QD.2.2,lK hm Yw.1 (by omega) Yw.2.2]
   rfl
  ·obtain rfl:x=xs.length:=by omega
   have QD:=yB hp.mod ys mg xs.length
   exact⟨by omega,fun _=>yN QD.2.2⟩
theorem PB :
 ∀(d:(Int×Int×Int)×List Int×List Int),Ty.wf bW d.1/\Ty.wf aj d.2.1/\Ty.wf aj d.2.2->(∃(f:Int),bT f d.2.1=true/\af f=d.1.1)/\aq d.1.1 d.2.2=true/\d.2.2.length=d.2.1.length->(au d.1.1/\aq d.1.1 d.2.1=true/\d.2.1.length<=(40:Nat))/\(Ty.wf aj (dx d.1.1 d.2.1)->(0:Nat)<=d.2.1.length/\(((ae d.1.1/\ae d.1.2.1/\ae d.1.2.2)/\ae d.2.1/\ae d.2.2/\aQ/\ae d.2.1/\ae (d.2.1.length:Int)/\(0:Int)=(↑(0:Nat):Int))/\(ae d.1.1/\ae d.1.2.1/\ae d.1.2.2)/\ae (dx d.1.1 d.2.1)/\[]=fk d.1.1 d.2.1 d.2.2 (0:Nat))/\∀(x:Nat),x<=d.2.1.length->(decide ((x:Int)<(d.2.1.length:Int))=true->((0:Int)<=(x:Int)/\(x:Int)<(d.2.1.length:Int))/\(au d.1.1/\El d.1.1 (0:Int)/\El d.1.1 (d.2.1.getD ((x:Int).toNat) (0:Int)))/\(au d.1.1/\aq d.1.1 (dx d.1.1 d.2.1)=true/\(2:Nat)<=List.length (dx d.1.1 d.2.1)/\List.length (dx d.1.1 d.2.1)<=(1000:Nat)/\Wm d.1.1 [bR d.1.1 (0:Int) (d.2.1.getD ((x:Int).toNat) (0:Int)),(1:Int)])/\(Ty.wf aj (ra d.1.1 (dx d.1.1 d.2.1) [bR d.1.1 (0:Int) (d.2.1.getD ((x:Int).toNat) (0:Int)),(1:Int)]).1/\Ty.wf aj (ra d.1.1 (dx d.1.1 d.2.1) [bR d.1.1 (0:Int) (d.2.1.getD ((x:Int).toNat) (0:Int)),(1:Int)]).2->Ty.wf ai (bR d.1.1 (0:Int) (d.2.1.getD ((x:Int).toNat) (0:Int)))->((0:Int)<=(x:Int)/\(x:Int)<(d.2.2.length:Int))/\(au d.1.1/\aq d.1.1 d.2.1=true/\(0:cj [ai])<=(x:Int)/\(x:Int)<(↑d.2.1.length:cj [ai]))/\(au d.1.1/\El d.1.1 (d.2.2.getD ((x:Int).toNat) (0:Int))/\El d.1.1 (n6 d.1.1 d.2.1 ((x:Int).toNat)))/\(au d.1.1/\aq d.1.1 (ra d.1.1 (dx d.1.1 d.2.1) [bR d.1.1 (0:Int) (d.2.1.getD ((x:Int).toNat) (0:Int)),(1:Int)]).1=true/\El d.1.1 (mulM d.1.1 (d.2.2.getD ((x:Int).toNat) (0:Int)) (n6 d.1.1 d.2.1 ((x:Int).toNat)))/\List.length (ra d.1.1 (dx d.1.1 d.2.1) [bR d.1.1 (0:Int) (d.2.1.getD ((x:Int).toNat) (0:Int)),(1:Int)]).1<=(1000:Nat))/\(au d.1.1/\aq d.1.1 (fk d.1.1 d.2.1 d.2.2 x)=true/\aq d.1.1 (gv d.1.1 (ra d.1.1 (dx d.1.1 d.2.1) [bR d.1.1 (0:Int) (d.2.1.getD ((x:Int).toNat) (0:Int)),(1:Int)]).1 (mulM d.1.1 (d.2.2.getD ((x:Int).toNat) (0:Int)) (n6 d.1.1 d.2.1 ((x:Int).toNat))))=true/\List.length (fk d.1.1 d.2.1 d.2.2 x)<=(1000:Nat)/\List.length (gv d.1.1 (ra d.1.1 (dx d.1.1 d.2.1) [bR d.1.1 (0:Int) (d.2.1.getD ((x:Int).toNat) (0:Int)),(1:Int)]).1 (mulM d.1.1 (d.2.2.getD ((x:Int).toNat) (0:Int)) (n6 d.1.1 d.2.1 ((x:Int).toNat))))<=(1000:Nat))/\(Ty.wf aj (sU d.1.1 (fk d.1.1 d.2.1 d.2.2 x) (gv d.1.1 (ra d.1.1 (dx d.1.1 d.2.1) [bR d.1.1 (0:Int) (d.2.1.getD ((x:Int).toNat) (0:Int)),(1:Int)]).1 (mulM d.1.1 (d.2.2.getD ((x:Int).toNat) (0:Int)) (n6 d.1.1 d.2.1 ((x:Int).toNat)))))->Ty.wf aj (gv d.1.1 (ra d.1.1 (dx d.1.1 d.2.1) [bR d.1.1 (0:Int) (d.2.1.getD ((x:Int).toNat) (0:Int)),(1:Int)]).1 (mulM d.1.1 (d.2.2.getD ((x:Int).toNat) (0:Int)) (n6 d.1.1 d.2.1 ((x:Int).toNat))))->Ty.wf ai (mulM d.1.1 (d.2.2.getD ((x:Int).toNat) (0:Int)) (n6 d.1.1 d.2.1 ((x:Int).toNat)))->Ty.wf ai (n6 d.1.1 d.2.1 ((x:Int).toNat))->∃(x':Nat),x'<=d.2.1.length/\d.2.1.length-x'<d.2.1.length-x/\((ae d.1.1/\ae d.1.2.1/\ae d.1.2.2)/\ae d.2.1/\ae d.2.2/\aQ/\ae d.2.1/\ae (d.2.1.length:Int)/\i64.wrap ((x:Int)+(1:Int))=(x':Int))/\(ae d.1.1/\ae d.1.2.1/\ae d.1.2.2)/\ae (dx d.1.1 d.2.1)/\sU d.1.1 (fk d.1.1 d.2.1 d.2.2 x) (gv d.1.1 (ra d.1.1 (dx d.1.1 d.2.1) [bR d.1.1 (0:Int) (d.2.1.getD ((x:Int).toNat) (0:Int)),(1:Int)]).1 (mulM d.1.1 (d.2.2.getD ((x:Int).toNat) (0:Int)) (n6 d.1.1 d.2.1 ((x:Int).toNat))))=fk d.1.1 d.2.1 d.2.2 x')))/\(decide ((x:Int)<(d.2.1.length:Int))=false->fk d.1.1 d.2.1 d.2.2 x=gk d.1.1 d.2.1 d.2.2)):=by
  intro (d:Fd×List Int×List Int) hw hp
  obtain⟨⟨p,g,t⟩,xs,ys⟩:=d
  replace hp:(∃ f,bT f xs=true/\af f=p)/\aq p ys=true/\ys.length=xs.length:=hp
  simp only[exists_const,forall_const,decide_eq_true_eq,decide_eq_false_iff_not,beq_iff_eq,sxS]
  obtain⟨⟨f,o7,rfl⟩,hye,AA⟩:=hp
  obtain⟨hm,tx,mg,he,hn⟩:=kY o7
  have h0:=(nU hm).mod
  have hv:=uC h0 xs
  refine⟨⟨h0,he,by omega⟩,fun _=>⟨by omega,⟨rfl,rfl⟩,fun x hx=>⟨fun h=>?_,fun h=>by rw[show x=xs.length by omega];rfl⟩⟩⟩
  have hq:(ra (af f) (dx (af f) xs) [bR (af f) 0 (xs.getD x 0),1]).1=dx (af f) (dY xs x xs.length):=ZJ h0 (by omega)
  rw[hq]
  have hol:=uv xs x xs.length
  have hvo:=uC h0 (dY xs x xs.length)
  have Yw:=zQ h0 (dx (af f) (dY xs x xs.length)) (mulM (af f) (ys.getD x 0) (n6 (af f) xs x))
  have QD:=yB h0 ys mg x
  refine⟨⟨by omega,by omega⟩,⟨h0,gA h0,fc h0 he _⟩,⟨h0,hv.2.1,by omega,by omega,rfl,rfl,lC h0 _ _⟩,fun _ _=>⟨⟨by omega,by omega⟩,⟨h0,he,Int.natCast_nonneg _,by omega⟩,⟨h0,fc h0 hye _,uj h0 _⟩,⟨h0,hvo.2.1,f_ h0 _ _,by omega⟩,⟨h0,QD.1,Yw.1,by omega,by omega⟩,fun _ _ _ _=>⟨x+1,by omega,by omega,aG (by omega),rfl⟩⟩⟩
theorem G2 :
 ∀(d:Int×List Int×List Int),Ty.wf ai d.1/\Ty.wf aj d.2.1/\Ty.wf aj d.2.2->True->True/\((!bT d.1 d.2.1)=true->([],false)=cK d.1 d.2.1 d.2.2)/\((!bT d.1 d.2.1)=false->((!decide ((d.2.2.length:Int)=(d.2.1.length:Int)))=true->([],false)=cK d.1 d.2.1 d.2.2)/\((!decide ((d.2.2.length:Int)=(d.2.1.length:Int)))=false->True/\((!aC d.1 d.2.2)=true->([],false)=cK d.1 d.2.1 d.2.2)/\((!aC d.1 d.2.2)=false->(bT d.1 d.2.1=true/\d.2.2.length=d.2.1.length)/\(Ty.wf aj (gk (af d.1) d.2.1 d.2.2)->(gk (af d.1) d.2.1 d.2.2,true)=cK d.1 d.2.1 d.2.2)))):=by
  intro (d:Int×List Int×List Int) hw hp
  obtain⟨f,xs,ys⟩:=d
  simp only[exists_const,forall_const,decide_eq_true_eq,decide_eq_false_iff_not,beq_iff_eq,sxS]
  refine⟨fun h=>oI (by rw[h];rfl),fun h=>⟨fun h1=>oI (by rw[decide_eq_false (by omega),Bool.and_false];rfl),fun h1=>⟨fun h2=>oI (by rw[h2,Bool.and_false]),fun h2=>⟨⟨h,by omega⟩,fun _=>(Ey h (by omega) h2).symm⟩⟩⟩⟩
theorem GZ :
 ∀(d:Int×List Int×List Int),Ty.wf ai d.1/\Ty.wf aj d.2.1/\Ty.wf aj d.2.2->True->True/\(Ty.wf bW (iT d.1 d.2.1).1/\Ty.wf Ty.bool (iT d.1 d.2.1).2->((!(iT d.1 d.2.1).2)=true->([],false)=cK d.1 d.2.1 d.2.2)/\((!(iT d.1 d.2.1).2)=false->((!decide ((d.2.2.length:Int)=(d.2.1.length:Int)))=true->([],false)=cK d.1 d.2.1 d.2.2)/\((!decide ((d.2.2.length:Int)=(d.2.1.length:Int)))=false->True/\((!aq (iT d.1 d.2.1).1.1 d.2.2)=true->([],false)=cK d.1 d.2.1 d.2.2)/\((!aq (iT d.1 d.2.1).1.1 d.2.2)=false->((∃(f:Int),bT f d.2.1=true/\af f=(iT d.1 d.2.1).1.1)/\aq (iT d.1 d.2.1).1.1 d.2.2=true/\d.2.2.length=d.2.1.length)/\(Ty.wf aj (gk (iT d.1 d.2.1).1.1 d.2.1 d.2.2)->(gk (iT d.1 d.2.1).1.1 d.2.1 d.2.2,true)=cK d.1 d.2.1 d.2.2))))):=by
  intro (d:Int×List Int×List Int) hw hp
  obtain⟨f,xs,ys⟩:=d
  simp only[exists_const,forall_const,decide_eq_true_eq,decide_eq_false_iff_not,beq_iff_eq,sxS]
  intro _
  rw[Vm]
  refine⟨fun h=>oI (by rw[h];rfl),fun h=>?_⟩
  rw[aca h]
  have hm:=(kY h).1
  refine⟨fun h1=>oI (by rw[decide_eq_false (by omega),Bool.and_false];rfl),fun h1=>⟨fun h2=>oI ?_,fun h2=>⟨⟨⟨f,h,rfl⟩,h2,by omega⟩,fun _=>(Ey h (by omega) (iH hm h2)).symm⟩⟩⟩
  unfold aC
  rw[h2,Bool.and_false,Bool.and_false]
theorem GV :
 ∀(d:Int×List Int×List Int),Ty.wf ai d.1/\Ty.wf aj d.2.1/\Ty.wf aj d.2.2->True->True/\(Ty.wf aj (cK d.1 d.2.1 d.2.2).1/\Ty.wf Ty.bool (cK d.1 d.2.1 d.2.2).2->(Prod.fst (cK d.1 d.2.1 d.2.2),(cK d.1 d.2.1 d.2.2).2)=cK d.1 d.2.1 d.2.2):=by
  intro (d:Int×List Int×List Int) hw hp
  simp only[exists_const,forall_const,decide_eq_true_eq,decide_eq_false_iff_not,beq_iff_eq,sxS]
theorem OB :
 ∀(d:Int×List Int×Int),Ty.wf ai d.1/\Ty.wf aj d.2.1/\Ty.wf ai d.2.2->True->True/\((!aZ d.1 d.2.1)=true->(-1:Int)=vT d.1 d.2.1 d.2.2)/\((!aZ d.1 d.2.1)=false->(0:Nat)<=d.2.1.length/\(d.1=d.1/\ae d.2.1/\ae d.2.2/\ae (0:Int)/\(0:Int)=sm (af d.1) d.2.1 d.2.2 (0:Nat)/\(0:Int)=(↑(0:Nat):Int))/\∀(x:Nat),x<=d.2.1.length->(decide ((x:Int)<(d.2.1.length:Int))=true->((0:Int)<=(x:Int)/\(x:Int)<(d.2.1.length:Int))/\True/\True/\True/\(Ty.wf ai (po d.1 (sm (af d.1) d.2.1 d.2.2 x) (c8 d.1 (d.2.1.getD ((x:Int).toNat) (0:Int)) (bG d.1 d.2.2 (x:Int))))->Ty.wf ai (c8 d.1 (d.2.1.getD ((x:Int).toNat) (0:Int)) (bG d.1 d.2.2 (x:Int)))->Ty.wf ai (bG d.1 d.2.2 (x:Int))->∃(x':Nat),x'<=d.2.1.length/\d.2.1.length-x'<d.2.1.length-x/\d.1=d.1/\ae d.2.1/\ae d.2.2/\ae (0:Int)/\po d.1 (sm (af d.1) d.2.1 d.2.2 x) (c8 d.1 (d.2.1.getD ((x:Int).toNat) (0:Int)) (bG d.1 d.2.2 (x:Int)))=sm (af d.1) d.2.1 d.2.2 x'/\i64.wrap ((x:Int)+(1:Int))=(x':Int)))/\(decide ((x:Int)<(d.2.1.length:Int))=false->sm (af d.1) d.2.1 d.2.2 x=vT d.1 d.2.1 d.2.2)):=by
  intro (d:Int×List Int×Int) hw hp
  obtain⟨f,a,y⟩:=d
  simp only[exists_const,forall_const,decide_eq_true_eq,decide_eq_false_iff_not,beq_iff_eq,sxS]
  refine⟨fun h=>by unfold vT;rw[h];rfl,fun h=>?_⟩
  obtain⟨hm,he,hl,ht⟩:=c6 h
  refine⟨by omega,⟨rfl,rfl⟩,fun x hx=>⟨fun h1=>⟨⟨by omega,by omega⟩,fun _ _ _=>⟨x+1,by omega,by omega,?_,aG (by omega)⟩⟩,fun h1=>?_⟩⟩
  ·rw[yn hm,Xo hm y (by omega),lJ hm,He hm];rfl
  ·rw[show x=a.length by omega]
   unfold vT
   rw[if_pos h];rfl
theorem XQ :
 ∀(d:(Int×Int×Int)×List Int×Int),Ty.wf bW d.1/\Ty.wf aj d.2.1/\Ty.wf ai d.2.2->au d.1.1/\aq d.1.1 d.2.1=true/\El d.1.1 d.2.2->yH d.1.1 d.2.1 d.2.2 (d.2.1.length,(0:Int))/\(((ae d.1.1/\ae d.1.2.1/\ae d.1.2.2)/\ae d.2.1/\ae d.2.2/\ae (0:Int)/\ae (0:Int)/\i64.wrap ((d.2.1.length:Int)-(1:Int))=(d.2.1.length:Int)-(1:Int))/\ae d.1.1/\ae d.1.2.1/\ae d.1.2.2)/\∀(x:Nat×Int),yH d.1.1 d.2.1 d.2.2 x->(decide ((0:Int)<=(x.1:Int)-(1:Int))=true->((0:Int)<=(x.1:Int)-(1:Int)/\(x.1:Int)-(1:Int)<(d.2.1.length:Int))/\d.1.1≠(0:Int)/\∃(x':Nat×Int),yH d.1.1 d.2.1 d.2.2 x'/\x'.1<x.1/\((ae d.1.1/\ae d.1.2.1/\ae d.1.2.2)/\ae d.2.1/\ae d.2.2/\ae (0:Int)/\Int.tmod (i64.wrap (i64.wrap (x.2*d.2.2)+d.2.1.getD (Int.toNat ((x.1:Int)-(1:Int))) (0:Int))) d.1.1=x'.2/\i64.wrap ((x.1:Int)-(1:Int)-(1:Int))=(x'.1:Int)-(1:Int))/\ae d.1.1/\ae d.1.2.1/\ae d.1.2.2)/\(decide ((0:Int)<=(x.1:Int)-(1:Int))=false->x.2=sn d.1.1 d.2.1 d.2.2):=by
  intro (d:Fd×List Int×Int) hw hp
  obtain⟨⟨p,g,t⟩,a,y⟩:=d
  replace hp:au p/\aq p a=true/\El p y:=hp
  have hl:a.length<=9223372036854775807:=hw.2.1.1
  simp only[exists_const,forall_const,decide_eq_true_eq,decide_eq_false_iff_not,beq_iff_eq,sxS]
  obtain⟨h0,he,hy⟩:=hp
  refine⟨⟨Nat.le_refl _,gA h0,?_⟩,wrap_small (by omega),fun x hx=>⟨fun h=>?_,fun h=>W0 h0 (by omega) hx⟩⟩
  ·simp only[Int.zero_mul,Int.zero_add]
   exact gz (TY h0 a y)
  ·have nz:=hx.1
   obtain⟨n,hn⟩:∃ n,x.1=n+1:=⟨x.1-1,by omega⟩
   have iw:=Ur h0 hn hx
   have Je:((x.1:Nat):Int)-1=(n:Int):=by omega
   rw[Je,Int.toNat_natCast]
   have hm:=mJ h0 hx.2.1 hy
   have lq:=rS he (show n<a.length by omega)
   have h0':=h0
   unfold au at h0';unfold El at lq
   refine⟨⟨by omega,by omega⟩,by omega,_,iw,by show n<_;omega,?_,?_⟩
   ·rw[wrap_small (n:=x.2*y) (by omega),wrap_small (by omega),rI (by omega)]
   ·rw[wrap_small (by omega)]
set_option maxRecDepth 10000
theorem r7{α:Type}(el:Int->α)(nx:Int->Int):∀(xs:List α) (k:Int),(rz el nx xs k).length=xs.length
 | [],k=>rfl
 | x::xs,k=>by simp[rz,r7 el nx xs]
theorem Hr{α:Type}{el:Int->α}{nx:Int->Int}{ok:α->Int->Bool}(h:∀ k,ok (el k) k=true):∀(xs:List α) (k:Int),ve ok nx (rz el nx xs k) k=jA nx xs k
 | [],k=>rfl
 | x::xs,k=>by simp[rz,ve,jA,h,Hr h xs]
theorem xp{α:Type}{nx:Int->Int}(c:Nat)(h:∀ k,0<=k->k<=4611686018427387904->nx k=k+c):∀(xs:List α) (k:Int),0<=k->k+c*xs.length<=4611686018427387904->jA nx xs k=k+c*xs.length
 | [],k,_,_=>by simp[jA]
 | x::xs,k,h0,h1=>by
   have e:(c:Int)*((x::xs).length:Int)=c+c*(xs.length:Int):=by rw[List.length_cons];push_cast;rw[Int.mul_add,Int.mul_one,Int.add_comm]
   have hc:0<=(c:Int)*(xs.length:Int):=Int.mul_nonneg (by omega) (by omega)
   rw[e] at h1 ⊢
   unfold jA
   rw[h k h0 (by omega),xp c h xs _ (by omega) (by omega)]
   omega
theorem zy{α:Type}(nx:Int->Int):∀(xs:List α) (k:Int) (j:Nat),j<xs.length->jA nx (xs.take (j+1)) k=nx (jA nx (xs.take j) k)
 | [],k,j,h=>by simp at h
 | x::xs,k,0,h=>by simp[jA]
 | x::xs,k,j+1,h=>by
   simp only[List.take_succ_cons,jA]
   exact zy nx xs (nx k) j (by simpa using h)
theorem HC{α:Type}(el:Int->α)(nx:Int->Int):∀(xs:List α) (k:Int) (j:Nat),j<xs.length →
 (rz el nx (xs.take j) k++xs.drop j).set j (el (jA nx (xs.take j) k))=rz el nx (xs.take (j+1)) k++xs.drop (j+1)
 | [],k,j,h=>by simp at h
 | x::xs,k,0,h=>by simp[rz,jA]
 | x::xs,k,j+1,h=>by
   simp only[List.take_succ_cons,rz,jA,List.drop_succ_cons,List.cons_append,List.set_cons_succ]
   rw[HC el nx xs (nx k) j (by simpa using h)]
theorem qc(xs:List Int)(k:Int):(c7 xs k).length=xs.length:=r7 _ _ _ _
theorem Ot :
 ∀(d:List Int) (k:Int),Ty.wf (Ty.sl ai) d->IntKind.min i64<=k/\k<=IntKind.max i64->True->List.length (c7 d k)=d.length/\((0:Nat)<=d.length/\k=dJ (List.take (0:Nat) d) k)/\((k=k/\(0:Int)=(↑(0:Nat):Int))/\d=c7 (List.take (0:Nat) d) k++List.drop (0:Nat) d)/\∀(x:Nat×Int),x.1<=d.length/\x.2=dJ (List.take x.1 d) k->(decide ((x.1:Int)<(↑(List.length (c7 (List.take x.1 d) k++List.drop x.1 d)):Int))=true->((0:Int)<=(x.1:Int)/\(x.1:Int)<(↑(List.length (c7 (List.take x.1 d) k++List.drop x.1 d)):Int))/\∃(x':Nat×Int),(x'.1<=d.length/\x'.2=dJ (List.take x'.1 d) k)/\d.length-x'.1<d.length-x.1/\(i64.wrap (x.2+(1:Int))=x'.2/\i64.wrap ((x.1:Int)+(1:Int))=(x'.1:Int))/\List.set (c7 (List.take x.1 d) k++List.drop x.1 d) ((x.1:Int).toNat) x.2=c7 (List.take x'.1 d) k++List.drop x'.1 d)/\(decide ((x.1:Int)<(↑(List.length (c7 (List.take x.1 d) k++List.drop x.1 d)):Int))=false->x.2=dJ d k/\c7 (List.take x.1 d) k++List.drop x.1 d=c7 d k):=by
  intro (d:List (Int)) k hw hk _
  have hl:d.length<=9223372036854775807:=hw.1
  refine⟨qc d k,⟨Nat.zero_le _,by simp[dJ,jA]⟩,⟨⟨rfl,rfl⟩,by simp[c7,rz]⟩,fun x ⟨h1,h2⟩=>?_⟩
  obtain⟨j,kk⟩:=x
  simp only at h1 h2
  have hlen:(c7 (d.take j) k++d.drop j).length=d.length:=by rw[List.length_append,qc,List.length_take,List.length_drop];omega
  have oe:j<d.length->(c7 (d.take j) k++d.drop j).set j (pA (dJ (d.take j) k))=c7 (d.take (j+1)) k++d.drop (j+1):=fun h=>HC pA n1 d k j h
  have Em:j<d.length->dJ (d.take (j+1)) k=n1 (dJ (d.take j) k):=fun h=>zy n1 d k j h
  refine⟨fun h3=>?_,fun h3=>?_⟩
  ·have h3:j<d.length:=by rw[hlen] at h3;simpa using h3
   replace oe:=oe h3
   replace Em:=Em h3
   simp only[Int.toNat_natCast]
   generalize c7 (d.take j) k++d.drop j=ys at *
   have h4:j<ys.length:=by omega
   rw[aG (by omega),hlen]
   refine⟨⟨by omega,by omega⟩,(j+1,n1 kk),⟨by simp only;omega,by simp only;rw[Em,h2]⟩,by simp only;omega,⟨rfl,rfl⟩,?_⟩
   rw[<-oe,h2];rfl
  ·have h4:j=d.length:=by rw[hlen] at h3;simp at h3;omega
   subst h4
   rw[List.take_length] at h2 ⊢
   rw[List.drop_length,List.append_nil]
   exact⟨h2,rfl⟩
theorem Oq :
 ∀(d:List Int×Int),Ty.wf (Ty.sl ai) d.1/\Ty.wf ai d.2->True->((0:Nat)<=d.1.length/\cx (List.drop (0:Nat) d.1) d.2=cx d.1 d.2)/\(d.1=d.1/\d.2=d.2/\(0:Int)=(↑(0:Nat):Int))/\∀(x:Nat×Int),x.1<=d.1.length/\cx (List.drop x.1 d.1) x.2=cx d.1 d.2->(decide ((x.1:Int)<(d.1.length:Int))=true->((0:Int)<=(x.1:Int)/\(x.1:Int)<(d.1.length:Int))/\((!decide (d.1.getD ((x.1:Int).toNat) (0:Int)=x.2))=true->(-1:Int)=cx d.1 d.2)/\((!decide (d.1.getD ((x.1:Int).toNat) (0:Int)=x.2))=false->∃(x':Nat×Int),(x'.1<=d.1.length/\cx (List.drop x'.1 d.1) x'.2=cx d.1 d.2)/\d.1.length-x'.1<d.1.length-x.1/\d.1=d.1/\i64.wrap (x.2+(1:Int))=x'.2/\i64.wrap ((x.1:Int)+(1:Int))=(x'.1:Int)))/\(decide ((x.1:Int)<(d.1.length:Int))=false->x.2=cx d.1 d.2):=by
  intro (d:List Int×Int) hw _
  obtain⟨xs,k⟩:=d
  have hl:xs.length<=9223372036854775807:=hw.1.1
  simp only[exists_const,forall_const,decide_eq_true_eq,decide_eq_false_iff_not,beq_iff_eq,sxS]
  refine⟨⟨Nat.zero_le _,by simp⟩,rfl,fun x ⟨h1,h2⟩=>⟨fun h3=>?_,fun h3=>?_⟩⟩
  ·have h4:x.1<xs.length:=by omega
   rw[gD (x:=(0:Int)) h4] at h2
   generalize cx xs k=r at h2 ⊢
   unfold cx ve at h2
   rw[aG (by omega)]
   refine⟨⟨by omega,by omega⟩,?_⟩
   generalize xs.getD x.1 0=y at *
   by_cases a1:y=x.2
   ·refine⟨fun h=>absurd a1 (by simpa using h),fun _=>⟨(x.1+1,n1 x.2),⟨by simp only;omega,?_⟩,by simp only;omega,rfl,rfl⟩⟩
    rw[if_pos (by simp[YI,a1])] at h2
    exact h2
   ·refine⟨fun _=>?_,fun h=>absurd (by simpa using h) a1⟩
    rw[if_neg (by simp[YI,a1])] at h2
    exact h2
  ·have h4:x.1=xs.length:=by omega
   rw[h4,List.drop_length] at h2
   exact h2
set_option maxRecDepth 10000
theorem Jr(n:Int):∀ m:Nat,m<=10->0<=r6 n m->∃ k:Nat,k<=9/\r6 n m=(k:Int)/\n=2^k
 | 0,_,h=>by have:r6 n 0 = -1:=rfl;omega
 | m+1,hm,h=>by
   unfold r6 at h ⊢
   by_cases e:n=2^(9-m)
   ·rw[if_pos e];exact⟨9-m,by omega,rfl,e⟩
   ·rw[if_neg e] at h ⊢
    exact Jr n m (by omega) h
theorem QJ{n:Nat}(h:0<=aE (n:Int)):aE (n:Int)<=9/\n=2^(aE (n:Int)).toNat:=by
 obtain⟨k,h1,h2,h3⟩:=Jr (n:Int) 10 (Nat.le_refl _) h
 have h4:aE (n:Int)=(k:Int):=h2
 rw[h4,Int.toNat_natCast]
 refine⟨by omega,?_⟩
 rw[show (2:Int)^k=((2^k:Nat):Int) from (Int.natCast_pow 2 k).symm] at h3
 exact Int.ofNat.inj h3
theorem GJ(x:Nat):∀ j,rev x j<2^j
 | 0=>by simp[rev]
 | j+1=>by
   have:=GJ x j
   simp only[rev,Nat.pow_succ]
   omega
theorem SQ:∀ k:Fin 10,∀ x:Fin 512,x.val<2^k.val->rev (rev x.val k.val) k.val=x.val:=by decide +kernel
theorem kX{k:Nat}(h:k<=9):2^k<=512:=Nat.pow_le_pow_right (n:=2) (by omega) h
theorem QY{k x:Nat}(hk:k<=9)(hx:x<2^k):rev (rev x k) k=x:=by
 have:=kX hk
 exact SQ ⟨k,by omega⟩ ⟨x,by omega⟩ hx
theorem OW:∀ a:Fin 512,zl .i64 (a.val:Int) 1=((a.val%2:Nat):Int):=by decide +kernel
theorem Ez(x i:Nat)(hi:i<=63):lP .i64 (x:Int) (i:Int)=((x/2^i:Nat):Int):=by
 unfold lP
 rw[Int.toNat_natCast,show min i i64.bits=i by show min i 64=i;omega,Int.fdiv_eq_ediv_of_nonneg _ (Int.le_of_lt (Int.pow_pos (by omega)))]
 rw[show ((2:Int)^i)=((2^i:Nat):Int) from (Int.natCast_pow 2 i).symm]
 rfl
theorem XL(n:Nat):((n:Nat):Int).tmod 2=((n%2:Nat):Int):=rfl
theorem Nc(v:List Int)(n:Nat):(K4 v n).length=n:=eB _ _
theorem Sl(v:List Int):List.replicate v.length 0=tW v 0:=by
 unfold tW
 rw[show (fun i=>if rev i (aE v.length).toNat<0 then v.getD (rev i (aE v.length).toNat) 0 else 0)=fun _=>(0:Int) by funext i;rw[if_neg (by omega)],List.map_const',List.length_range]
theorem Ol :
 ∀(d:Int×Int),Ty.wf ai d.1/\Ty.wf ai d.2->((0:cj [ai])<=d.2/\d.2<=(9:cj [ai]))/\(0:Ty.den ai)<=d.1/\d.1<(2:Ty.den ai)^d.2.toNat->(↑(0:Nat):Int)<=d.2/\(d.1=(↑(d.1.toNat/(2:Nat)^(0:Nat)):Int)/\d.2=d.2/\ae (0:Int)/\(0:Int)=(↑(rev d.1.toNat (0:Nat)):Int)/\d.2=d.2/\(0:Int)=(↑(0:Nat):Int))/\∀(x:Nat),(x:Int)<=d.2->(decide ((x:Int)<d.2)=true->(0:Int)<=(1:Int)/\∃(x':Nat),(x':Int)<=d.2/\d.2.toNat-x'<d.2.toNat-x/\lP i64 (↑(d.1.toNat/(2:Nat)^x):Int) (1:Int)=(↑(d.1.toNat/(2:Nat)^x'):Int)/\d.2=d.2/\ae (0:Int)/\i64.wrap (i64.wrap ((2:Int)*(rev d.1.toNat x:Int))+zl i64 (↑(d.1.toNat/(2:Nat)^x):Int) (1:Int))=(rev d.1.toNat x':Int)/\d.2=d.2/\i64.wrap ((x:Int)+(1:Int))=(x':Int))/\(decide ((x:Int)<d.2)=false->(rev d.1.toNat x:Int)=(rev d.1.toNat d.2.toNat:Int)):=by
  intro (d:Int×Int) _ hp
  obtain⟨x,k⟩:=d
  replace hp:(0<=k/\k<=9)/\0<=x/\x<2^k.toNat:=hp
  obtain⟨hk,Jl,nz⟩:=hp
  obtain⟨n,rfl⟩:=Int.eq_ofNat_of_zero_le Jl
  obtain⟨m,rfl⟩:=Int.eq_ofNat_of_zero_le hk.1
  simp only[exists_const,forall_const,decide_eq_true_eq,decide_eq_false_iff_not,beq_iff_eq,sxS]
  rw[Int.toNat_natCast] at nz
  have hpw:(2:Int)^m=((2^m:Nat):Int):=(Int.natCast_pow 2 m).symm
  rw[hpw] at nz
  have RL:=kX (k:=m) (by omega)
  refine⟨by omega,⟨by simp,rfl,rfl⟩,fun j hj=>⟨fun aT=>⟨by omega,j+1,by omega,by omega,?_,?_,aG (by omega)⟩,fun jV=>?_⟩⟩
  ·have:=Ez (n/2^j) 1 (by omega)
   rw[show ((1:Nat):Int)=1 from rfl] at this
   rw[this,Nat.pow_one,Nat.div_div_eq_div_mul,Nat.pow_succ]
  ·have hle:n/2^j<=n:=Nat.div_le_self _ _
   have h1:zl .i64 ((n/2^j:Nat):Int) 1=((n/2^j%2:Nat):Int):=OW ⟨n/2^j,by omega⟩
   have r1:=GJ n j
   have r2:=kX (k:=j) (by omega)
   rw[h1,wrap_small (n:=2*((rev n j:Nat):Int)) (by omega),wrap_small (by omega),rev]
   omega
  ·have hje:j=m:=by omega
   subst hje;rfl
theorem Ok :
 ∀(d:List Int),Ty.wf aj d->(0:Int)<=aE (d.length:Int)->True/\(Ty.wf ai (aE (d.length:Int))->((0:Int)<=(d.length:Int)/\(d.length:Int)<=(d.length:Int)/\(d.length:Int)*(↑(8:Nat):Int)<=(140737488355328:Int))/\(0:Nat)<=d.length/\((d=d/\aQ/\ae (aE (d.length:Int))/\d=d/\ae (d.length:Int)/\(0:Int)=(↑(0:Nat):Int))/\List.replicate ((d.length:Int).toNat) (0:Int)=tW d (0:Nat))/\∀(x:Nat),x<=d.length->(decide ((x:Int)<(d.length:Int))=true->((0:Int)<=(x:Int)/\(x:Int)<(d.length:Int))/\(((0:cj [ai])<=aE (d.length:Int)/\aE (d.length:Int)<=(9:cj [ai]))/\(0:Ty.den ai)<=(x:Int)/\(x:Int)<(2:Ty.den ai)^Int.toNat (aE (d.length:Int)))/\(Ty.wf ai (↑(rev ((x:Int).toNat) (Int.toNat (aE (d.length:Int)))):Int)->((0:Int)<=(↑(rev ((x:Int).toNat) (Int.toNat (aE (d.length:Int)))):Int)/\(↑(rev ((x:Int).toNat) (Int.toNat (aE (d.length:Int)))):Int)<(↑(List.length (tW d x)):Int))/\∃(x':Nat),x'<=d.length/\d.length-x'<d.length-x/\(d=d/\aQ/\ae (aE (d.length:Int))/\d=d/\ae (d.length:Int)/\i64.wrap ((x:Int)+(1:Int))=(x':Int))/\List.set (tW d x) (Int.toNat (↑(rev ((x:Int).toNat) (Int.toNat (aE (d.length:Int)))):Int)) (d.getD ((x:Int).toNat) (0:Int))=tW d x'))/\(decide ((x:Int)<(d.length:Int))=false->tW d x=ft d)):=by
  intro (v:List Int) hw (hp:0<=aE v.length)
  have hl:v.length<=9223372036854775807:=hw.1
  simp only[exists_const,forall_const,decide_eq_true_eq,decide_eq_false_iff_not,beq_iff_eq,sxS]
  intro _
  obtain⟨h1,h2⟩:=QJ (n:=v.length) hp
  have RL:=kX (k:=(aE v.length).toNat) (by omega)
  have Yp:∀ x,(tW v x).length=v.length:=fun x=>eB _ _
  refine⟨⟨by omega,by omega,by omega⟩,Nat.zero_le _,⟨rfl,Sl v⟩,fun x hx=>⟨fun aT=>?_,fun jV=>?_⟩⟩
  ·have mj:x<v.length:=by omega
   have hr:=GJ x (aE v.length).toNat
   have hpw:(2:Int)^(aE v.length).toNat=((2^(aE v.length).toNat:Nat):Int):=(Int.natCast_pow 2 _).symm
   rw[hpw,Yp]
   have eS:(0<=aE v.length/\aE v.length<=9)/\0<=(x:Int)/\(x:Int)<((2^(aE v.length).toNat:Nat):Int):=by omega
   refine⟨⟨by omega,by omega⟩,eS,fun _=>⟨⟨by omega,by omega⟩,x+1,by omega,by omega,aG (by omega),?_⟩⟩
   have hinv:=QY (k:=(aE v.length).toNat) (x:=x) (by omega) (by omega)
   refine ZL ?_ (fun b hb bo=>?_)
   ·rw[hinv,if_pos (by omega)]
   ·have ahk:rev b (aE v.length).toNat≠x:=fun e=>bo (by rw[<-e];exact (QY (by omega) (by omega)).symm)
    by_cases e:rev b (aE v.length).toNat<x
    ·rw[if_pos e,if_pos (by omega)]
    ·rw[if_neg e,if_neg (by omega)]
  ·have:x=v.length:=by omega
   subst this
   unfold ft;rw[if_pos hp]
   refine aci (fun i _=>?_)
   have hr:=GJ i (aE v.length).toNat
   rw[if_pos (by omega)]
set_option maxRecDepth 10000
def e_(h B:Nat):Nat:=B/h*(2*h)+B%h
theorem Zu{h B:Nat}(hh:0<h):e_ h B/(2*h)=B/h:=by
 have:=Nat.mod_lt B hh
 unfold e_
 rw[Nat.mul_comm,Nat.mul_add_div (by omega),show (B%h)/(2*h)=0 from Nat.div_eq_of_lt (by omega),Nat.add_zero]
theorem W9{h B:Nat}(hh:0<h):(e_ h B+h)/(2*h)=B/h:=by
 have:=Nat.mod_lt B hh
 unfold e_
 rw[Nat.add_assoc,Nat.mul_comm,Nat.mul_add_div (by omega),show (B%h+h)/(2*h)=0 from Nat.div_eq_of_lt (by omega),Nat.add_zero]
theorem Mz{h B:Nat}(hh:0<h):e_ h B%(2*h)=B%h:=by
 have:=Nat.mod_lt B hh
 unfold e_
 rw[Nat.mul_comm,Nat.mul_add_mod,Nat.mod_eq_of_lt (by omega)]
theorem UF{h B:Nat}(hh:0<h):(e_ h B+h)%(2*h)=B%h+h:=by
 have:=Nat.mod_lt B hh
 unfold e_
 rw[Nat.add_assoc,Nat.mul_comm,Nat.mul_add_mod,Nat.mod_eq_of_lt (by omega)]
theorem QL(h t:Nat)(hh:0<h):t%h=if t%(2*h)<h then t%(2*h) else t%(2*h)-h:=by
 have h1:t%(2*h)%h=t%h:=Nat.mod_mod_of_dvd t ⟨2,Nat.mul_comm 2 h⟩
 have h2:=Nat.mod_lt t (show 0<2*h by omega)
 rw[<-h1]
 split
 ·exact Nat.mod_eq_of_lt (by assumption)
 ·rw[Nat.mod_eq_sub_mod (by omega),Nat.mod_eq_of_lt (by omega)]
theorem Hx{h B:Nat}(hh:0<h):e_ h B%h=B%h:=by
 have:=Nat.mod_lt B hh
 rw[QL h _ hh,Mz hh,if_pos this]
theorem My{h B:Nat}(hh:0<h):(e_ h B+h)%h=B%h:=by
 rw[Nat.add_mod_right,Hx hh]
theorem mM(l:Nat):0<2^l:=Nat.pow_pos (by omega)
theorem Y4(l B:Nat):pt l (e_ (2^l) B)=B:=by
 have hh:=mM l
 unfold pt
 rw[Zu hh,Hx hh,Nat.mul_comm,Nat.div_add_mod]
theorem Wp(l B:Nat):pt l (e_ (2^l) B+2^l)=B:=by
 have hh:=mM l
 unfold pt
 rw[W9 hh,My hh,Nat.mul_comm,Nat.div_add_mod]
theorem Y3(l t:Nat):pt l t/2^l=t/(2*2^l)/\pt l t%2^l=t%2^l:=by
 have hh:=mM l
 have hm:=Nat.mod_lt t hh
 unfold pt
 rw[Nat.mul_comm (t/(2*2^l)),Nat.mul_add_div hh,Nat.div_eq_of_lt hm,Nat.add_zero,Nat.mul_add_mod,Nat.mod_mod]
 exact⟨rfl,rfl⟩
theorem Y5(l t:Nat):t=if t%(2*2^l)<2^l then e_ (2^l) (pt l t) else e_ (2^l) (pt l t)+2^l:=by
 have hh:=mM l
 obtain⟨h1,h2⟩:=Y3 l t
 have h3:=QL (2^l) t hh
 have h4:=Nat.div_add_mod t (2*2^l)
 have h5:=Nat.mod_lt t (show 0<2*2^l by omega)
 unfold e_
 rw[h1,h2,Nat.mul_comm (t/(2*2^l))]
 split
 ·rename_i h;rw[if_pos h] at h3;omega
 ·rename_i h;rw[if_neg h] at h3;omega
theorem Ci(d:Fd)(v:List Int)(l lo B:Nat):(Ch d v l lo B).length=v.length:=jB _ _
theorem acz(d:Fd)(v:List Int)(l B:Nat):sf d v l (e_ (2^l) B)=eO d.1 (v.getD (e_ (2^l) B) 0) (mulM d.1 (v.getD (e_ (2^l) B+2^l) 0) (wM d l (B%2^l))):=by
 have hh:=mM l
 unfold sf
 rw[Mz hh,if_pos (Nat.mod_lt B hh),Hx hh]
theorem acy(d:Fd)(v:List Int)(l B:Nat):sf d v l (e_ (2^l) B+2^l)=bR d.1 (v.getD (e_ (2^l) B) 0) (mulM d.1 (v.getD (e_ (2^l) B+2^l) 0) (wM d l (B%2^l))):=by
 have hh:=mM l
 unfold sf
 rw[UF hh,if_neg (by omega),My hh,Nat.add_sub_cancel]
theorem abY{h m B:Nat}(hh:0<h)(hB:B<h*m):e_ h B+h<2*h*m:=by
 have h1:B/h<m:=(Nat.div_lt_iff_lt_mul hh).2 (by rw[Nat.mul_comm];exact hB)
 have h2:=Nat.mod_lt B hh
 have h3:(B/h+1)*(2*h)<=m*(2*h):=Nat.mul_le_mul_right _ h1
 rw[Nat.add_mul,Nat.one_mul,Nat.mul_comm m] at h3
 unfold e_
 omega
theorem TN{l m t:Nat}(ht:t<2*2^l*m):pt l t<2^l*m:=by
 have hh:=mM l
 have h1:t/(2*2^l)<m:=(Nat.div_lt_iff_lt_mul (by omega)).2 (by rw[Nat.mul_comm];exact ht)
 have h2:=Nat.mod_lt t hh
 have h3:(t/(2*2^l)+1)*2^l<=m*2^l:=Nat.mul_le_mul_right _ h1
 rw[Nat.add_mul,Nat.one_mul,Nat.mul_comm m] at h3
 unfold pt
 omega
theorem ZK{d:Fd}{v:List Int}{l m t:Nat}(hn:v.length=2*2^l*m)(ht:t<v.length):(Ch d v l 0 (2^l*m)).getD t 0=sf d v l t:=by
 unfold Ch
 rw[qd,if_pos ht,if_pos ⟨Nat.zero_le _,TN (by omega)⟩]
theorem ZF(p a:Int)(x j:Nat):b6 p (b6 p a x) j=b6 p a (x*j):=by
 unfold b6
 rw[pow_mod,Int.pow_mul]
theorem WI{f:Int}(h:¬(0<=f/\f<9)):bV f=0:=by unfold bV;rw[pU h]
theorem FM{f:Int}(h:af f≠0):El (af f) (bV f)/\bV f%af f≠0:=by
 rcases im (b9 h).2 with rfl|rfl|rfl|rfl|rfl|rfl|rfl|rfl|rfl<;>exact⟨⟨by decide,by decide⟩,by decide⟩
theorem H9{f:Int}(h:af f≠0):∃ o:Nat,(af f-1).toNat=2^(dP f).toNat*o:=by
 rcases im (b9 h).2 with rfl|rfl|rfl|rfl|rfl|rfl|rfl|rfl|rfl
 ·exact⟨1,by decide +kernel⟩
 ·exact⟨3,by decide +kernel⟩
 ·exact⟨3,by decide +kernel⟩
 ·exact⟨1,by decide +kernel⟩
 ·exact⟨15,by decide +kernel⟩
 ·exact⟨3,by decide +kernel⟩
 ·exact⟨119,by decide +kernel⟩
 ·exact⟨7,by decide +kernel⟩
 ·exact⟨479,by decide +kernel⟩
theorem dB{f:Int}{v:List Int}(h:aH f v=true):af f≠0/\aq (af f) v=true/\∃ K:Nat,aE v.length=(K:Int)/\K<=9/\v.length=2^K/\(K:Int)<=dP f:=by
 have h':=h
 unfold aH at h
 simp only[Bool.and_eq_true,decide_eq_true_eq] at h
 obtain⟨⟨h1,h2⟩,h3⟩:=h
 obtain⟨hm,he⟩:=jt h3
 obtain⟨k1,k2⟩:=QJ h1
 obtain⟨K,hK⟩:=Int.eq_ofNat_of_zero_le h1
 rw[hK,Int.toNat_natCast] at k2
 exact⟨hm,he,K,hK,by omega,k2,by omega⟩
theorem Re{f:Int}{v w:List Int}(h:aH f v=true)(hl:w.length=v.length)(he:aq (af f) w=true):aH f w=true:=by
 obtain⟨hm,_,_⟩:=dB h
 unfold aH at h ⊢
 simp only[Bool.and_eq_true,decide_eq_true_eq] at h ⊢
 rw[hl]
 exact⟨h.1,iH hm he⟩
theorem o9{K l:Nat}(h:l<K):2^K=2*2^l*2^(K-l-1):=by
 rw[<-Nat.pow_add_one',<-Nat.pow_add]
 congr 1
 omega
theorem FQ{K l:Nat}(h:l<K):2^K/2=2^l*2^(K-l-1):=by
 rw[o9 h,Nat.mul_assoc,Nat.mul_div_cancel_left _ (by omega)]
theorem H8(d:Fd)(hp:au d.1)(l j:Nat):b6 d.1 (bc d ((l+1:Nat):Int)) j=wM d l j:=by
 unfold bc wM
 rw[ZF,Int.toNat_natCast]
 congr 2
 have aJ:=hp
 unfold au at aJ
 obtain⟨n,hn⟩:=Int.eq_ofNat_of_zero_le (show 0<=d.1-1 by omega)
 rw[hn,show (2:Int)^(l+1)=((2^(l+1):Nat):Int) from (Int.natCast_pow 2 (l+1)).symm]
 rfl
theorem jE{f g:Nat->Int}:∀ n,(∀ j,j<n->f j=g j)->bm f n=bm g n
 | 0,_=>rfl
 | n+1,h=>by rw[bm,bm,jE n (fun j hj=>h j (by omega)),h n (Nat.lt_succ_self n)]
theorem iU{p:Int}{f g:Nat->Int}:∀ n,(∀ j,j<n->f j%p=g j%p)->bm f n%p=bm g n%p
 | 0,_=>rfl
 | n+1,h=>by
   rw[bm,bm,<-eC,<-fM,iU n (fun j hj=>h j (by omega)),h n (Nat.lt_succ_self n),fM,eC]
theorem EN(f g:Nat->Int):∀ n,bm (fun j=>f j+g j) n=bm f n+bm g n
 | 0=>rfl
 | n+1=>by rw[bm,bm,bm,EN f g n];omega
theorem lg(c:Int)(f:Nat->Int):∀ n,bm (fun j=>c*f j) n=c*bm f n
 | 0=>by rw[bm,bm,Int.mul_zero]
 | n+1=>by rw[bm,bm,lg c f n,Int.mul_add]
theorem EO(f:Nat->Int):∀ n,bm f (2*n)=bm (fun j=>f (2*j)) n+bm (fun j=>f (2*j+1)) n
 | 0=>rfl
 | n+1=>by
   rw[show 2*(n+1)=2*n+1+1 by omega,bm,bm,EO f n,bm,bm];omega
def Jz(p a:Nat):Nat->Nat->Nat
 | 0,_=>1%p
 | n+1,e=>if e%2=0 then Jz p a n (e/2)*Jz p a n (e/2)%p else Jz p a n (e/2)*Jz p a n (e/2)%p*a%p
theorem Nm(p a:Nat):∀ n e,e<2^n->Jz p a n e=a^e%p
 | 0,e,h=>by rw[show e=0 by omega];rfl
 | n+1,e,h=>by
   have ih:=Nm p a n (e/2) (by rw[Nat.pow_succ] at h;omega)
   rw[Jz,ih,<-Nat.mul_mod,<-Nat.pow_add]
   split
   ·rw[show e/2+e/2=e by omega]
   ·rw[Nat.mod_mul_mod,<-Nat.pow_succ,show (e/2+e/2).succ=e by omega]
theorem Ni(p a e:Nat):b6 (p:Int) (a:Int) e=((a^e%p:Nat):Int):=by
 unfold b6
 rw[Int.natCast_emod,Int.natCast_pow]
theorem na{p g n e:Nat}(h:Jz p g n e=p-1)(he:e<2^n)(hp:1<=p):b6 (p:Int) (g:Int) e=(p:Int)-1:=by
 rw[Ni,<-Nm p g n e he,h];omega
theorem Eh{f:Int}(h:af f≠0):b6 (af f) (bV f) ((af f-1).toNat/2)=af f-1:=by
 rcases im (b9 h).2 with e|e|e|e|e|e|e|e|e<;>subst e
 ·exact na (p:=17) (g:=3) (n:=30) (by decide +kernel) (by decide +kernel) (by decide)
 ·exact na (p:=97) (g:=5) (n:=30) (by decide +kernel) (by decide +kernel) (by decide)
 ·exact na (p:=193) (g:=5) (n:=30) (by decide +kernel) (by decide +kernel) (by decide)
 ·exact na (p:=257) (g:=3) (n:=30) (by decide +kernel) (by decide +kernel) (by decide)
 ·exact na (p:=7681) (g:=17) (n:=30) (by decide +kernel) (by decide +kernel) (by decide)
 ·exact na (p:=12289) (g:=11) (n:=30) (by decide +kernel) (by decide +kernel) (by decide)
 ·exact na (p:=998244353) (g:=3) (n:=30) (by decide +kernel) (by decide +kernel) (by decide)
 ·exact na (p:=469762049) (g:=3) (n:=30) (by decide +kernel) (by decide +kernel) (by decide)
 ·exact na (p:=1004535809) (g:=3) (n:=30) (by decide +kernel) (by decide +kernel) (by decide)
theorem yw(b c:Nat)(hc:c<2):∀ m,rev (2*b+c) (m+1)=c*2^m+rev b m
 | 0=>by simp[rev];omega
 | m+1=>by
   have h:=yw b c hc m
   have hd:(2*b+c)/2^(m+1)=b/2^m:=by
    rw[Nat.pow_succ,Nat.mul_comm (2^m) 2,<-Nat.div_div_eq_div_mul,show (2*b+c)/2=b by omega]
   rw[rev,h,rev,hd,Nat.pow_succ,Nat.mul_add,<-Nat.mul_assoc,Nat.mul_comm 2 c,Nat.mul_assoc,Nat.mul_comm 2 (2^m)]
   omega
theorem aan{p x y X Y G:Int}(hx:x%p=X%p)(hy:y%p=Y%p):eO p x (mulM p y (G%p))%p=(X+G*Y)%p:=by
 have e:y*(G%p)%p=G*Y%p:=by rw[bU,<-bZ,hy,bZ,Int.mul_comm]
 unfold eO mulM
 rw[mod_mod,e,fM,<-eC,hx,eC]
theorem aao{p x y X Y G:Int}(hx:x%p=X%p)(hy:y%p=Y%p):bR p x (mulM p y (G%p))%p=(X-G*Y)%p:=by
 have e:y*(G%p)%p=G*Y%p:=by rw[bU,<-bZ,hy,bZ,Int.mul_comm]
 unfold bR mulM
 rw[mod_mod,e,mQ,<-pf,hx,pf]
theorem sV{p a b c d:Int}(h1:a%p=c%p)(h2:b%p=d%p):(a+b)%p=(c+d)%p:=by
 rw[<-eC,h1,eC,<-fM,h2,fM]
theorem ix{p a b:Int}(h:a%p=1%p):a*b%p=b%p:=by
 rw[<-bZ,h,bZ,Int.one_mul]
theorem fE{p a:Int}(h:a%p=1%p):∀ n:Nat,a^n%p=1%p
 | 0=>by rw[Int.pow_zero]
 | n+1=>by rw[Int.pow_succ,Int.mul_comm,ix h,fE h n]
def BM(v:List Int)(g:Int)(N K l t:Nat):Int:=bm (fun j=>v.getD (rev (t/2^l) (K-l)+2^(K-l)*j) 0*g^(N/2^l*(t%2^l)*j)) (2^l)
theorem X6{h t:Nat}(hh:0<h):t/h=2*(t/(2*h))+(if t%(2*h)<h then 0 else 1)/\t%h=(if t%(2*h)<h then t%(2*h) else t%(2*h)-h):=by
 have h1:t=2*h*(t/(2*h))+t%(2*h):=(Nat.div_add_mod t (2*h)).symm
 have h2:t%(2*h)<2*h:=Nat.mod_lt _ (by omega)
 generalize t/(2*h)=b at *
 generalize t%(2*h)=r at *
 subst h1
 have h3:2*h*b+r=h*(2*b)+r:=by rw[Nat.mul_comm 2 h,Nat.mul_assoc]
 rw[h3]
 split
 ·rename_i hr
  rw[Nat.mul_add_div hh,Nat.div_eq_of_lt hr,Nat.mul_add_mod,Nat.mod_eq_of_lt hr]
  exact⟨rfl,rfl⟩
 ·rename_i hr
  rw[Nat.mul_add_div hh,Nat.mul_add_mod,Nat.mod_eq_sub_mod (by omega),Nat.mod_eq_of_lt (by omega)]
  refine⟨?_,rfl⟩
  congr 1
  rw[Nat.div_eq_sub_div hh (by omega),Nat.div_eq_of_lt (by omega)]
theorem ab5{v:List Int}{g:Int}{N K l t:Nat}(hl:l<K)(e:Nat)(hN:N=2*2^l*e)(ht:t%(2*2^l)<2^l) :
 BM v g N K (l+1) t=BM v g N K l t+g^(e*(t%2^l))*BM v g N K l (t+2^l):=by
 have hh:0<2^l:=Nat.pow_pos (by omega)
 obtain⟨m,rfl⟩:∃ m,K=l+1+m:=⟨K-l-1,by omega⟩
 obtain⟨d1,d2⟩:=X6 (t:=t) hh
 rw[if_pos ht] at d1 d2
 have d3:(t+2^l)/2^l=2*(t/(2*2^l))+1:=by rw[Nat.add_div_right _ hh,d1]
 have d4:(t+2^l)%2^l=t%2^l:=Nat.add_mod_right _ _
 have n1:N/2^l=2*e:=by rw[hN,Nat.mul_comm 2,Nat.mul_assoc,Nat.mul_div_cancel_left _ hh]
 have et:2^(l+1)=2*2^l:=Nat.pow_add_one'
 have n2:N/(2*2^l)=e:=by rw[hN,Nat.mul_div_cancel_left _ (by omega)]
 unfold BM
 rw[d3,d4,n1,et,n2,d1,show l+1+m-(l+1)=m by omega,show l+1+m-l=m+1 by omega,EO,yw _ 0 (by omega),yw _ 1 (by omega),<-lg,d2,Nat.zero_mul,Nat.zero_add,Nat.one_mul]
 congr 1
 ·refine jE _ fun j _=>?_
  rw[Nat.pow_add_one',show 2*2^m*j=2^m*(2*j) by ac_rfl]
  congr 2
  ac_rfl
 ·refine jE _ fun j _=>?_
  rw[Nat.pow_add_one',show rev (t/(2*2^l)) m+2^m*(2*j+1)=2^m+rev (t/(2*2^l)) m+2*2^m*j by rw[Nat.mul_add,Nat.mul_one,show 2*2^m*j=2^m*(2*j) by ac_rfl];omega]
  rw[Nat.mul_add,Nat.mul_one,Int.pow_add,show e*(t%(2*2^l))*(2*j)=2*e*(t%(2*2^l))*j by ac_rfl]
  ac_rfl
theorem ab4{p:Int}{v:List Int}{g:Int}{N K l t:Nat}(hl:l<K)(e:Nat)(hN:N=2*2^l*e)(hg:g^(2^l*e)%p=(-1)%p)(ht:¬t%(2*2^l)<2^l) :
 BM v g N K (l+1) t%p=(BM v g N K l (t-2^l)-g^(e*(t%2^l))*BM v g N K l t)%p:=by
 have hh:0<2^l:=Nat.pow_pos (by omega)
 obtain⟨m,rfl⟩:∃ m,K=l+1+m:=⟨K-l-1,by omega⟩
 have ny:2^l<=t:=Nat.le_trans (by omega) (Nat.mod_le t (2*2^l))
 obtain⟨d1,d2⟩:=X6 (t:=t) hh
 rw[if_neg ht] at d1 d2
 have d3:(t-2^l)/2^l=2*(t/(2*2^l))+0:=by
  have:=Nat.add_div_right (t-2^l) hh
  rw[Nat.sub_add_cancel ny,d1] at this
  omega
 have d4:(t-2^l)%2^l=t%2^l:=by
  have:=Nat.add_mod_right (t-2^l) (2^l)
  rw[Nat.sub_add_cancel ny] at this
  exact this.symm
 have n1:N/2^l=2*e:=by rw[hN,Nat.mul_comm 2,Nat.mul_assoc,Nat.mul_div_cancel_left _ hh]
 have et:2^(l+1)=2*2^l:=Nat.pow_add_one'
 have n2:N/(2*2^l)=e:=by rw[hN,Nat.mul_div_cancel_left _ (by omega)]
 have Qx:g^(2*2^l*e)%p=1%p:=by
  rw[show 2*2^l*e=2^l*e+2^l*e by rw[Nat.mul_assoc];omega,Int.pow_add,<-bZ,hg,bZ,<-bU,hg,bU]
  rfl
 have hr:t%(2*2^l)=2^l+t%2^l:=by rw[d2];omega
 unfold BM
 rw[d3,d4,n1,et,n2,d1,show l+1+m-(l+1)=m by omega,show l+1+m-l=m+1 by omega,EO,yw _ 0 (by omega),yw _ 1 (by omega),<-lg,Nat.zero_mul,Nat.zero_add,Nat.one_mul,hr,Int.sub_eq_add_neg,<-Int.neg_one_mul,<-lg]
 generalize t%2^l=r
 refine sV ?_ ?_
 ·refine iU _ fun j _=>?_
  rw[Nat.pow_add_one',show 2*2^m*j=2^m*(2*j) by ac_rfl]
  rw[show e*(2^l+r)*(2*j)=(2*2^l*e)*j+2*e*r*j by rw[Nat.mul_add,Nat.add_mul];congr 1<;>ac_rfl,Int.pow_add,Int.pow_mul]
  rw[<-bU,ix (fE Qx j),bU]
 ·refine iU _ fun j _=>?_
  rw[Nat.pow_add_one',show rev (t/(2*2^l)) m+2^m*(2*j+1)=2^m+rev (t/(2*2^l)) m+2*2^m*j by rw[Nat.mul_add,Nat.mul_one,show 2*2^m*j=2^m*(2*j) by ac_rfl];omega]
  rw[show e*(2^l+r)*(2*j+1)=(2*2^l*e)*j+(2^l*e+(e*r+2*e*r*j)) by
   rw[Nat.mul_add,Nat.mul_one,Nat.mul_add,Nat.add_mul,show e*2^l*(2*j)=2*2^l*e*j by ac_rfl,show e*r*(2*j)=2*e*r*j by ac_rfl,show e*2^l=2^l*e by ac_rfl];omega]
  rw[Int.pow_add,Int.pow_mul,Int.pow_add,Int.pow_add,<-bU,ix (fE Qx j),bU,Int.mul_left_comm,<-bZ,hg,bZ]
  congr 2
  ac_rfl
theorem ye{p g T:Int}{v:List Int}{K N:Nat}(Md:(aE v.length).toNat=K)(hlen:v.length=2^K)(Jd:0<=aE v.length)(hN:∀ l,l<K->∃ e,N=2*2^l*e)(hd:(p-1).toNat=N)(hg:0<K->g^(N/2)%p=(-1)%p) :
 ∀ l t,l<=K->t<2^K->tD (p,g,T) (ft v) l t%p=BM v g N K l t%p
 | 0,t,_,ht=>by
   unfold tD BM ft
   rw[if_pos Jd]
   unfold K4
   rw[Md]
   have e:((List.range v.length).map (fun i=>v.getD (rev i K) 0)).getD t 0=v.getD (rev t K) 0:=by
    simp[List.getD_eq_getElem?_getD,show t<v.length by omega]
   rw[e]
   simp[bm]
 | l+1,t,hl,ht=>by
   obtain⟨e,he⟩:=hN l (by omega)
   have hh:0<2^l:=Nat.pow_pos (by omega)
   have RS:2^K=2*2^l*2^(K-l-1):=o9 (by omega)
   have Yy:wM (p,g,T) l (t%2^l)=g^(e*(t%2^l))%p:=by
    unfold wM b6
    rw[hd,he,Nat.pow_add_one',Nat.mul_div_cancel_left _ (by omega)]
   have kH:g^(2^l*e)%p=(-1)%p:=by
    have:=hg (by omega)
    rw[he,Nat.mul_assoc,Nat.mul_div_cancel_left _ (by omega)] at this
    exact this
   rw[tD]
   split
   ·rename_i hr
    have hr:t%(2*2^l)<2^l:=hr
    rw[ab5 (by omega) e he hr,Yy]
    have Ux:t+2^l<2^K:=by
     rw[RS]
     have h1:t=2*2^l*(t/(2*2^l))+t%(2*2^l):=(Nat.div_add_mod t _).symm
     have h2:t/(2*2^l)<2^(K-l-1):=Nat.div_lt_of_lt_mul (by rw[<-RS];exact ht)
     have h3:2*2^l*(t/(2*2^l)+1)<=2*2^l*2^(K-l-1):=Nat.mul_le_mul_left _ h2
     rw[Nat.mul_add,Nat.mul_one] at h3
     omega
    exact aan (ye Md hlen Jd hN hd hg l t (by omega) ht) (ye Md hlen Jd hN hd hg l _ (by omega) Ux)
   ·rename_i hr
    have hr:¬t%(2*2^l)<2^l:=hr
    rw[ab4 (by omega) e he kH hr,Yy]
    exact aao (ye Md hlen Jd hN hd hg l _ (by omega) (by omega)) (ye Md hlen Jd hN hd hg l t (by omega) ht)
theorem UW{p g T:Int}(hp:au p){u:List Int}(hu:∀ t,El p (u.getD t 0)):∀ l t,El p (tD (p,g,T) u l t)
 | 0,t=>hu t
 | l+1,t=>by
   rw[tD]
   split
   ·exact xR hp _ _
   ·exact lC hp _ _
theorem eY{p:Int}(hp:au p){v:List Int}(h:aq p v=true)(t:Nat):El p (v.getD t 0):=by
 unfold aq at h
 have h:=of_decide_eq_true h
 rw[List.getD_eq_getElem?_getD]
 cases e:v[t]? with
 | none=>exact gA hp
 | some x =>
   have:=h x (List.mem_of_getElem? e)
   exact⟨this.1,by show x<p;omega⟩
theorem Jv{p:Int}(hp:au p){v:List Int}(h:aq p v=true)(t:Nat):El p ((ft v).getD t 0):=by
 unfold ft
 split
 ·unfold K4
  rw[List.getD_eq_getElem?_getD,List.getElem?_map]
  cases e:(List.range v.length)[t]? with
  | none=>exact gA hp
  | some x=>exact eY hp h _
 ·exact gA hp
theorem Zz{f:Int}{v:List Int}(h:aH f v=true){t:Nat}(ht:t<v.length):tD (ar f).1 (ft v) (aE v.length).toNat t=gp (af f) v (b8 f (aE v.length)) t:=by
 obtain⟨hm,he,K,hK,u_,hlen,iu⟩:=dB h
 obtain⟨hp,hf⟩:=b9 hm
 have aJ:=hp
 unfold au at aJ
 obtain⟨o,ho⟩:=H9 hm
 obtain⟨hg1,Qx⟩:=FM hm
 obtain⟨a,ha⟩:∃ a:Nat,(af f-1).toNat=2^K*a:=⟨2^((dP f).toNat-K)*o,by rw[ho,<-Nat.mul_assoc,<-Nat.pow_add];congr 2;omega⟩
 have hN:∀ l,l<K->∃ e,(af f-1).toNat=2*2^l*e:=fun l hl=>⟨2^(K-l-1)*a,by rw[ha,o9 hl,Nat.mul_assoc]⟩
 have Qy:bV f^((af f-1).toNat/2)%af f=(-1)%af f:=by
  have:=Eh hm
  unfold b6 at this
  rw[this]
  rw[show (-1:Int)%af f=(af f-1)%af f from zz (k := -1) (by omega),Int.emod_eq_of_lt (by omega) (by omega)]
 have hs:=ye (p:=af f) (g:=bV f) (T:=(ar f).1.2.2) (v:=v) (K:=K) (N:=(af f-1).toNat) (by rw[hK];rfl) hlen (by omega) hN rfl (fun _=>Qy) K t (Nat.le_refl _) (by omega)
 have hd:(ar f).1=(af f,bV f,(ar f).1.2.2):=rfl
 have lq:=UW (g:=bV f) (T:=(ar f).1.2.2) hp (Jv hp he) K t
 rw[hK,Int.toNat_natCast,hd,<-gz lq,hs]
 unfold gp BM
 rw[hlen,Nat.div_eq_of_lt (by omega),Nat.mod_eq_of_lt (by omega),ha,Nat.mul_div_cancel_left _ (Nat.pow_pos (by omega)),Nat.sub_self]
 refine iU _ fun j hj=>?_
 unfold py
 rw[hlen,rev,Nat.zero_add,Nat.pow_zero,Nat.one_mul]
 rcases Nat.eq_zero_or_pos K with hk|hk
 ·subst hk
  have ht0:t=0:=by rw[hlen] at ht;simpa using ht
  subst ht0
  simp
 ·have hK0:0<2^K:=Nat.pow_pos (by omega)
  have hK2:2<=2^K:=by
   have:=Nat.pow_le_pow_right (n:=2) (by omega) (show 1<=K by omega)
   omega
  have hz:af f-1=((2^K*a:Nat):Int):=by omega
  have ha0:0<a:=by
   rcases Nat.eq_zero_or_pos a with e|e
   ·rw[e,Nat.mul_zero] at hz;omega
   ·exact e
  have Ue:(af f-1)/2^K=(a:Int):=by
   rw[hz,Int.natCast_mul,Int.natCast_pow]
   exact Int.mul_ediv_cancel_left _ (Int.ne_of_gt (Int.pow_pos (by omega)))
  have hR:b8 f (K:Int)=b6 (af f) (bV f) a:=by
   unfold b8
   rw[if_pos ⟨hm,by omega,iu⟩,Int.toNat_natCast,Ue]
   unfold qi
   rw[if_neg Qx,Int.emod_eq_of_lt (by omega),Int.toNat_natCast]
   rw[hz]
   have h1:a*2<=a*2^K:=Nat.mul_le_mul_left a hK2
   rw[Nat.mul_comm] at h1
   rw[Nat.mul_comm (2^K)]
   omega
  have acX:bV f^(2^K*a)%af f=1%af f:=by
   have e:(af f-1).toNat=(af f-1).toNat/2+(af f-1).toNat/2:=by
    obtain⟨e,he⟩:=hN 0 hk
    omega
   rw[<-ha,e,Int.pow_add,<-bZ,Qy,bZ,<-bU,Qy,bU]
   rfl
  rw[hR]
  unfold b6
  rw[<-bU _ (v.getD j 0),<-bU _ (v.getD j 0) ((bV f^a%af f)^(t*j%2^K)),pow_mod,<-Int.pow_mul]
  congr 2
  have hm2:a*t*j=2^K*a*(t*j/2^K)+a*(t*j%2^K):=by
   have h1:t*j=2^K*(t*j/2^K)+t*j%2^K:=(Nat.div_add_mod _ _).symm
   conv=>lhs;rw[Nat.mul_assoc,h1]
   rw[Nat.mul_add]
   congr 1
   ac_rfl
  rw[hm2,Int.pow_add,Int.pow_mul,ix (fE acX _)]
theorem Nh(p w:Int)(n:Nat):(mL p w n).length=n:=eB _ _
theorem fT(p:Int)(v:List Int)(w:Int)(n:Nat):(bD p v w n).length=n:=eB _ _
theorem Vk(p w:Int)(n:Nat):mL p w n++[w^n%p]=mL p w (n+1):=by simp[mL,List.range_succ]
theorem TT(p:Int)(v:List Int)(w:Int)(n:Nat):bD p v w n++[gp p v w n]=bD p v w (n+1):=by simp[bD,List.range_succ]
theorem Xn(p w:Int){n m:Nat}(h:m<n):(mL p w n).getD m 0=w^m%p:=by simp[mL,List.getD_eq_getElem?_getD,h]
theorem Tu :
 ∀(d:Int×List Int×Int),Ty.wf ai d.1/\Ty.wf aj d.2.1/\Ty.wf ai d.2.2->aH d.1 d.2.1=true/\El (af d.1) d.2.2->True/\(Ty.wf ai (af d.1)->(0:Nat)<=d.2.1.length/\((d.1=d.1/\ae d.2.1/\ae d.2.2/\aQ/\ae (af d.1)/\ae (d.2.1.length:Int)/\(1:Int)=d.2.2^(0:Nat)%af d.1/\(0:Int)=(↑(0:Nat):Int))/\[]=mL (af d.1) d.2.2 (0:Nat))/\∀(x:Nat),x<=d.2.1.length->(decide ((x:Int)<(d.2.1.length:Int))=true->(List.length (mL (af d.1) d.2.2 x)+List.length [d.2.2^x%af d.1])*(8:Nat)<=(140737488355328:Nat)/\af d.1≠(0:Int)/\∃(x':Nat),x'<=d.2.1.length/\d.2.1.length-x'<d.2.1.length-x/\(d.1=d.1/\ae d.2.1/\ae d.2.2/\aQ/\ae (af d.1)/\ae (d.2.1.length:Int)/\Int.tmod (i64.wrap (d.2.2^x%af d.1*d.2.2)) (af d.1)=d.2.2^x'%af d.1/\i64.wrap ((x:Int)+(1:Int))=(x':Int))/\mL (af d.1) d.2.2 x++[d.2.2^x%af d.1]=mL (af d.1) d.2.2 x')/\(decide ((x:Int)<(d.2.1.length:Int))=false->(0:Nat)<=d.2.1.length/\((d.1=d.1/\ae d.2.1/\ae d.2.2/\aQ/\ae (af d.1)/\ae (d.2.1.length:Int)/\(0:Int)=(↑(0:Nat):Int))/\ae (mL (af d.1) d.2.2 x)/\[]=bD (af d.1) d.2.1 d.2.2 (0:Nat))/\∀(x_1:Nat),x_1<=d.2.1.length->(decide ((x_1:Int)<(d.2.1.length:Int))=true->(0:Nat)<=d.2.1.length/\((d.1=d.1/\ae d.2.1/\ae d.2.2/\aQ/\ae (af d.1)/\ae (d.2.1.length:Int)/\ae (x_1:Int)/\(0:Int)=bm (py d.2.1 d.2.2 x_1) (0:Nat)%af d.1/\(0:Int)=(↑(0:Nat):Int))/\ae (mL (af d.1) d.2.2 x)/\ae (bD (af d.1) d.2.1 d.2.2 x_1))/\∀(x_2:Nat),x_2<=d.2.1.length->(decide ((x_2:Int)<(d.2.1.length:Int))=true->((0:Int)<=(x_2:Int)/\(x_2:Int)<(d.2.1.length:Int))/\(d.2.1.length:Int)≠(0:Int)/\((0:Int)<=Int.tmod (i64.wrap ((x_1:Int)*(x_2:Int))) (d.2.1.length:Int)/\Int.tmod (i64.wrap ((x_1:Int)*(x_2:Int))) (d.2.1.length:Int)<(↑(List.length (mL (af d.1) d.2.2 x)):Int))/\af d.1≠(0:Int)/\∃(x':Nat),x'<=d.2.1.length/\d.2.1.length-x'<d.2.1.length-x_2/\(d.1=d.1/\ae d.2.1/\ae d.2.2/\aQ/\ae (af d.1)/\ae (d.2.1.length:Int)/\ae (x_1:Int)/\Int.tmod (i64.wrap (bm (py d.2.1 d.2.2 x_1) x_2%af d.1+i64.wrap (d.2.1.getD ((x_2:Int).toNat) (0:Int)*List.getD (mL (af d.1) d.2.2 x) (Int.toNat (Int.tmod (i64.wrap ((x_1:Int)*(x_2:Int))) (d.2.1.length:Int))) (0:Int)))) (af d.1)=bm (py d.2.1 d.2.2 x_1) x'%af d.1/\i64.wrap ((x_2:Int)+(1:Int))=(x':Int))/\ae (mL (af d.1) d.2.2 x)/\ae (bD (af d.1) d.2.1 d.2.2 x_1))/\(decide ((x_2:Int)<(d.2.1.length:Int))=false->(List.length (bD (af d.1) d.2.1 d.2.2 x_1)+List.length [bm (py d.2.1 d.2.2 x_1) x_2%af d.1])*(8:Nat)<=(140737488355328:Nat)/\∃(x':Nat),x'<=d.2.1.length/\d.2.1.length-x'<d.2.1.length-x_1/\(d.1=d.1/\ae d.2.1/\ae d.2.2/\aQ/\ae (af d.1)/\ae (d.2.1.length:Int)/\i64.wrap ((x_1:Int)+(1:Int))=(x':Int))/\ae (mL (af d.1) d.2.2 x)/\bD (af d.1) d.2.1 d.2.2 x_1++[bm (py d.2.1 d.2.2 x_1) x_2%af d.1]=bD (af d.1) d.2.1 d.2.2 x'))/\(decide ((x_1:Int)<(d.2.1.length:Int))=false->bD (af d.1) d.2.1 d.2.2 x_1=bD (af d.1) d.2.1 d.2.2 d.2.1.length))):=by
  intro d hw hp
  obtain⟨f,v,wt⟩:=d
  obtain⟨hv,lq⟩:=hp
  replace hv:aH f v=true:=hv
  replace lq:El (af f) wt:=lq
  obtain⟨hm,he,K,hK,u_,hlen,iu⟩:=dB hv
  obtain⟨hp,hf⟩:=b9 hm
  have aJ:=hp
  unfold au at aJ
  have RL:=kX u_
  have hn:v.length<=512:=by omega
  have F0:0<v.length:=by rw[hlen];exact Nat.pow_pos (by omega)
  simp only[exists_const,forall_const,decide_eq_true_eq,decide_eq_false_iff_not,beq_iff_eq,sxS]
  refine fun _=>⟨Nat.zero_le _,⟨⟨?_,rfl⟩,rfl⟩,fun x hx=>⟨fun aT=>⟨?_,hm,x+1,by omega,by omega,⟨?_,?_⟩,Vk _ _ _⟩,fun jV=>⟨Nat.zero_le _,⟨rfl,rfl⟩,fun i hi=>⟨fun Ht=>⟨Nat.zero_le _,⟨?_,rfl⟩,fun j hj=>⟨fun abg=>?_,fun ahi=>⟨?_,i+1,by omega,by omega,?_,?_⟩⟩⟩,fun ahg=>?_⟩⟩⟩⟩
  ·rw[Int.pow_zero,Int.emod_eq_of_lt (by omega) (by omega)]
  ·rw[Nh,List.length_singleton];omega
  ·have e:=sE hp (ei (p:=af f) (by omega) (wt^x)) lq
   rw[e]
   unfold mulM
   rw[bZ,<-Int.pow_succ]
  ·rw[wrap_small (by omega)];rfl
  ·show (0:Int)=0%af f
   rw[Int.zero_emod]
  ·have mj:x=v.length:=by omega
   have Yl:i*j<=512*512:=Nat.mul_le_mul (by omega) (by omega)
   have BA:(i64.wrap ((i:Int)*(j:Int))).tmod (v.length:Int)=((i*j%v.length:Nat):Int):=by
    rw[<-Int.natCast_mul,wrap_small (by omega),Int.tmod_eq_emod_of_nonneg (by omega)]
    rfl
   have aeC:i*j%v.length<v.length:=Nat.mod_lt _ F0
   rw[BA,Int.toNat_natCast,Nh,mj,Xn _ _ aeC]
   refine⟨⟨by omega,abg⟩,by omega,⟨by omega,by omega⟩,hm,j+1,by omega,by omega,?_,?_⟩
   ·have e1:=eY hp he j
    have e2:=ei (p:=af f) (by omega) (wt^(i*j%v.length))
    have e3:=mJ hp e1 e2
    have e4:=ei (p:=af f) (by omega) (bm (py v wt i) j)
    unfold El at e4
    rw[wrap_small (n:=v.getD j 0*(wt^(i*j%v.length)%af f)) (by omega),wrap_small (by omega),Int.tmod_eq_emod_of_nonneg (by omega),bm]
    refine sV (mod_mod _ _) ?_
    unfold py
    rw[bU]
   ·rw[wrap_small (by omega)];rfl
  ·rw[fT,List.length_singleton];omega
  ·rw[wrap_small (by omega)];rfl
  ·have lr:j=v.length:=by omega
   rw[lr]
   exact TT _ _ _ _
  ·have cF:i=v.length:=by omega
   rw[cF]
theorem ZM{f:Int}{v:List Int}(h:aH f v=true):El (af f) (b8 f (aE v.length)):=by
 obtain⟨hm,he,K,hK,u_,hlen,iu⟩:=dB h
 obtain⟨hp,hf⟩:=b9 hm
 unfold b8
 rw[hK,if_pos ⟨hm,by omega,iu⟩]
 unfold qi
 split
 ·exact absurd ‹_› (FM hm).2
 ·exact CJ hp _ _
theorem PV :
 ∀(d:Int×List Int),Ty.wf ai d.1/\Ty.wf aj d.2->True->True/\((!aH d.1 d.2)=true->[]=kR d.1 d.2)/\((!aH d.1 d.2)=false->True/\(Ty.wf ai (aE (d.2.length:Int))->True/\(Ty.wf ai (b8 d.1 (aE (d.2.length:Int)))->(aH d.1 d.2=true/\El (af d.1) (b8 d.1 (aE (d.2.length:Int))))/\(Ty.wf aj (bD (af d.1) d.2 (b8 d.1 (aE (d.2.length:Int))) d.2.length)->bD (af d.1) d.2 (b8 d.1 (aE (d.2.length:Int))) d.2.length=kR d.1 d.2)))):=by
  intro d hw hp
  obtain⟨f,v⟩:=d
  simp only[exists_const,forall_const,decide_eq_true_eq,decide_eq_false_iff_not,beq_iff_eq,sxS]
  refine⟨fun h=>?_,fun h _ _=>⟨⟨h,ZM h⟩,fun _=>?_⟩⟩
  ·unfold kR;rw[if_neg (by rw[h];simp)]
  ·unfold kR;rw[if_pos h]
theorem Co:∀ n,bm (fun _=>0) n=0
 | 0=>rfl
 | n+1=>by rw[bm,Co n];rfl
theorem GK(c:Int):∀ n:Nat,bm (fun _=>c) n=n*c
 | 0=>by rw[bm];simp
 | n+1=>by rw[bm,GK c n];push_cast;rw[Int.add_mul,Int.one_mul]
theorem Cn(f:Nat->Nat->Int)(m:Nat):∀ n,bm (fun i=>bm (fun j=>f i j) m) n=bm (fun j=>bm (fun i=>f i j) n) m
 | 0=>by simp only[bm];exact (Co m).symm
 | n+1=>by
   rw[bm,Cn f m n,<-EN]
   rfl
theorem Q3{c:Nat->Int}{t0:Nat}:∀ n,bm (fun t=>if t=t0 then c t else 0) n=if t0<n then c t0 else 0
 | 0=>by simp[bm]
 | n+1=>by
   rw[bm,Q3 n]
   by_cases h:n=t0
   ·subst h;simp
   ·rw[if_neg h]
    by_cases h2:t0<n
    ·rw[if_pos h2,if_pos (by omega)];omega
    ·rw[if_neg h2,if_neg (by omega)];rfl
theorem oo{p a b c d:Int}(h1:a%p=c%p)(h2:b%p=d%p):a*b%p=c*d%p:=by
 rw[<-bZ,h1,bZ,<-bU,h2,bU]
theorem JZ{p a b:Int}(h:a%p=b%p)(n:Nat):a^n%p=b^n%p:=by rw[<-pow_mod,h,pow_mod]
structure XV (p w:Int) (K:Nat):Prop where
 pr:Rk p
 odd:(2:Int)%p≠0
 full:w^2^K%p=1%p
 half:0<K->w^2^(K-1)%p=(-1)%p
theorem geo(a:Int):∀ n:Nat,(a-1)*bm (fun i=>a^i) n=a^n-1
 | 0=>by simp[bm]
 | n+1=>by
   rw[bm,Int.mul_add,geo a n,Int.pow_succ,Int.sub_mul,Int.one_mul,Int.mul_comm a (a^n)]
   omega
theorem adk {p w : Int} {K : Nat} (h : XV p w K) : ∀ d, 0 < d → d < 2 ^ K → w ^ d % p ≠ 1 % p := by
  intro d h0 hd he
  -- raise to 2-powers until the half is met
  have key : ∀ s d : Nat, s ≤ K → 0 < d → d < 2 ^ s → w ^ (d * 2 ^ (K - s)) % p ≠ 1 % p := by
    intro s
    induction s with
    | zero => intro d _ h1 h2; omega
    | succ s ih =>
      intro d hs h1 h2 he
      rcases Nat.mod_two_eq_zero_or_one d with hm | hm
      · refine ih (d / 2) (by omega) (by omega) (by rw [Nat.pow_succ] at h2; omega) ?_
        have e : d / 2 * 2 ^ (K - s) = d * 2 ^ (K - (s + 1)) := by
          rw [show K - s = K - (s + 1) + 1 by omega, Nat.pow_succ, Nat.mul_comm _ 2, ← Nat.mul_assoc, show d / 2 * 2 = d by omega]
        rw [e]; exact he
      · -- odd: square up to the half
        have e : d * 2 ^ (K - (s + 1)) * 2 ^ s = 2 ^ (K - 1) * d := by
          rw [Nat.mul_assoc, ← Nat.pow_add, show K - (s + 1) + s = K - 1 by omega, Nat.mul_comm]
        have h3 : w ^ (d * 2 ^ (K - (s + 1)) * 2 ^ s) % p = 1 % p := by rw [Int.pow_mul]; exact fE he _
        rw [e, Int.pow_mul] at h3
        have h4 : (w ^ 2 ^ (K - 1)) ^ d % p = (-1) ^ d % p := JZ (h.half (by omega)) d
        have h5 : (-1 : Int) ^ d = -1 := by
          have : d = 2 * (d / 2) + 1 := by omega
          rw [this, Int.pow_succ, Int.pow_mul]
          have : ((-1 : Int) ^ 2) = 1 := by decide
          rw [this, Int.one_pow]; rfl
        rw [h5] at h4
        rw [h4] at h3
        have : (2 : Int) % p = 0 := by
          have h6 : (1 - (-1) : Int) % p = 0 := by rw [Int.sub_emod, h3, Int.sub_self, Int.zero_emod]
          exact h6
        exact h.odd this
  refine key K d (Nat.le_refl _) h0 hd ?_
  rw [Nat.sub_self, Nat.pow_zero, Nat.mul_one]
  exact he
theorem adf{p w:Int}{K:Nat}(h:XV p w K)(d:Nat):bm (fun i=>w^(i*d)) (2^K)%p=(if d%2^K=0 then ((2^K:Nat):Int) else 0)%p:=by
 split
 ·rename_i hd
  have:bm (fun i=>w^(i*d)) (2^K)%p=bm (fun _=>1) (2^K)%p:=iU _ fun i _=>by
   have e:i*d=2^K*(d/2^K*i):=by
    have:=Nat.div_add_mod d (2^K)
    rw[hd,Nat.add_zero] at this
    rw[<-Nat.mul_assoc,this,Nat.mul_comm]
   rw[e,Int.pow_mul]
   exact fE h.full _
  rw[this,GK,Int.mul_one]
 ·rename_i hd
  have h0:0<2^K:=Nat.pow_pos (by omega)
  have bo:w^(d%2^K)%p≠1%p:=adk h _ (by omega) (Nat.mod_lt _ h0)
  have hw:w^d%p=w^(d%2^K)%p:=by
   have e:d=2^K*(d/2^K)+d%2^K:=(Nat.div_add_mod _ _).symm
   conv=>lhs;rw[e]
   rw[Int.pow_add,Int.pow_mul,ix (fE h.full _)]
  have hg:=geo (w^d) (2^K)
  have hz:(w^d-1)*bm (fun i=>(w^d)^i) (2^K)%p=0:=by
   rw[hg,<-Int.pow_mul,Nat.mul_comm,Int.pow_mul,Int.sub_emod,fE h.full,Int.sub_self,Int.zero_emod]
  rcases h.pr.pr _ _ hz with h1|h1
  ·exfalso
   apply bo
   rw[<-hw]
   have:w^d%p=((w^d-1)+1)%p:=by rw[Int.sub_add_cancel]
   rw[this,<-eC,h1,Int.zero_add]
  ·rw[Int.zero_emod,<-h1]
   congr 1
   refine jE _ fun i _=>?_
   rw[<-Int.pow_mul,Nat.mul_comm]
theorem XM{f:Int}(h:af f≠0):b6 (af f) 2 (af f-1).toNat=1:=by
 have qg:∀ {p e:Nat},Jz p 2 30 e=1->e<2^30->b6 (p:Int) 2 e=1:=fun {p e} h he=>by
  have:=Ni p 2 e
  rw[<-Nm p 2 30 e he,h] at this
  exact this
 rcases im (b9 h).2 with e|e|e|e|e|e|e|e|e<;>subst e
 ·exact qg (p:=17) (by decide +kernel) (by decide +kernel)
 ·exact qg (p:=97) (by decide +kernel) (by decide +kernel)
 ·exact qg (p:=193) (by decide +kernel) (by decide +kernel)
 ·exact qg (p:=257) (by decide +kernel) (by decide +kernel)
 ·exact qg (p:=7681) (by decide +kernel) (by decide +kernel)
 ·exact qg (p:=12289) (by decide +kernel) (by decide +kernel)
 ·exact qg (p:=998244353) (by decide +kernel) (by decide +kernel)
 ·exact qg (p:=469762049) (by decide +kernel) (by decide +kernel)
 ·exact qg (p:=1004535809) (by decide +kernel) (by decide +kernel)
theorem EI{f:Int}{K:Nat}(hm:af f≠0)(iu:(K:Int)<=dP f):∃ a:Nat,(af f-1).toNat=2^K*a/\∃ b:Nat,b8 f (K:Int)=bV f^b%af f/\(0<K->b=a)/\(K=0->b=0):=by
 obtain⟨hp,hf⟩:=b9 hm
 have aJ:=hp
 unfold au at aJ
 obtain⟨o,ho⟩:=H9 hm
 obtain⟨hg1,Qx⟩:=FM hm
 obtain⟨a,ha⟩:∃ a:Nat,(af f-1).toNat=2^K*a:=⟨2^((dP f).toNat-K)*o,by rw[ho,<-Nat.mul_assoc,<-Nat.pow_add];congr 2;omega⟩
 have hz:af f-1=((2^K*a:Nat):Int):=by omega
 have ha0:0<a:=by
  rcases Nat.eq_zero_or_pos a with e|e
  ·rw[e,Nat.mul_zero] at hz;omega
  ·exact e
 have Ue:(af f-1)/2^K=(a:Int):=by
  rw[hz,Int.natCast_mul,Int.natCast_pow]
  exact Int.mul_ediv_cancel_left _ (Int.ne_of_gt (Int.pow_pos (by omega)))
 refine⟨a,ha,?_⟩
 unfold b8
 rw[if_pos ⟨hm,by omega,iu⟩,Int.toNat_natCast,Ue]
 unfold qi b6
 rw[if_neg Qx]
 refine⟨_,rfl,fun hk=>?_,fun hk=>?_⟩
 ·have hK2:2<=2^K:=by
   have:=Nat.pow_le_pow_right (n:=2) (by omega) (show 1<=K by omega)
   omega
  have h1:a*2<=a*2^K:=Nat.mul_le_mul_left a hK2
  rw[Nat.mul_comm] at h1
  rw[Int.emod_eq_of_lt (by omega) (by rw[hz,Nat.mul_comm (2^K)];omega),Int.toNat_natCast]
 ·subst hk
  rw[Nat.pow_zero,Nat.one_mul] at hz
  rw[hz,Int.emod_self];rfl
theorem Eg{f:Int}(hm:af f≠0):bV f^(af f-1).toNat%af f=1%af f:=by
 have hp:=(b9 hm).1
 unfold au at hp
 obtain⟨o,ho⟩:=H9 hm
 have h4:=(kr (b9 hm).2).2.2.1
 have he:(af f-1).toNat=(af f-1).toNat/2+(af f-1).toNat/2:=by
  obtain⟨t,ht⟩:∃ t,(dP f).toNat=t+1:=⟨(dP f).toNat-1,by omega⟩
  rw[ho,ht,Nat.pow_succ,Nat.mul_comm _ 2,Nat.mul_assoc]
  omega
 have Qy:bV f^((af f-1).toNat/2)%af f=(-1)%af f:=by
  have:=Eh hm
  unfold b6 at this
  rw[this,show (-1:Int)%af f=(af f-1)%af f from zz (k := -1) (by omega),Int.emod_eq_of_lt (by omega) (by omega)]
 rw[he,Int.pow_add,<-bZ,Qy,bZ,<-bU,Qy,bU]
 rfl
theorem VL{f:Int}{K:Nat}(hm:af f≠0)(iu:(K:Int)<=dP f):b8 f (K:Int)^(af f-1).toNat%af f=1%af f:=by
 obtain⟨a,ha,b,hb,_⟩:=EI hm iu
 rw[hb,pow_mod,<-Int.pow_mul,Nat.mul_comm,Int.pow_mul]
 exact fE (Eg hm) _
theorem YP{f:Int}{K:Nat}(hm:af f≠0)(iu:(K:Int)<=dP f):XV (af f) (b8 f (K:Int)) K:=by
 have hp:=(b9 hm).1
 unfold au at hp
 obtain⟨a,ha,b,hb,fe,jx⟩:=EI hm iu
 refine⟨nU hm,by rw[Int.emod_eq_of_lt (by omega) (by omega)];decide,?_,fun hk=>?_⟩
 ·rw[hb,pow_mod,<-Int.pow_mul]
  rcases Nat.eq_zero_or_pos K with h0|h0
  ·rw[jx h0,Nat.zero_mul,Int.pow_zero]
  ·rw[fe h0,Nat.mul_comm,<-ha]
   exact Eg hm
 ·rw[hb,fe hk,pow_mod,<-Int.pow_mul]
  have e:a*2^(K-1)=(af f-1).toNat/2:=by
   obtain⟨k,rfl⟩:∃ k,K=k+1:=⟨K-1,by omega⟩
   rw[ha,Nat.pow_succ,Nat.add_sub_cancel,Nat.mul_comm _ 2,Nat.mul_assoc,Nat.mul_div_cancel_left _ (by omega),Nat.mul_comm]
  have:=Eh hm
  unfold b6 at this
  rw[e,this,show (-1:Int)%af f=(af f-1)%af f from zz (k := -1) (by omega),Int.emod_eq_of_lt (by omega) (by omega)]
theorem NW{f:Int}{K:Nat}(hm:af f≠0)(iu:(K:Int)<=dP f):b8 f (K:Int)*bk (af f) (b8 f (K:Int))%af f=1%af f:=by
 have hp:=(b9 hm).1
 unfold au at hp
 unfold bk b6
 rw[bU,Int.mul_comm,<-Int.pow_succ,show (af f-2).toNat.succ=(af f-1).toNat by omega]
 exact VL hm iu
theorem Q9{f:Int}(hm:af f≠0)(K:Nat):((2^K:Nat):Int)*bk (af f) ((2^K:Nat):Int)%af f=1%af f:=by
 have hp:=(b9 hm).1
 unfold au at hp
 unfold bk b6
 rw[bU,Int.mul_comm,<-Int.pow_succ,show (af f-2).toNat.succ=(af f-1).toNat by omega,Int.natCast_pow,<-Int.pow_mul,Nat.mul_comm,Int.pow_mul]
 have h2:=XM hm
 unfold b6 at h2
 refine fE ?_ K
 show (2:Int)^(af f-1).toNat%af f=1%af f
 rw[h2,Int.emod_eq_of_lt (by omega) (by omega)]
theorem HH{p w:Int}{n:Nat}(h:w^n%p=1%p)(m:Nat):w^(m%n)%p=w^m%p:=by
 have e:m=n*(m/n)+m%n:=(Nat.div_add_mod _ _).symm
 conv=>rhs;rw[e]
 rw[Int.pow_add,Int.pow_mul,ix (fE h _)]
theorem ZC{n i j:Nat}(hn:0<n)(hi:i<n):(n-i)%n*j%n=(n-i*j%n)%n:=by
 have h1:((n-i)%n*j+i*j)%n=0:=by
  rw[Nat.add_mod,Nat.mod_mul_mod,<-Nat.add_mod,<-Nat.add_mul,Nat.sub_add_cancel (Nat.le_of_lt hi),Nat.mul_mod_right]
 have h2:((n-i)%n*j%n+i*j%n)%n=0:=by rw[<-Nat.add_mod];exact h1
 have ha:(n-i)%n*j%n<n:=Nat.mod_lt _ hn
 have hb:i*j%n<n:=Nat.mod_lt _ hn
 generalize (n-i)%n*j%n=A at *
 generalize i*j%n=B at *
 rcases Nat.eq_zero_or_pos B with h0|h0
 ·subst h0
  rw[Nat.add_zero,Nat.mod_eq_of_lt ha] at h2
  rw[Nat.sub_zero,Nat.mod_self,h2]
 ·rw[Nat.mod_eq_of_lt (by omega:n-B<n)]
  have h3:A+B=n:=by
   have h4:n ∣ A+B:=Nat.dvd_of_mod_eq_zero h2
   obtain⟨q,hq⟩:=h4
   have:q=1:=by
    rcases q with _|_|q
    ·rw[Nat.mul_zero] at hq;omega
    ·rfl
    ·rw[show n*(q+1+1)=n*q+n+n by rw[Nat.mul_add,Nat.mul_add,Nat.mul_one]] at hq;omega
   rw[this,Nat.mul_one] at hq;exact hq
  omega
theorem Zg{p w wi:Int}{v:List Int}(hn:0<v.length)(hf:w^v.length%p=1%p)(hi:w*wi%p=1%p){k:Nat}(hk:k<v.length):gp p v wi k=gp p v w ((v.length-k)%v.length):=by
 unfold gp
 refine iU _ fun j _=>?_
 unfold py
 rw[ZC hn hk]
 refine oo rfl ?_
 have hm:k*j%v.length<v.length:=Nat.mod_lt _ hn
 generalize k*j%v.length=m at *
 rw[HH hf]
 have h1:w^(v.length-m)*(w^m*wi^m)%p=wi^m%p:=by
  rw[<-Int.mul_assoc,<-Int.pow_add,Nat.sub_add_cancel (Nat.le_of_lt hm),ix hf]
 rw[<-h1,<-Int.mul_pow,Int.mul_comm,ix (fE hi m)]
theorem Ql{n s t k:Nat}(hs:s<n)(ht:t<n)(hk:k<n):(s+t+(n-k))%n=0↔t=(k+n-s)%n:=by
 have e:(k+n-s)%n=if s<=k then k-s else k+n-s:=by
  split
  ·rw[show k+n-s=(k-s)+n by omega,Nat.add_mod_right,Nat.mod_eq_of_lt (by omega)]
  ·rw[Nat.mod_eq_of_lt (by omega)]
 rw[e]
 constructor
 ·intro h
  obtain⟨q,hq⟩:=Nat.dvd_of_mod_eq_zero h
  rcases q with _|_|_|q
  ·rw[Nat.mul_zero] at hq;omega
  ·rw[show n*(0+1)=n by omega] at hq;split<;>omega
  ·rw[show n*(0+1+1)=n+n by omega] at hq;split<;>omega
  ·rw[show n*(q+1+1+1)=n*q+n+n+n by rw[Nat.mul_add,Nat.mul_add,Nat.mul_add,Nat.mul_one]] at hq;omega
 ·intro h
  subst h
  split
  ·rw[show s+(k-s)+(n-k)=n by omega,Nat.mod_self]
  ·rw[show s+(k+n-s)+(n-k)=n+n by omega,Nat.add_mod_right,Nat.mod_self]
theorem Zd {p w : Int} {K : Nat} (h : XV p w K) {a b : List Int} (ha : a.length = 2 ^ K) (hb : b.length = 2 ^ K) {gJ : Int} (hby : ((2 ^ K : Nat) : Int) * gJ % p = 1 % p) {k : Nat} (hk : k < 2 ^ K) :
    mulM p (gp p (lx p (bD p a w (2 ^ K)) (bD p b w (2 ^ K))) w ((2 ^ K - k) % 2 ^ K)) gJ = CH p a b k := by
  have h0 : 0 < 2 ^ K := Nat.pow_pos (by omega)
  have tz : (lx p (bD p a w (2 ^ K)) (bD p b w (2 ^ K))).length = 2 ^ K := by unfold lx; rw [eB, fT]
  -- the transform of the pointwise product
  have e1 : gp p (lx p (bD p a w (2 ^ K)) (bD p b w (2 ^ K))) w ((2 ^ K - k) % 2 ^ K) = bm (fun i => bm (fun s => bm (fun t => a.getD s 0 * b.getD t 0 * w ^ (i * (s + t + (2 ^ K - k)))) (2 ^ K)) (2 ^ K)) (2 ^ K) % p := by
    unfold gp
    rw [tz]
    refine iU _ fun i hi => ?_
    unfold py
    rw [tz]
    have g1 : (lx p (bD p a w (2 ^ K)) (bD p b w (2 ^ K))).getD i 0 = mulM p (gp p a w i) (gp p b w i) := by
      unfold lx
      rw [fT]
      simp [List.getD_eq_getElem?_getD, hi, bD]
    have gS : ∀ v : List Int, v.length = 2 ^ K → gp p v w i % p = bm (fun s => v.getD s 0 * w ^ (i * s)) (2 ^ K) % p := fun v hv => by
      unfold gp
      rw [mod_mod, hv]
      refine iU _ fun s _ => ?_
      unfold py
      rw [hv]
      exact oo rfl (HH h.full _)
    rw [g1]
    have g2 : mulM p (gp p a w i) (gp p b w i) % p = bm (fun s => a.getD s 0 * w ^ (i * s)) (2 ^ K) * bm (fun t => b.getD t 0 * w ^ (i * t)) (2 ^ K) % p := by
      unfold mulM
      rw [mod_mod]
      exact oo (gS a ha) (gS b hb)
    have g3 : w ^ ((2 ^ K - k) % 2 ^ K * i % 2 ^ K) % p = w ^ (i * (2 ^ K - k)) % p := by
      rw [Nat.mod_mul_mod, HH h.full, Nat.mul_comm]
    rw [oo g2 g3]
    congr 1
    generalize hSB : bm (fun t => b.getD t 0 * w ^ (i * t)) (2 ^ K) = SB
    have q1 : ∀ s, bm (fun t => a.getD s 0 * b.getD t 0 * w ^ (i * (s + t + (2 ^ K - k)))) (2 ^ K) = (SB * w ^ (i * (2 ^ K - k))) * (a.getD s 0 * w ^ (i * s)) := by
      intro s
      rw [show (SB * w ^ (i * (2 ^ K - k))) * (a.getD s 0 * w ^ (i * s)) = (w ^ (i * (2 ^ K - k)) * (a.getD s 0 * w ^ (i * s))) * SB by ac_rfl, ← hSB, ← lg]
      refine jE _ fun t _ => ?_
      rw [Nat.mul_add, Nat.mul_add, Int.pow_add, Int.pow_add]
      ac_rfl
    rw [jE _ (fun s _ => q1 s), lg]
    ac_rfl
  have e2 : gp p (lx p (bD p a w (2 ^ K)) (bD p b w (2 ^ K))) w ((2 ^ K - k) % 2 ^ K) % p = ((2 ^ K : Nat) : Int) * bm (fun s => a.getD s 0 * b.getD ((k + 2 ^ K - s) % 2 ^ K) 0) (2 ^ K) % p := by
    rw [e1, mod_mod, Cn, ← lg]
    refine iU _ fun s hs => ?_
    rw [Cn]
    have hd : bm (fun t => bm (fun i => a.getD s 0 * b.getD t 0 * w ^ (i * (s + t + (2 ^ K - k)))) (2 ^ K)) (2 ^ K) % p = bm (fun t => if t = (k + 2 ^ K - s) % 2 ^ K then ((2 ^ K : Nat) : Int) * (a.getD s 0 * b.getD t 0) else 0) (2 ^ K) % p := by
      refine iU _ fun t ht => ?_
      rw [lg, ← bU, adf h, bU]
      by_cases hc : t = (k + 2 ^ K - s) % 2 ^ K
      · rw [if_pos ((Ql hs ht hk).2 hc), if_pos hc, Int.mul_comm]
      · rw [if_neg (fun h => hc ((Ql hs ht hk).1 h)), if_neg hc, Int.mul_zero]
    rw [hd, Q3, if_pos (Nat.mod_lt _ h0)]
  unfold mulM CH
  rw [ha, ← bZ, e2, bZ, Int.mul_comm ((2 ^ K : Nat) : Int), Int.mul_assoc, ← bU, hby, bU, Int.mul_one]
theorem jP(d:Fd)(u:List Int)(l:Nat):(hY d u l).length=u.length:=eB _ _
theorem zt(d:Fd)(u:List Int)(l:Nat){t:Nat}(h:t<u.length):(hY d u l).getD t 0=tD d u l t:=by simp[hY,List.getD_eq_getElem?_getD,h]
theorem UU(d:Fd)(u:List Int):hY d u 0=u:=by
 refine List.ext_getElem (jP _ _ _) fun t h1 h2=>?_
 simp[hY,tD,List.getD_eq_getElem?_getD,h2]
theorem UT{d:Fd}{u:List Int}{K l:Nat}(hu:u.length=2^K)(hl:l<K):Ch d (hY d u l) l 0 (u.length/2)=hY d u (l+1):=by
 have hlen:(hY d u l).length=2*2^l*2^(K-l-1):=by rw[jP,hu,o9 hl]
 rw[show u.length/2=2^l*2^(K-l-1) by rw[hu,FQ hl]]
 refine List.ext_getElem (by rw[Ci,jP,jP]) fun t h1 h2=>?_
 rw[Ci] at h1
 have h3:=ZK (d:=d) hlen h1
 have e1:(Ch d (hY d u l) l 0 (2^l*2^(K-l-1)))[t]'(by rw[Ci];exact h1)=(Ch d (hY d u l) l 0 (2^l*2^(K-l-1))).getD t 0:=by simp[List.getD_eq_getElem?_getD,h1,Ci]
 rw[e1,h3]
 have ht:t<u.length:=by rw[jP] at h1;exact h1
 have e2:(hY d u (l+1))[t]=tD d u (l+1) t:=by simp[hY]
 rw[e2]
 unfold sf
 rw[tD]
 split
 ·rename_i hr
  have RS:u.length=2*2^l*2^(K-l-1):=by rw[hu,o9 hl]
  have h4:t+2^l<u.length:=by
   have g1:t=2*2^l*(t/(2*2^l))+t%(2*2^l):=(Nat.div_add_mod t _).symm
   have g2:t/(2*2^l)<2^(K-l-1):=Nat.div_lt_of_lt_mul (by rw[<-RS];exact ht)
   have g3:2*2^l*(t/(2*2^l)+1)<=2*2^l*2^(K-l-1):=Nat.mul_le_mul_left _ g2
   rw[Nat.mul_add,Nat.mul_one] at g3
   omega
  rw[zt _ _ _ ht,zt _ _ _ h4]
 ·rw[zt _ _ _ ht,zt _ _ _ (Nat.lt_of_le_of_lt (Nat.sub_le _ _) ht)]
theorem wJ{f:Int}{K:Nat}(hm:af f≠0)(iu:(K:Int)<=dP f):bc (ar f).1 (K:Int)=b8 f (K:Int):=by
 have hp:=(b9 hm).1
 unfold au at hp
 obtain⟨a,ha,b,hb,fe,jx⟩:=EI hm iu
 have FV:(ar f).1.1=af f:=rfl
 have hd2:(ar f).1.2.1=bV f:=rfl
 have hz:af f-1=((2^K*a:Nat):Int):=by omega
 have Ue:(af f-1)/2^((K:Nat):Int).toNat=(a:Int):=by
  rw[Int.toNat_natCast,hz,Int.natCast_mul,Int.natCast_pow]
  exact Int.mul_ediv_cancel_left _ (Int.ne_of_gt (Int.pow_pos (by omega)))
 unfold bc b6
 rw[FV,hd2,Ue,Int.toNat_natCast,hb]
 rcases Nat.eq_zero_or_pos K with h0|h0
 ·rw[jx h0]
  subst h0
  rw[Nat.pow_zero,Nat.one_mul] at ha
  rw[<-ha,Eg hm,Int.pow_zero]
 ·rw[fe h0]
theorem WH{f:Int}{v:List Int}(h:aH f v=true):hY (ar f).1 (ft v) (aE v.length).toNat=bD (af f) v (b8 f (aE v.length)) v.length:=by
 have hl:(ft v).length=v.length:=by
  obtain⟨_,_,K,hK,_⟩:=dB h
  unfold ft;rw[if_pos (by omega)];exact Nc _ _
 refine List.ext_getElem (by rw[jP,fT,hl]) fun t h1 h2=>?_
 rw[jP,hl] at h1
 have:=Zz h h1
 simp only[hY,bD,List.getElem_map,List.getElem_range]
 exact this
theorem Y6{f:Int}{v:List Int}(h:aH f v=true){k:Nat}(hk:k<v.length):gp (af f) v (bk (af f) (b8 f (aE v.length))) k=gp (af f) v (b8 f (aE v.length)) ((v.length-k)%v.length):=by
 obtain⟨hm,he,K,hK,u_,hlen,iu⟩:=dB h
 have Uv:=YP hm iu
 have hi:=NW hm iu
 rw[hK]
 exact Zg (by omega) (by rw[hlen];exact Uv.full) hi hk
theorem Ww{f:Int}{a b:List Int}(ha:aH f a=true)(ki:a.length=b.length){k:Nat}(hk:k<a.length) :
 Hi (af f) (b8 f (aE a.length)) (bk (af f) a.length) (lx (af f) (bD (af f) a (b8 f (aE a.length)) a.length) (bD (af f) b (b8 f (aE b.length)) b.length)) k=CH (af f) a b k:=by
 obtain⟨hm,he,K,hK,u_,hlen,iu⟩:=dB ha
 have Uv:=YP hm iu
 have tz:(lx (af f) (bD (af f) a (b8 f (aE a.length)) a.length) (bD (af f) b (b8 f (aE b.length)) b.length)).length=a.length:=by unfold lx;rw[eB,fT]
 have:=Zd Uv hlen (by omega:b.length=2^K) (Q9 hm K) (k:=k) (by omega)
 unfold Hi
 rw[tz,<-ki,hK,hlen]
 exact this
end Go.SF
