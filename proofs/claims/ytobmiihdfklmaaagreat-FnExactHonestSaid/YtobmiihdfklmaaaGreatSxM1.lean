/- What is owed of the code of shared functions. No condition. -/
import Derived.Test.YtobmiihdfklmaaaGreatSxC
set_option linter.unusedVariables false
set_option linter.unusedSimpArgs false
open Go.IntKind (i64 u8)
namespace Go.SF
open Go.SX Go
theorem Mm :
 ∀(d:Ty.den ah×bU [ah,ah]),Ty.wf ah d.1/\Ty.wf ah d.2.1/\Ty.wf ah d.2.2->True->(decide (d.2.1<=d.1)=true->decide (d.1<=d.2.2)=(decide (d.2.1<=d.1)&&decide (d.1<=d.2.2)))/\(decide (d.2.1<=d.1)=false->false=(decide (d.2.1<=d.1)&&decide (d.1<=d.2.2))):=by
  intro d _ _
  obtain⟨a,b,c⟩:=d
  grind
set_option maxRecDepth 10000
theorem JM :
 ∀(d:List Int×List Int),Ty.wf (Ty.sl ah) d.1/\Ty.wf (Ty.sl ah) d.2->True->((!decide ((d.1.length:Int)=(d.2.length:Int)))=true->false=decide (d.1=d.2))/\((!decide ((d.1.length:Int)=(d.2.length:Int)))=false->((0:Nat)<=d.1.length/\d.1.length=d.2.length/\List.take (0:Nat) d.1=List.take (0:Nat) d.2)/\(d.1=d.1/\d.2=d.2/\(0:Int)=(↑(0:Nat):Int))/\∀(x:Nat),x<=d.1.length/\d.1.length=d.2.length/\List.take x d.1=List.take x d.2->(decide ((x:Int)<(d.1.length:Int))=true->((0:Int)<=(x:Int)/\(x:Int)<(d.1.length:Int))/\((0:Int)<=(x:Int)/\(x:Int)<(d.2.length:Int))/\((!decide (d.1.getD ((x:Int).toNat) (0:Int)=d.2.getD ((x:Int).toNat) (0:Int)))=true->false=decide (d.1=d.2))/\((!decide (d.1.getD ((x:Int).toNat) (0:Int)=d.2.getD ((x:Int).toNat) (0:Int)))=false->∃(x':Nat),(x'<=d.1.length/\d.1.length=d.2.length/\List.take x' d.1=List.take x' d.2)/\d.1.length-x'<d.1.length-x/\d.1=d.1/\d.2=d.2/\i64.wrap ((x:Int)+(1:Int))=(x':Int)))/\(decide ((x:Int)<(d.1.length:Int))=false->true=decide (d.1=d.2))):=by
  intro (d:List Int×List Int) hw hp
  obtain⟨xs,ys⟩:=d
  have hl:xs.length<=9223372036854775807:=hw.1.1
  simp only[exists_const,forall_const,decide_eq_true_eq,decide_eq_false_iff_not,beq_iff_eq,sxS]
  refine⟨fun h=>?_,fun h=>⟨⟨by omega,by omega,rfl⟩,rfl,fun x ⟨h1,h2,h0⟩=>⟨fun h3=>?_,fun h3=>?_⟩⟩⟩
  ·exact (decide_eq_false (fun e=>h (by rw[e]))).symm
  ·have h4:x<xs.length:=by omega
   obtain⟨t1,t2⟩:=tg (z:=(0:Int)) h2 h4 h0
   rw[aC (by omega)]
   exact⟨⟨by omega,by omega⟩,⟨by omega,by omega⟩,fun h5=>(decide_eq_false (fun e=>h5 (t2 e))).symm,fun h5=>⟨x+1,⟨by omega,h2,t1.2 h5⟩,by omega,rfl⟩⟩
  ·have h4:x=xs.length:=by omega
   subst h4
   have:xs=ys:=by rw[List.take_length,h2,List.take_length] at h0;exact h0
   exact (decide_eq_true this).symm
set_option maxRecDepth 10000
theorem eV{f:Int}(h:0<=f/\f<9):f=0\/f=1\/f=2\/f=3\/f=4\/f=5\/f=6\/f=7\/f=8:=by omega
theorem lq{f:Int}(h:¬(0<=f/\f<9)):al f=((0,0,0),false):=by unfold al;rw[if_neg h]
theorem kp{f:Int}(h:¬(0<=f/\f<9)):ab f=0:=by unfold ab;rw[lq h]
theorem Np{f:Int}(h:¬(0<=f/\f<9)):cE f = -1:=by unfold cE;rw[lq h];rfl
theorem gL{f:Int}(h:0<=f/\f<9):17<=ab f/\ab f<=1004535809/\4<=cE f/\cE f<=26:=by
 rcases eV h with rfl|rfl|rfl|rfl|rfl|rfl|rfl|rfl|rfl<;>decide
theorem et{f:Int}:(al f).2=true↔0<=f/\f<9:=by
 unfold al
 split
 case isTrue h=>exact⟨fun _=>h,fun _=>rfl⟩
 case isFalse h=>exact⟨fun e=>(by cases e),fun e=>absurd e h⟩
theorem JC:∀ f:Fin 9,∀ x:Fin 27,(x.val:Int)<=cE (f.val:Int)->(((ab (f.val:Int)-1)/2^x.val).tmod 2=0↔(x.val:Int)<cE (f.val:Int)):=by decide +kernel
theorem H7{f:Int}(h:0<=f/\f<9){x:Nat}(hx:(x:Int)<=cE f):((ab f-1)/2^x).tmod 2=0↔(x:Int)<cE f:=by
 have hb:=gL h
 have:=JC ⟨f.toNat,by omega⟩ ⟨x,by omega⟩
 simp only[Int.toNat_of_nonneg h.1] at this
 exact this hx
theorem MI{m:Int}(h0:0<=m)(x:Nat):(m/2^x).tdiv 2=m/2^(x+1):=by
 have hp:(0:Int)<=2^x:=Int.le_of_lt (Int.pow_pos (by omega))
 rw[Int.tdiv_eq_ediv_of_nonneg (Int.ediv_nonneg h0 hp),Int.ediv_ediv_of_nonneg hp,Int.pow_succ]
theorem DX(n:Int):∀(m k:Nat),10-m<=k->m<=10->k<=9->n=2^k->(∀ j,10-m<=j->j<k->n≠2^j)->mT n m=(k:Int)
 | 0,k,h1,_,h2,_,_=>by omega
 | m+1,k,h1,hm,h2,h3,h4=>by
   unfold mT
   by_cases e:k=9-m
   ·subst e
    rw[if_pos h3]
   ·rw[if_neg (h4 (9-m) (by omega) (by omega))]
    exact DX n m k (by omega) (by omega) h2 h3 (fun j a b=>h4 j (by omega) b)
theorem yR(n:Int):∀(m:Nat),m<=10->(∀ j,10-m<=j->j<10->n≠2^j)->mT n m = -1
 | 0,_,_=>rfl
 | m+1,hm,h=>by
   unfold mT
   rw[if_neg (h (9-m) (by omega) (by omega))]
   exact yR n m (by omega) (fun j a b=>h j (by omega) b)
theorem Lm{n:Int}{k:Nat}(h:nv n k)(hk:k<=9)(e:n=2^k):ax n=(k:Int):=DX n 10 k (by omega) (by omega) hk e (fun j _ b=>h.2 j b)
theorem DZ{n:Int}{k:Nat}(h:nv n k)(hk:¬k<=9):ax n = -1:=yR n 10 (by omega) (fun j _ b=>h.2 j (by omega))
theorem DY{n:Int}{k:Nat}(h:nv n k)(hk:k<=9)(e:¬n=2^k):nv n (k+1):=by
 refine⟨by omega,fun j hj=>?_⟩
 by_cases ej:j=k
 ·subst ej;exact e
 ·exact h.2 j (by omega)
theorem sN{x:Nat}(h:x<=62):bb .i64 1 (x:Int)=2^x:=by
 unfold bb
 rw[Int.toNat_natCast,show min x i64.bits=x by show min x 64=x;omega,Int.one_mul]
 have h1:(2:Nat)^x<=2^62:=Nat.pow_le_pow_right (by omega) h
 have h5:((2^x:Nat):Int)=(2:Int)^x:=Int.natCast_pow 2 x
 have h6:((2^x:Nat):Int)<=4611686018427387904:=by
  have h3:(2:Nat)^62=4611686018427387904:=by decide
  rw[h3] at h1
  exact Int.ofNat_le.2 h1
 have h7:0<=((2^x:Nat):Int):=Int.natCast_nonneg _
 refine wrap_small ?_
 rw[<-h5]
 generalize ((2^x:Nat):Int)=z at *
 omega
theorem vm:∀ x:Fin 64,IntKind.u64.wrap (x.val:Int)=(x.val:Int):=by decide +kernel
theorem mB{α:Type}{xs:List α}{x:Nat}{z:α}(h:x<xs.length):xs.take x++[xs.getD x z]=xs.take (x+1):=by
 rw[List.take_add_one,List.getElem?_eq_getElem h,List.getD_eq_getElem?_getD,List.getElem?_eq_getElem h];rfl
theorem yq{p:Int}{xs:List Int}{x:Nat}(hx:x<xs.length)(h:ak p (xs.take x)=true)(h1:0<=xs.getD x 0/\xs.getD x 0<=p-1):ak p (xs.take (x+1))=true:=by
 unfold ak at *
 rw[decide_eq_true_eq] at *
 rw[<-mB (z:=(0:Int)) hx]
 intro y hy
 rcases List.mem_append.1 hy with hy|hy
 ·exact h y hy
 ·rw[List.mem_singleton.1 hy];exact h1
theorem xh{p:Int}{xs:List Int}{x:Nat}(hx:x<xs.length)(h1:¬(0<=xs.getD x 0/\xs.getD x 0<=p-1)):false=ak p xs:=by
 unfold ak
 refine (decide_eq_false (fun h=>h1 ?_)).symm
 rw[List.getD_eq_getElem?_getD,List.getElem?_eq_getElem hx]
 exact h _ (List.getElem_mem hx)
theorem A4{p:Int}{xs:List Int}{x:Nat}(h:xP p xs x)(hx:¬x<xs.length):true=ak p xs:=by
 have h2:=h.2
 rw[List.take_of_length_le (by omega)] at h2
 exact h2.symm
theorem Gx :
 ∀(d:Int),Ty.wf ah d->True->(List.length [((17:Int),(3:Int),(4:Int)),((97:Int),(5:Int),(5:Int)),((193:Int),(5:Int),(6:Int)),((257:Int),(3:Int),(8:Int)),((7681:Int),(17:Int),(9:Int)),((12289:Int),(11:Int),(12:Int)),((998244353:Int),(3:Int),(23:Int)),((469762049:Int),(3:Int),(26:Int)),((1004535809:Int),(3:Int),(21:Int))]=List.length (List.replicate (9:Nat) ((0:Int),(0:Int),(0:Int)))/\List.length [((17:Int),(3:Int),(4:Int)),((97:Int),(5:Int),(5:Int)),((193:Int),(5:Int),(6:Int)),((257:Int),(3:Int),(8:Int)),((7681:Int),(17:Int),(9:Int)),((12289:Int),(11:Int),(12:Int)),((998244353:Int),(3:Int),(23:Int)),((469762049:Int),(3:Int),(26:Int)),((1004535809:Int),(3:Int),(21:Int))]*(3:Nat)=(27:Nat))/\(decide (d<(0:Int))=true->(((0:Int),(0:Int),(0:Int)),false)=al d)/\(decide (d<(0:Int))=false->(decide ((9:Int)<=d)=true->(((0:Int),(0:Int),(0:Int)),false)=al d)/\(decide ((9:Int)<=d)=false->((0:Int)<=d/\d<(↑(9:Nat):Int)/\(0:Nat)+(d.toNat+(1:Nat))*(3/3:Nat)<=List.length [((17:Int),(3:Int),(4:Int)),((97:Int),(5:Int),(5:Int)),((193:Int),(5:Int),(6:Int)),((257:Int),(3:Int),(8:Int)),((7681:Int),(17:Int),(9:Int)),((12289:Int),(11:Int),(12:Int)),((998244353:Int),(3:Int),(23:Int)),((469762049:Int),(3:Int),(26:Int)),((1004535809:Int),(3:Int),(21:Int))])/\((Prod.fst (List.getD [((17:Int),(3:Int),(4:Int)),((97:Int),(5:Int),(5:Int)),((193:Int),(5:Int),(6:Int)),((257:Int),(3:Int),(8:Int)),((7681:Int),(17:Int),(9:Int)),((12289:Int),(11:Int),(12:Int)),((998244353:Int),(3:Int),(23:Int)),((469762049:Int),(3:Int),(26:Int)),((1004535809:Int),(3:Int),(21:Int))] ((0:Nat)+d.toNat*(3/3:Nat)) ((0:Int),(0:Int),(0:Int))),(List.getD [((17:Int),(3:Int),(4:Int)),((97:Int),(5:Int),(5:Int)),((193:Int),(5:Int),(6:Int)),((257:Int),(3:Int),(8:Int)),((7681:Int),(17:Int),(9:Int)),((12289:Int),(11:Int),(12:Int)),((998244353:Int),(3:Int),(23:Int)),((469762049:Int),(3:Int),(26:Int)),((1004535809:Int),(3:Int),(21:Int))] ((0:Nat)+d.toNat*(3/3:Nat)) ((0:Int),(0:Int),(0:Int))).2.1,(List.getD [((17:Int),(3:Int),(4:Int)),((97:Int),(5:Int),(5:Int)),((193:Int),(5:Int),(6:Int)),((257:Int),(3:Int),(8:Int)),((7681:Int),(17:Int),(9:Int)),((12289:Int),(11:Int),(12:Int)),((998244353:Int),(3:Int),(23:Int)),((469762049:Int),(3:Int),(26:Int)),((1004535809:Int),(3:Int),(21:Int))] ((0:Nat)+d.toNat*(3/3:Nat)) ((0:Int),(0:Int),(0:Int))).2.2),true)=al d)):=by
  intro (f:Int) _ _
  simp only[exists_const,forall_const,decide_eq_true_eq,decide_eq_false_iff_not,beq_iff_eq,sxS]
  refine⟨⟨rfl,rfl⟩,fun h=>(lq (by omega)).symm,fun h=>⟨fun h1=>(lq (by omega)).symm,fun h1=>⟨⟨by omega,by omega,?_⟩,?_⟩⟩⟩
  ·simp only[List.length_cons,List.length_nil];omega
  ·unfold al Dl
   rw[if_pos (by omega),show 0+f.toNat*(3/3)=f.toNat by omega]
theorem G0 :
 ∀(d:Int),Ty.wf ah d->True->(decide (d=(0:Int))=true->(17:Int)=ab d)/\(decide (d=(0:Int))=false->(decide (d=(1:Int))=true->(97:Int)=ab d)/\(decide (d=(1:Int))=false->(decide (d=(2:Int))=true->(193:Int)=ab d)/\(decide (d=(2:Int))=false->(decide (d=(3:Int))=true->(257:Int)=ab d)/\(decide (d=(3:Int))=false->(decide (d=(4:Int))=true->(7681:Int)=ab d)/\(decide (d=(4:Int))=false->(decide (d=(5:Int))=true->(12289:Int)=ab d)/\(decide (d=(5:Int))=false->(decide (d=(6:Int))=true->(998244353:Int)=ab d)/\(decide (d=(6:Int))=false->(decide (d=(7:Int))=true->(469762049:Int)=ab d)/\(decide (d=(7:Int))=false->(decide (d=(8:Int))=true->(1004535809:Int)=ab d)/\(decide (d=(8:Int))=false->(0:Int)=ab d))))))))):=by
  intro (f:Int) _ _
  simp only[exists_const,forall_const,decide_eq_true_eq,decide_eq_false_iff_not,beq_iff_eq,sxS]
  by_cases h:0<=f/\f<9
  ·rcases eV h with rfl|rfl|rfl|rfl|rfl|rfl|rfl|rfl|rfl<;>decide
  ·rw[kp h];omega
theorem FF :
 ∀(d:Int),Ty.wf ah d->True->True/\(Ty.wf ah (ab d)->(decide (ab d=(0:Int))=true->(-1:Int)=cE d)/\(decide (ab d=(0:Int))=false->(↑(0:Nat):Int)<=cE d/\(d=d/\ae (0:Int)/\ae (ab d)/\(0:Int)=(↑(0:Nat):Int)/\i64.wrap (ab d-(1:Int))=(ab d-(1:Int))/(2:Int)^(0:Nat))/\∀(x:Nat),(x:Int)<=cE d->(2:Int)≠(0:Int)/\(decide (Int.tmod ((ab d-(1:Int))/(2:Int)^x) (2:Int)=(0:Int))=true->(2:Int)≠(0:Int)/\∃(x':Nat),(x':Int)<=cE d/\Int.toNat (cE d)-x'<Int.toNat (cE d)-x/\d=d/\ae (0:Int)/\ae (ab d)/\i64.wrap ((x:Int)+(1:Int))=(x':Int)/\i64.wrap (Int.tdiv ((ab d-(1:Int))/(2:Int)^x) (2:Int))=(ab d-(1:Int))/(2:Int)^x')/\(decide (Int.tmod ((ab d-(1:Int))/(2:Int)^x) (2:Int)=(0:Int))=false->(x:Int)=cE d))):=by
  intro (f:Int) _ _
  simp only[exists_const,forall_const,decide_eq_true_eq,decide_eq_false_iff_not,beq_iff_eq,sxS]
  intro _
  by_cases h:0<=f/\f<9
  ·have hb:=gL h
   have HE:(0:Int)<=ab f-1:=by omega
   refine⟨fun e=>by omega,fun _=>⟨by omega,⟨rfl,by rw[wrap_small (by omega)];simp⟩,fun x hx=>⟨by omega,fun e=>?_,fun e=>?_⟩⟩⟩
   ·have h1:=(H7 h hx).1 e
    refine⟨by omega,x+1,by omega,by omega,by rw[wrap_small (by omega)];omega,?_⟩
    rw[MI HE]
    have hp:(0:Int)<=2^(x+1):=Int.le_of_lt (Int.pow_pos (by omega))
    have h2:=Int.ediv_nonneg HE hp
    have h3:=Int.ediv_le_self (2^(x+1)) HE
    exact wrap_small (by omega)
   ·have h1:¬(x:Int)<cE f:=fun aK=>e ((H7 h hx).2 aK)
    omega
  ·have h1:=kp h
   have h2:=Np h
   exact⟨fun _=>h2.symm,fun e=>absurd h1 e⟩
theorem Mk :
 ∀(d:Int),Ty.wf ah d->True->nv d (0:Nat)/\(d=d/\(0:Int)=(↑(0:Nat):Int))/\∀(x:Nat),nv d x->(decide ((x:Int)<=(9:Int))=true->(0:Int)<=IntKind.wrap IntKind.u64 (x:Int)/\(decide (d=bb i64 (1:Int) (IntKind.wrap IntKind.u64 (x:Int)))=true->(x:Int)=ax d)/\(decide (d=bb i64 (1:Int) (IntKind.wrap IntKind.u64 (x:Int)))=false->∃(x':Nat),nv d x'/\(10:Nat)-x'<(10:Nat)-x/\d=d/\i64.wrap ((x:Int)+(1:Int))=(x':Int)))/\(decide ((x:Int)<=(9:Int))=false->(-1:Int)=ax d):=by
  intro (n:Int) _ _
  simp only[exists_const,forall_const,decide_eq_true_eq,decide_eq_false_iff_not,beq_iff_eq,sxS]
  refine⟨⟨by omega,fun j hj=>by omega⟩,rfl,fun x hx=>⟨fun h=>?_,fun h=>(DZ hx (by omega)).symm⟩⟩
  have h9:x<=9:=by omega
  have hw:IntKind.u64.wrap (x:Int)=(x:Int):=vm ⟨x,by omega⟩
  rw[hw,sN (by omega)]
  exact⟨by omega,fun e=>(Lm hx h9 e).symm,fun e=>⟨x+1,DY hx h9 e,by omega,wrap_small (by omega)⟩⟩
theorem Mf :
 ∀(d:Int),Ty.wf ah d->True->nv d (0:Nat)/\(d=d/\(0:Int)=(↑(0:Nat):Int))/\∀(x:Nat),nv d x->(decide ((x:Int)<(10:Int))=true->(0:Int)<=(x:Int)/\(decide (d=bb i64 (1:Int) (x:Int))=true->(x:Int)=ax d)/\(decide (d=bb i64 (1:Int) (x:Int))=false->∃(x':Nat),nv d x'/\(10:Nat)-x'<(10:Nat)-x/\d=d/\i64.wrap ((x:Int)+(1:Int))=(x':Int)))/\(decide ((x:Int)<(10:Int))=false->(-1:Int)=ax d):=by
  intro (n:Int) _ _
  simp only[exists_const,forall_const,decide_eq_true_eq,decide_eq_false_iff_not,beq_iff_eq,sxS]
  refine⟨⟨by omega,fun j hj=>by omega⟩,rfl,fun x hx=>⟨fun h=>?_,fun h=>(DZ hx (by omega)).symm⟩⟩
  have h9:x<=9:=by omega
  rw[sN (by omega)]
  exact⟨by omega,fun e=>(Lm hx h9 e).symm,fun e=>⟨x+1,DY hx h9 e,by omega,wrap_small (by omega)⟩⟩
theorem zF :
 ∀(d:Int×List Int),Ty.wf ah d.1/\Ty.wf ai d.2->True->True/\(Ty.wf ah (ab d.1)->(decide (ab d.1=(0:Int))=true->false=aw d.1 d.2)/\(decide (ab d.1=(0:Int))=false->xP (ab d.1) d.2 (0:Nat)/\(d.1=d.1/\d.2=d.2/\ae (ab d.1)/\(0:Int)=(↑(0:Nat):Int))/\∀(x:Nat),xP (ab d.1) d.2 x->(decide ((x:Int)<(d.2.length:Int))=true->((0:Int)<=(x:Int)/\(x:Int)<(d.2.length:Int))/\True/\((!(decide ((0:Int)<=d.2.getD ((x:Int).toNat) (0:Int))&&decide (d.2.getD ((x:Int).toNat) (0:Int)<=i64.wrap (ab d.1-(1:Int)))))=true->false=aw d.1 d.2)/\((!(decide ((0:Int)<=d.2.getD ((x:Int).toNat) (0:Int))&&decide (d.2.getD ((x:Int).toNat) (0:Int)<=i64.wrap (ab d.1-(1:Int)))))=false->∃(x':Nat),xP (ab d.1) d.2 x'/\d.2.length-x'<d.2.length-x/\d.1=d.1/\d.2=d.2/\ae (ab d.1)/\i64.wrap ((x:Int)+(1:Int))=(x':Int)))/\(decide ((x:Int)<(d.2.length:Int))=false->true=aw d.1 d.2))):=by
  intro (d:Int×List Int) hw _
  obtain⟨f,xs⟩:=d
  have hl:xs.length<=9223372036854775807:=hw.2.1
  simp only[exists_const,forall_const,decide_eq_true_eq,decide_eq_false_iff_not,beq_iff_eq,sxS]
  intro _
  have hb:ab f=0\/(17<=ab f/\ab f<=1004535809):=by
   by_cases h:0<=f/\f<9
   ·have:=gL h;omega
   ·exact .inl (kp h)
  refine⟨fun e=>by unfold aw;rw[decide_eq_false (by simpa using e)];rfl,fun e=>?_⟩
  have hs:aw f xs=ak (ab f) xs:=by unfold aw;rw[decide_eq_true e];rfl
  rw[hs,wrap_small (n:=ab f-1) (by omega)]
  refine⟨⟨by omega,by simp[ak]⟩,rfl,fun x hx=>⟨fun h=>⟨⟨by omega,by omega⟩,fun h1=>?_,fun h1=>?_⟩,fun h=>A4 hx (by omega)⟩⟩
  ·refine xh (x:=x) (by omega) (fun hh=>?_)
   rw[decide_eq_true hh.1,decide_eq_true hh.2] at h1
   cases h1
  ·simp only[Bool.and_eq_true,decide_eq_true_eq] at h1
   exact⟨x+1,⟨by omega,yq (by omega) hx.2 h1⟩,by omega,aC (by omega)⟩
theorem zz :
 ∀(d:(Int×Int×Int)×List Int),Ty.wf bm d.1/\Ty.wf ai d.2->True->xP d.1.1 d.2 (0:Nat)/\(((ae d.1.1/\ae d.1.2.1/\ae d.1.2.2)/\d.2=d.2/\d.2=d.2/\ae (d.2.length:Int)/\(0:Int)=(↑(0:Nat):Int))/\ae d.1.1/\ae d.1.2.1/\ae d.1.2.2)/\∀(x:Nat),xP d.1.1 d.2 x->(decide ((x:Int)<(d.2.length:Int))=true->((0:Int)<=(x:Int)/\(x:Int)<(d.2.length:Int))/\(decide (d.2.getD ((x:Int).toNat) (0:Int)<(0:Int))=true->false=ak d.1.1 d.2)/\(decide (d.2.getD ((x:Int).toNat) (0:Int)<(0:Int))=false->(decide (d.1.1<=d.2.getD ((x:Int).toNat) (0:Int))=true->false=ak d.1.1 d.2)/\(decide (d.1.1<=d.2.getD ((x:Int).toNat) (0:Int))=false->∃(x':Nat),xP d.1.1 d.2 x'/\d.2.length-x'<d.2.length-x/\((ae d.1.1/\ae d.1.2.1/\ae d.1.2.2)/\d.2=d.2/\d.2=d.2/\ae (d.2.length:Int)/\i64.wrap ((x:Int)+(1:Int))=(x':Int))/\ae d.1.1/\ae d.1.2.1/\ae d.1.2.2)))/\(decide ((x:Int)<(d.2.length:Int))=false->true=ak d.1.1 d.2):=by
  intro (d:Fd×List Int) hw _
  obtain⟨⟨p,g,t⟩,xs⟩:=d
  have hl:xs.length<=9223372036854775807:=hw.2.1
  simp only[exists_const,forall_const,decide_eq_true_eq,decide_eq_false_iff_not,beq_iff_eq,sxS]
  refine⟨⟨by omega,by simp[ak]⟩,rfl,fun x hx=>⟨fun h=>⟨⟨by omega,by omega⟩,fun h1=>xh (x:=x) (by omega) (fun hh=>by omega),fun h1=>⟨fun h2=>xh (x:=x) (by omega) (fun hh=>by omega),fun h2=>?_⟩⟩,fun h=>A4 hx (by omega)⟩⟩
  exact⟨x+1,⟨by omega,yq (by omega) hx.2 (by omega)⟩,by omega,aC (by omega)⟩
theorem FG :
 ∀(d:Int×List Int),Ty.wf ah d.1/\Ty.wf ai d.2->True->True/\(Ty.wf ah (ax (d.2.length:Int))->(decide ((0:Int)<=ax (d.2.length:Int))=true->True/\(Ty.wf ah (cE d.1)->(decide (ax (d.2.length:Int)<=cE d.1)=true->True/\aw d.1 d.2=aA d.1 d.2)/\(decide (ax (d.2.length:Int)<=cE d.1)=false->false=aA d.1 d.2)))/\(decide ((0:Int)<=ax (d.2.length:Int))=false->false=aA d.1 d.2)):=by
  intro (d:Int×List Int) hw _
  obtain⟨f,xs⟩:=d
  simp only[exists_const,forall_const,decide_eq_true_eq,decide_eq_false_iff_not,beq_iff_eq,sxS]
  intro _
  unfold aA
  refine⟨fun h _=>⟨fun h1=>by rw[decide_eq_true h,decide_eq_true h1];rfl,fun h1=>by rw[decide_eq_false h1,Bool.and_false];rfl⟩,fun h=>by rw[decide_eq_false h];rfl⟩
theorem zD :
 ∀(d:Int×List (List Int)),Ty.wf ah d.1/\Ty.wf (Ty.sl ai) d.2->d.2.length=(1:Nat)->True/\(Ty.wf bm (al d.1).1/\Ty.wf Ty.bool (al d.1).2->((!(al d.1).2)=true->(((0:Int),(0:Int),(0:Int)),false)=b_ d.1 (d.2.getD (0:Nat) []))/\((!(al d.1).2)=false->((0:Nat)<=(1:Nat)/\((0:Nat)=(1:Nat)->aA d.1 (d.2.getD (0:Nat) [])=true))/\((d.1=d.1/\d.2=d.2/\ae ((al d.1).2)/\d.2=d.2/\ae (d.2.length:Int)/\(0:Int)=(↑(0:Nat):Int))/\(ae (0:Int)/\ae (0:Int)/\ae (0:Int))/\ae ((al d.1).1.1)/\ae ((al d.1).1.2.1)/\ae ((al d.1).1.2.2))/\∀(x:Nat),x<=(1:Nat)/\(x=(1:Nat)->aA d.1 (d.2.getD (0:Nat) [])=true)->(decide ((x:Int)<(d.2.length:Int))=true->((0:Int)<=(x:Int)/\(x:Int)<(d.2.length:Int))/\True/\(Ty.wf ah (ax (↑(List.length (d.2.getD ((x:Int).toNat) [])):Int))->(decide (ax (↑(List.length (d.2.getD ((x:Int).toNat) [])):Int)<(0:Int))=true->(((0:Int),(0:Int),(0:Int)),false)=b_ d.1 (d.2.getD (0:Nat) []))/\(decide (ax (↑(List.length (d.2.getD ((x:Int).toNat) [])):Int)<(0:Int))=false->(decide (Prod.snd (al d.1).1.2<ax (↑(List.length (d.2.getD ((x:Int).toNat) [])):Int))=true->(((0:Int),(0:Int),(0:Int)),false)=b_ d.1 (d.2.getD (0:Nat) []))/\(decide (Prod.snd (al d.1).1.2<ax (↑(List.length (d.2.getD ((x:Int).toNat) [])):Int))=false->True/\((!ak (al d.1).1.1 (d.2.getD ((x:Int).toNat) []))=true->(((0:Int),(0:Int),(0:Int)),false)=b_ d.1 (d.2.getD (0:Nat) []))/\((!ak (al d.1).1.1 (d.2.getD ((x:Int).toNat) []))=false->((0:Int)<=(0:Int)/\(0:Int)<(d.2.length:Int))/\((!decide ((↑(List.length (d.2.getD ((x:Int).toNat) [])):Int)=(↑(List.length (d.2.getD ((0:Int).toNat) [])):Int)))=true->(((0:Int),(0:Int),(0:Int)),false)=b_ d.1 (d.2.getD (0:Nat) []))/\((!decide ((↑(List.length (d.2.getD ((x:Int).toNat) [])):Int)=(↑(List.length (d.2.getD ((0:Int).toNat) [])):Int)))=false->∃(x':Nat),(x'<=(1:Nat)/\(x'=(1:Nat)->aA d.1 (d.2.getD (0:Nat) [])=true))/\(1:Nat)-x'<(1:Nat)-x/\(d.1=d.1/\d.2=d.2/\ae ((al d.1).2)/\d.2=d.2/\ae (d.2.length:Int)/\i64.wrap ((x:Int)+(1:Int))=(x':Int))/\(ae (0:Int)/\ae (0:Int)/\ae (0:Int))/\ae ((al d.1).1.1)/\ae ((al d.1).1.2.1)/\ae ((al d.1).1.2.2)))))))/\(decide ((x:Int)<(d.2.length:Int))=false->((Prod.fst (al d.1).1,(al d.1).1.2.1,(al d.1).1.2.2),true)=b_ d.1 (d.2.getD (0:Nat) [])))):=by
  intro (d:Int×List (List Int)) hw hp
  obtain⟨f,vs⟩:=d
  replace hp:vs.length=1:=hp
  obtain⟨v,rfl⟩:∃ v,vs=[v]:=by
   match vs,hp with
   | [v],_=>exact⟨v,rfl⟩
  simp only[exists_const,forall_const,decide_eq_true_eq,decide_eq_false_iff_not,beq_iff_eq,sxS]
  intro _
  refine⟨fun h=>?_,fun h=>?_⟩
  ·have hn:¬(0<=f/\f<9):=fun hh=>by rw[et.2 hh] at h;cases h
   unfold b_ aA aw
   rw[kp hn]
   simp
  ·have hf:=et.1 h
   have hb:=gL hf
   have h2:cE f=(al f).1.2.2:=by unfold cE;rw[if_pos h]
   have hs:aw f v=ak (al f).1.1 v:=by unfold aw;rw[decide_eq_true (show ab f≠0 by omega)];rfl
   have hv:aA f v=(decide (0<=ax v.length)&&decide (ax v.length<=(al f).1.2.2)&&ak (al f).1.1 v):=by unfold aA;rw[h2,hs]
   have iV:∀ b,aA f v=b->b=false->((0,0,0),false)=b_ f v:=fun b h1 h3=>by unfold b_;rw[h1,h3];rfl
   refine⟨⟨by omega,fun h=>by omega⟩,rfl,fun x hx=>⟨fun aK=>?_,fun dU=>?_⟩⟩
   ·have Bd:x=0:=by simp at aK;omega
    subst Bd
    simp only[List.getD_cons_zero,List.length_cons,List.length_nil,Int.toNat_zero] at *
    refine⟨⟨by omega,by omega⟩,fun _=>⟨fun h3=>iV _ hv ?_,fun h3=>⟨fun h4=>iV _ hv ?_,fun h4=>⟨fun h5=>iV _ hv ?_,fun h5=>⟨⟨by omega,by omega⟩,fun h6=>absurd trivial h6,fun _=>⟨1,⟨by omega,fun _=>?_⟩,by omega,rfl⟩⟩⟩⟩⟩⟩
    ·rw[decide_eq_false (by omega)];rfl
    ·rw[decide_eq_false (show ¬ax v.length<=(al f).1.2.2 by omega),Bool.and_false];rfl
    ·rw[h5,Bool.and_false]
    ·rw[hv,decide_eq_true (show 0<=ax v.length by omega),decide_eq_true (show ax v.length<=(al f).1.2.2 by omega),h5];rfl
   ·have nf:x=1:=by simp at dU;omega
    have:=hx.2 nf
    simp only[List.getD_cons_zero] at this ⊢
    unfold b_
    rw[if_pos this]
set_option maxRecDepth 10000
theorem cU{α:Type}(h:Nat)(f:Nat->α):((List.range h).map f).length=h:=by simp
theorem Ra{α:Type}{h:Nat}{f g:Nat->α}(e:∀ b,b<h->f b=g b):(List.range h).map f=(List.range h).map g :=
 List.map_congr_left (fun b hb=>e b (List.mem_range.1 hb))
theorem Pc{α:Type}{h c:Nat}{f g:Nat->α}{v:α}(hv:v=g c)(e:∀ b,b<h->b≠c->f b=g b):((List.range h).map f).set c v=(List.range h).map g:=by
 apply List.ext_getElem
 ·simp
 ·intro i h1 h2
  rw[cU] at h2
  rw[List.getElem_set]
  by_cases hc:c=i
  ·subst hc;rw[if_pos rfl,hv];simp
  ·rw[if_neg hc];simp only[List.getElem_map,List.getElem_range];exact e i h2 (fun hh=>hc hh.symm)
set_option maxRecDepth 10000
set_option maxRecDepth 10000
theorem FM(f:Int)(xs:List Int):(b_ f xs).2=aA f xs:=by
 unfold b_
 split
 case isTrue h=>exact h.symm
 case isFalse h=>exact (Bool.not_eq_true _▸h:aA f xs=false).symm
theorem G3 :
 ∀(d:List Int),Ty.wf ai d->d.length<=(1048576:Nat)->(0:Nat)<=d.length/\((d=d/\aQ/\(0:Int)=(↑(0:Nat):Int))/\[]=List.take (0:Nat) d)/\∀(x:Nat),x<=d.length->(decide ((x:Int)<(d.length:Int))=true->((0:Int)<=(x:Int)/\(x:Int)<(d.length:Int))/\(List.length (List.take x d)+List.length [d.getD ((x:Int).toNat) (0:Int)])*(8:Nat)<=(140737488355328:Nat)/\∃(x':Nat),x'<=d.length/\d.length-x'<d.length-x/\(d=d/\aQ/\i64.wrap ((x:Int)+(1:Int))=(x':Int))/\List.take x d++[d.getD ((x:Int).toNat) (0:Int)]=List.take x' d)/\(decide ((x:Int)<(d.length:Int))=false->List.take x d=d):=by
  intro (d:List Int) hw (hp:d.length<=1048576)
  simp only[exists_const,forall_const,decide_eq_true_eq,decide_eq_false_iff_not,beq_iff_eq,sxS]
  refine⟨Nat.zero_le _,⟨rfl,rfl⟩,fun x hx=>⟨fun h=>⟨⟨by omega,by omega⟩,?_,x+1,by omega,by omega,aC (by omega),mB (by omega)⟩,fun h=>?_⟩⟩
  ·simp;omega
  ·rw[List.take_of_length_le (by omega)]
theorem JN :
 ∀(d:List Int×Int),Ty.wf ai d.1/\Ty.wf ah d.2->True->(decide (i64.wrap (d.2-(d.1.length:Int))<(0:Int))=true->(-1:Int)=dV d.1.length d.2)/\(decide (i64.wrap (d.2-(d.1.length:Int))<(0:Int))=false->i64.wrap (d.2-(d.1.length:Int))=dV d.1.length d.2):=by
  intro d hw _
  obtain⟨xs,l⟩:=d
  simp only[dV,il]
  grind
theorem JO :
 ∀(d:List Int),Ty.wf ai d->d.length<=(1048576:Nat)->((0:Int)<=(d.length:Int)/\(d.length:Int)<=(d.length:Int)/\(d.length:Int)*(↑(8:Nat):Int)<=(140737488355328:Int))/\(0:Nat)<=d.length/\((d=d/\aQ/\(0:Int)=(↑(0:Nat):Int))/\List.replicate ((d.length:Int).toNat) (0:Int)=List.take (0:Nat) d++List.replicate (d.length-(0:Nat)) (0:Int))/\∀(x:Nat),x<=d.length->(decide ((x:Int)<(d.length:Int))=true->((0:Int)<=(x:Int)/\(x:Int)<(d.length:Int))/\((0:Int)<=(x:Int)/\(x:Int)<(↑(List.length (List.take x d++List.replicate (d.length-x) (0:Int))):Int))/\∃(x':Nat),x'<=d.length/\d.length-x'<d.length-x/\(d=d/\aQ/\i64.wrap ((x:Int)+(1:Int))=(x':Int))/\List.set (List.take x d++List.replicate (d.length-x) (0:Int)) ((x:Int).toNat) (d.getD ((x:Int).toNat) (0:Int))=List.take x' d++List.replicate (d.length-x') (0:Int))/\(decide ((x:Int)<(d.length:Int))=false->List.take x d++List.replicate (d.length-x) (0:Int)=d):=by
  intro (d:List Int) hw (hp:d.length<=1048576)
  simp only[exists_const,forall_const,decide_eq_true_eq,decide_eq_false_iff_not,beq_iff_eq,sxS]
  refine⟨⟨by omega,by omega,by omega⟩,by omega,⟨rfl,by simp⟩,fun x h1=>⟨fun h3=>⟨⟨by omega,by omega⟩,⟨by omega,?_⟩,x+1,by omega,by omega,aC (by omega),uj d _ (by omega)⟩,fun h3=>?_⟩⟩
  ·simp;omega
  ·have h4:x=d.length:=by omega
   subst h4
   simp
set_option maxRecDepth 10000
theorem Rk{a b:Int}(ha:0<=a/\a<=255)(hb:0<=b/\b<=255)(h:UInt8.ofNat a.toNat=UInt8.ofNat b.toNat):a=b:=by
 have:=congrArg UInt8.toNat h
 simp only[UInt8.toNat_ofNat'] at this
 omega
theorem D_:∀ {xs ys:List Int},(∀ x∈xs,0<=x/\x<=255)->(∀ y∈ys,0<=y/\y<=255)->(xs.map fun n=>UInt8.ofNat n.toNat)=(ys.map fun n=>UInt8.ofNat n.toNat)->xs=ys
 | [],[],_,_,_=>rfl
 | [],y::ys,_,_,h=>by cases h
 | x::xs,[],_,_,h=>by cases h
 | x::xs,y::ys,hx,hy,h=>by
   rw[List.map_cons,List.map_cons] at h
   injection h with h1 h2
   rw[Rk (hx x (List.mem_cons_self ..)) (hy y (List.mem_cons_self ..)) h1,D_ (fun z hz=>hx z (List.mem_cons_of_mem _ hz)) (fun z hz=>hy z (List.mem_cons_of_mem _ hz)) h2]
theorem str_inj{xs ys:List Int}(hx:∀ x∈xs,0<=x/\x<=255)(hy:∀ y∈ys,0<=y/\y<=255):strOfNums xs=strOfNums ys↔xs=ys:=by
 constructor
 ·intro h
  have h1:=congrArg (fun s:ByteArray=>s.data.toList) h
  simp only[strOfNums_data] at h1
  exact D_ hx hy h1
 ·intro h;rw[h]
theorem DT{key:List Int}:∀ {es:List En} {k:Int},0<=k->(dZ key es k<0↔∀ t,t<es.length->(es.getD t ([],0,[],[])).1≠key)
 | [],k,hk=>⟨fun _ t ht=>absurd ht (Nat.not_lt_zero _),fun _=>by unfold dZ;omega⟩
 | e::es,k,hk=>by
   unfold dZ
   split
   ·rename_i h
    exact⟨fun h1=>by omega,fun h1=>absurd h (h1 0 (by simp))⟩
   ·rename_i h
    rw[DT (es:=es) (k:=k+1) (by omega)]
    constructor
    ·intro h1 t ht
     cases t with
     | zero=>exact h
     | succ t=>exact h1 t (by simpa using ht)
    ·intro h1 t ht
     exact h1 (t+1) (by simpa using ht)
theorem H3:∀(a b:List En),dE (a++b)=dE a+dE b
 | [],b=>by rw[List.nil_append];show _=0+_;omega
 | e::a,b=>by rw[List.cons_append];show n7 e.2+dE (a++b)=n7 e.2+dE a+dE b;rw[H3 a b];omega
theorem xI{es:List En}{x:Nat}(h:x<es.length):dE (es.take (x+1))=dE (es.take x)+n7 (es.getD x ([],0,[],[])).2:=by
 rw[<-mB (z:=([],0,[],[])) h,H3];rfl
theorem zJ{r:Rs}(h:vT r):n7 r<=2097153:=by
 unfold vT at h
 unfold n7
 omega
theorem rh{es:List En}(h:dw es){x:Nat}(hx:x<es.length):tU (es.getD x ([],0,[],[])):=by
 refine h.2 _ ?_
 rw[List.getD_eq_getElem?_getD,List.getElem?_eq_getElem hx]
 exact List.getElem_mem hx
theorem E9{es:List En}(h:dw es):∀ x,x<=es.length->dE (es.take x)<=x*2097153
 | 0,_=>by simp[dE]
 | x+1,hx=>by
   have h1:=E9 h x (by omega)
   have h2:=zJ (rh h (x:=x) (by omega)).2
   rw[xI (by omega),Nat.add_mul,Nat.one_mul]
   omega
theorem Bh{es:List En}{x:Nat}(h:gW es x)(h1:(es.getD x ([],0,[],[])).1.length<=5000)(h2:∀ j,j<x->(es.getD j ([],0,[],[])).1≠(es.getD x ([],0,[],[])).1):gW es (x+1):=by
 intro i hi
 by_cases e:i=x
 ·subst e;exact⟨h1,h2⟩
 ·exact h i (by omega)
theorem fY{c:Ca}(h:bV c=true):0<=c.1/\c.1<=5000/\c.2.length<=30/\gW c.2 c.2.length/\(dE c.2:Int)<=c.1:=by
 unfold bV at h
 simp only[Bool.and_eq_true,decide_eq_true_eq] at h
 exact⟨h.1.1.1.1,h.1.1.1.2,h.1.1.2,h.1.2,h.2⟩
theorem fX{c:Ca}(h:bV c=true->False):false=bV c:=by
 cases hc:bV c with
 | false=>rfl
 | true=>exact (h hc).elim
theorem C0{c:Ca}(h1:0<=c.1)(h2:c.1<=5000)(h3:c.2.length<=30)(h4:gW c.2 c.2.length):bV c=decide ((dE c.2:Int)<=c.1):=by
 unfold bV
 rw[decide_eq_true (show 0<=c.1/\c.1<=5000 from⟨h1,h2⟩),decide_eq_true h3,decide_eq_true h4];rfl
theorem GM :
 ∀(d:List Int×Int),Ty.wf bG d.1/\Ty.wf ah d.2->True->(decide (i64.wrap (d.2-(d.1.length:Int))<(0:Int))=true->(-1:Int)=dV d.1.length d.2)/\(decide (i64.wrap (d.2-(d.1.length:Int))<(0:Int))=false->i64.wrap (d.2-(d.1.length:Int))=dV d.1.length d.2):=by
  intro d hw _
  simp only[dV,il]
  grind
theorem GQ :
 ∀(d:List Int),Ty.wf bG d->d.length<=(1048576:Nat)->((0:Int)<=(d.length:Int)/\(d.length:Int)<=(d.length:Int)/\(d.length:Int)*(↑(1:Nat):Int)<=(140737488355328:Int))/\(0:Nat)<=d.length/\((d=d/\aQ/\(0:Int)=(↑(0:Nat):Int))/\List.replicate ((d.length:Int).toNat) (0:Int)=List.take (0:Nat) d++List.replicate (d.length-(0:Nat)) (0:Int))/\∀(x:Nat),x<=d.length->(decide ((x:Int)<(d.length:Int))=true->((0:Int)<=(x:Int)/\(x:Int)<(d.length:Int))/\((0:Int)<=(x:Int)/\(x:Int)<(↑(List.length (List.take x d++List.replicate (d.length-x) (0:Int))):Int))/\∃(x':Nat),x'<=d.length/\d.length-x'<d.length-x/\(d=d/\aQ/\i64.wrap ((x:Int)+(1:Int))=(x':Int))/\List.set (List.take x d++List.replicate (d.length-x) (0:Int)) ((x:Int).toNat) (d.getD ((x:Int).toNat) (0:Int))=List.take x' d++List.replicate (d.length-x') (0:Int))/\(decide ((x:Int)<(d.length:Int))=false->List.take x d++List.replicate (d.length-x) (0:Int)=d):=by
  intro (d:List Int) hw (hp:d.length<=1048576)
  simp only[exists_const,forall_const,decide_eq_true_eq,decide_eq_false_iff_not,beq_iff_eq,sxS]
  refine⟨⟨by omega,by omega,by omega⟩,by omega,⟨rfl,by simp⟩,fun x h1=>⟨fun h3=>⟨⟨by omega,by omega⟩,⟨by omega,?_⟩,x+1,by omega,by omega,aC (by omega),uj d _ (by omega)⟩,fun h3=>?_⟩⟩
  ·simp;omega
  ·have h4:x=d.length:=by omega
   subst h4
   simp
theorem GJ :
 ∀(d:List Int×List Int),Ty.wf bG d.1/\Ty.wf bG d.2->True->((!decide ((d.1.length:Int)=(d.2.length:Int)))=true->false=decide (d.1=d.2))/\((!decide ((d.1.length:Int)=(d.2.length:Int)))=false->((0:Nat)<=d.1.length/\d.1.length=d.2.length/\List.take (0:Nat) d.1=List.take (0:Nat) d.2)/\(d.1=d.1/\d.2=d.2/\(0:Int)=(↑(0:Nat):Int))/\∀(x:Nat),x<=d.1.length/\d.1.length=d.2.length/\List.take x d.1=List.take x d.2->(decide ((x:Int)<(d.1.length:Int))=true->((0:Int)<=(x:Int)/\(x:Int)<(d.1.length:Int))/\((0:Int)<=(x:Int)/\(x:Int)<(d.2.length:Int))/\((!decide (d.1.getD ((x:Int).toNat) (0:Int)=d.2.getD ((x:Int).toNat) (0:Int)))=true->false=decide (d.1=d.2))/\((!decide (d.1.getD ((x:Int).toNat) (0:Int)=d.2.getD ((x:Int).toNat) (0:Int)))=false->∃(x':Nat),(x'<=d.1.length/\d.1.length=d.2.length/\List.take x' d.1=List.take x' d.2)/\d.1.length-x'<d.1.length-x/\d.1=d.1/\d.2=d.2/\i64.wrap ((x:Int)+(1:Int))=(x':Int)))/\(decide ((x:Int)<(d.1.length:Int))=false->true=decide (d.1=d.2))):=by
  intro (d:List Int×List Int) hw hp
  obtain⟨xs,ys⟩:=d
  have hl:xs.length<=9223372036854775807:=hw.1.1
  simp only[exists_const,forall_const,decide_eq_true_eq,decide_eq_false_iff_not,beq_iff_eq,sxS]
  refine⟨fun h=>?_,fun h=>⟨⟨by omega,by omega,rfl⟩,rfl,fun x ⟨h1,h2,h0⟩=>⟨fun h3=>?_,fun h3=>?_⟩⟩⟩
  ·exact (decide_eq_false (fun e=>h (by rw[e]))).symm
  ·have h4:x<xs.length:=by omega
   obtain⟨t1,t2⟩:=tg (z:=(0:Int)) h2 h4 h0
   rw[aC (by omega)]
   exact⟨⟨by omega,by omega⟩,⟨by omega,by omega⟩,fun h5=>(decide_eq_false (fun e=>h5 (t2 e))).symm,fun h5=>⟨x+1,⟨by omega,h2,t1.2 h5⟩,by omega,rfl⟩⟩
  ·have h4:x=xs.length:=by omega
   subst h4
   have:xs=ys:=by rw[List.take_length,h2,List.take_length] at h0;exact h0
   exact (decide_eq_true this).symm
theorem Fx :
 ∀(d:(Int×List Int×List Int)×Int),Ty.wf gh d.1/\Ty.wf ah d.2->True->True/\(Ty.wf ah (dV d.1.2.1.length d.2)->(decide (dV d.1.2.1.length d.2<(0:Int))=true->(-1:Int)=kc d.1 d.2)/\(decide (dV d.1.2.1.length d.2<(0:Int))=false->True/\(Ty.wf ah (dV d.1.2.2.length (dV d.1.2.1.length d.2))->(decide (dV d.1.2.2.length (dV d.1.2.1.length d.2)<(0:Int))=true->(-1:Int)=kc d.1 d.2)/\(decide (dV d.1.2.2.length (dV d.1.2.1.length d.2)<(0:Int))=false->dV d.1.2.2.length (dV d.1.2.1.length d.2)=kc d.1 d.2)))):=by
  intro d hw _
  simp only[kc,dV]
  grind
theorem GO :
 ∀(d:(List Int×Int×List Int×List Int)×Int),Ty.wf dK d.1/\Ty.wf ah d.2->True->True/\(Ty.wf ah (dV d.1.1.length d.2)->(decide (dV d.1.1.length d.2<(0:Int))=true->(-1:Int)=gp d.1 d.2)/\(decide (dV d.1.1.length d.2<(0:Int))=false->True/\(Ty.wf ah (kc (d.1.2.1,d.1.2.2.1,d.1.2.2.2) (dV d.1.1.length d.2))->(decide (kc (d.1.2.1,d.1.2.2.1,d.1.2.2.2) (dV d.1.1.length d.2)<(0:Int))=true->(-1:Int)=gp d.1 d.2)/\(decide (kc (d.1.2.1,d.1.2.2.1,d.1.2.2.2) (dV d.1.1.length d.2)<(0:Int))=false->kc (d.1.2.1,d.1.2.2.1,d.1.2.2.2) (dV d.1.1.length d.2)=gp d.1 d.2)))):=by
  intro d hw _
  simp only[gp,kc,dV]
  grind
theorem Fw :
 ∀(d:List (List Int×Int×List Int×List Int)×Int),Ty.wf (Ty.sl dK) d.1/\Ty.wf ah d.2->True->(decide (i64.wrap (d.2-(d.1.length:Int))<(0:Int))=true->(-1:Int)=fT d.1 d.2)/\(decide (i64.wrap (d.2-(d.1.length:Int))<(0:Int))=false->((0:Nat)<=d.1.length/\eO (List.drop (0:Nat) d.1) (il (d.2-(d.1.length:Int)))=eO d.1 (il (d.2-(d.1.length:Int))))/\(d.1=d.1/\i64.wrap (d.2-(d.1.length:Int))=il (d.2-(d.1.length:Int))/\(0:Int)=(↑(0:Nat):Int))/\∀(x:Nat×Int),x.1<=d.1.length/\eO (List.drop x.1 d.1) x.2=eO d.1 (il (d.2-(d.1.length:Int)))->(decide ((x.1:Int)<(d.1.length:Int))=true->((0:Int)<=(x.1:Int)/\(x.1:Int)<(d.1.length:Int))/\True/\(Ty.wf ah (gp (Prod.fst (d.1.getD ((x.1:Int).toNat) ([],(0:Int),[],[])),(d.1.getD ((x.1:Int).toNat) ([],(0:Int),[],[])).2.1,(d.1.getD ((x.1:Int).toNat) ([],(0:Int),[],[])).2.2.1,(d.1.getD ((x.1:Int).toNat) ([],(0:Int),[],[])).2.2.2) x.2)->(decide (gp (Prod.fst (d.1.getD ((x.1:Int).toNat) ([],(0:Int),[],[])),(d.1.getD ((x.1:Int).toNat) ([],(0:Int),[],[])).2.1,(d.1.getD ((x.1:Int).toNat) ([],(0:Int),[],[])).2.2.1,(d.1.getD ((x.1:Int).toNat) ([],(0:Int),[],[])).2.2.2) x.2<(0:Int))=true->(-1:Int)=fT d.1 d.2)/\(decide (gp (Prod.fst (d.1.getD ((x.1:Int).toNat) ([],(0:Int),[],[])),(d.1.getD ((x.1:Int).toNat) ([],(0:Int),[],[])).2.1,(d.1.getD ((x.1:Int).toNat) ([],(0:Int),[],[])).2.2.1,(d.1.getD ((x.1:Int).toNat) ([],(0:Int),[],[])).2.2.2) x.2<(0:Int))=false->∃(x':Nat×Int),(x'.1<=d.1.length/\eO (List.drop x'.1 d.1) x'.2=eO d.1 (il (d.2-(d.1.length:Int))))/\d.1.length-x'.1<d.1.length-x.1/\d.1=d.1/\gp (Prod.fst (d.1.getD ((x.1:Int).toNat) ([],(0:Int),[],[])),(d.1.getD ((x.1:Int).toNat) ([],(0:Int),[],[])).2.1,(d.1.getD ((x.1:Int).toNat) ([],(0:Int),[],[])).2.2.1,(d.1.getD ((x.1:Int).toNat) ([],(0:Int),[],[])).2.2.2) x.2=x'.2/\i64.wrap ((x.1:Int)+(1:Int))=(x'.1:Int))))/\(decide ((x.1:Int)<(d.1.length:Int))=false->x.2=fT d.1 d.2)):=by
  intro (d:List En×Int) hw _
  obtain⟨es,l⟩:=d
  have hl:es.length<=9223372036854775807:=hw.1.1
  simp only[exists_const,forall_const,decide_eq_true_eq,decide_eq_false_iff_not,beq_iff_eq,sxS]
  refine⟨fun h=>by unfold fT il;rw[if_pos h],fun h=>⟨⟨by omega,by rw[List.drop_zero]⟩,⟨rfl,rfl⟩,fun x hx=>?_⟩⟩
  obtain⟨h1,h2⟩:=hx
  have hs:fT es l=eO es (il (l-es.length)):=by
   unfold fT il
   rw[if_neg h]
  rw[hs,<-h2]
  have yL:((es.getD x.1 ([],0,[],[])).1,(es.getD x.1 ([],0,[],[])).2.1,(es.getD x.1 ([],0,[],[])).2.2.1,(es.getD x.1 ([],0,[],[])).2.2.2)=es.getD x.1 ([],0,[],[]):=rfl
  refine⟨fun h3=>?_,fun h3=>?_⟩
  ·have h4:x.1<es.length:=by omega
   rw[yL,jv (x:=(([],0,[],[]):En)) h4]
   refine⟨⟨by omega,by omega⟩,fun _=>⟨fun h5=>?_,fun h5=>⟨(x.1+1,gp (es.getD x.1 ([],0,[],[])) x.2),⟨h4,?_⟩,by show es.length-(x.1+1)<_;omega,rfl,aC (by omega)⟩⟩⟩
   ·unfold eO;rw[if_pos h5]
   ·show eO (es.drop (x.1+1)) _=_
    conv=>rhs;unfold eO
    rw[if_neg h5]
  ·rw[show x.1=es.length by omega,List.drop_length];rfl
theorem GN :
 ∀(d:(Int×List (List Int×Int×List Int×List Int))×Int),Ty.wf cA d.1/\Ty.wf ah d.2->True->True/\(Ty.wf ah (fT d.1.2 d.2)->(decide (fT d.1.2 d.2<(0:Int))=true->(-1:Int)=oB d.1 d.2)/\(decide (fT d.1.2 d.2<(0:Int))=false->fT d.1.2 d.2=oB d.1 d.2)):=by
  intro d hw _
  simp only[oB]
  grind
theorem Fz :
 ∀(d:Int×List Int×List Int),Ty.wf gh d->vT d->d.2.1.length<=(1048576:Nat)/\(Ty.wf ai d.2.1->d.2.2.length<=(1048576:Nat)/\(Ty.wf ai d.2.2->(d.1,d.2.1,d.2.2)=d)):=by
  intro (d:Rs) hw hp
  exact⟨hp.1,fun _=>⟨hp.2,fun _=>rfl⟩⟩
theorem GU :
 ∀(d:List Int×Int×List Int×List Int),Ty.wf dK d->tU d->d.1.length<=(1048576:Nat)/\(Ty.wf bG d.1->vT (d.2.1,d.2.2.1,d.2.2.2)/\(Ty.wf gh (d.2.1,d.2.2.1,d.2.2.2)->(d.1,d.2.1,d.2.2.1,d.2.2.2)=d)):=by
  intro (d:En) hw hp
  simp only[exists_const,forall_const,decide_eq_true_eq,decide_eq_false_iff_not,beq_iff_eq,sxS]
  exact⟨hp.1,fun _=>hp.2⟩
theorem Fy :
 ∀(d:List (List Int×Int×List Int×List Int)),Ty.wf (Ty.sl dK) d->dw d->((0:Int)<=(d.length:Int)/\(d.length:Int)<=(d.length:Int)/\(d.length:Int)*(↑(80:Nat):Int)<=(140737488355328:Int))/\(0:Nat)<=d.length/\((d=d/\aQ/\(0:Int)=(↑(0:Nat):Int))/\List.replicate ((d.length:Int).toNat) ([],(0:Int),[],[])=List.take (0:Nat) d++List.replicate (d.length-(0:Nat)) ([],(0:Int),[],[]))/\∀(x:Nat),x<=d.length->(decide ((x:Int)<(d.length:Int))=true->((0:Int)<=(x:Int)/\(x:Int)<(d.length:Int))/\tU (Prod.fst (d.getD ((x:Int).toNat) ([],(0:Int),[],[])),(d.getD ((x:Int).toNat) ([],(0:Int),[],[])).2.1,(d.getD ((x:Int).toNat) ([],(0:Int),[],[])).2.2.1,(d.getD ((x:Int).toNat) ([],(0:Int),[],[])).2.2.2)/\(Ty.wf dK (Prod.fst (d.getD ((x:Int).toNat) ([],(0:Int),[],[])),(d.getD ((x:Int).toNat) ([],(0:Int),[],[])).2.1,(d.getD ((x:Int).toNat) ([],(0:Int),[],[])).2.2.1,(d.getD ((x:Int).toNat) ([],(0:Int),[],[])).2.2.2)->((0:Int)<=(x:Int)/\(x:Int)<(↑(List.length (List.take x d++List.replicate (d.length-x) ([],(0:Int),[],[]))):Int))/\∃(x':Nat),x'<=d.length/\d.length-x'<d.length-x/\(d=d/\aQ/\i64.wrap ((x:Int)+(1:Int))=(x':Int))/\List.set (List.take x d++List.replicate (d.length-x) ([],(0:Int),[],[])) ((x:Int).toNat) (Prod.fst (d.getD ((x:Int).toNat) ([],(0:Int),[],[])),(d.getD ((x:Int).toNat) ([],(0:Int),[],[])).2.1,(d.getD ((x:Int).toNat) ([],(0:Int),[],[])).2.2.1,(d.getD ((x:Int).toNat) ([],(0:Int),[],[])).2.2.2)=List.take x' d++List.replicate (d.length-x') ([],(0:Int),[],[])))/\(decide ((x:Int)<(d.length:Int))=false->List.take x d++List.replicate (d.length-x) ([],(0:Int),[],[])=d):=by
  intro (d:List En) hw (hp:dw d)
  simp only[exists_const,forall_const,decide_eq_true_eq,decide_eq_false_iff_not,beq_iff_eq,sxS]
  have hl:=hp.1
  refine⟨⟨by omega,by omega,by omega⟩,by omega,⟨rfl,by simp⟩,fun x h1=>⟨fun h3=>⟨⟨by omega,by omega⟩,rh hp (by omega),fun _=>⟨⟨by omega,?_⟩,x+1,by omega,by omega,aC (by omega),uj d _ (by omega)⟩⟩,fun h3=>?_⟩⟩
  ·simp;omega
  ·have h4:x=d.length:=by omega
   subst h4
   simp
theorem GR :
 ∀(d:Int×List (List Int×Int×List Int×List Int)),Ty.wf cA d->dw d.2->dw d.2/\(Ty.wf (Ty.sl dK) d.2->(d.1,d.2)=d):=by
  intro (d:Ca) hw hp
  exact⟨hp,fun _=>rfl⟩
theorem Fv :
 ∀(d:(Int×List Int×List Int)×Int×List Int×List Int),Ty.wf gh d.1/\Ty.wf gh d.2->True->((!decide (d.1.1=d.2.1))=true->false=dL d.1 d.2)/\((!decide (d.1.1=d.2.1))=false->True/\((!decide (d.1.2.1=d.2.2.1))=true->false=dL d.1 d.2)/\((!decide (d.1.2.1=d.2.2.1))=false->True/\((!decide (d.1.2.2=d.2.2.2))=true->false=dL d.1 d.2)/\((!decide (d.1.2.2=d.2.2.2))=false->true=dL d.1 d.2))):=by
  intro (d:Rs×Rs) hw _
  obtain⟨⟨a,b,c⟩,a',b',c'⟩:=d
  simp only[exists_const,forall_const,decide_eq_true_eq,decide_eq_false_iff_not,beq_iff_eq,sxS]
  unfold dL
  refine⟨fun h=>(decide_eq_false (fun e=>h (by injection e))).symm,fun h=>⟨fun h1=>(decide_eq_false (fun e=>h1 (by injection e with _ e;injection e))).symm,fun h1=>⟨fun h2=>(decide_eq_false (fun e=>h2 (by injection e with _ e;injection e))).symm,fun h2=>(decide_eq_true (by rw[h,h1,h2])).symm⟩⟩⟩
theorem GL :
 ∀(d:(List Int×Int×List Int×List Int)×List Int×Int×List Int×List Int),Ty.wf dK d.1/\Ty.wf dK d.2->True->True/\((!decide (d.1.1=d.2.1))=true->false=r9 d.1 d.2)/\((!decide (d.1.1=d.2.1))=false->True/\((!dL (d.1.2.1,d.1.2.2.1,d.1.2.2.2) (d.2.2.1,d.2.2.2.1,d.2.2.2.2))=true->false=r9 d.1 d.2)/\((!dL (d.1.2.1,d.1.2.2.1,d.1.2.2.2) (d.2.2.1,d.2.2.2.1,d.2.2.2.2))=false->true=r9 d.1 d.2)):=by
  intro (d:En×En) hw _
  obtain⟨⟨a,r⟩,a',r'⟩:=d
  simp only[exists_const,forall_const,decide_eq_true_eq,decide_eq_false_iff_not,beq_iff_eq,sxS]
  unfold r9
  refine⟨fun h=>(decide_eq_false (fun e=>h (by injection e))).symm,fun h=>⟨fun h1=>(decide_eq_false (fun e=>?_)).symm,fun h1=>(decide_eq_true ?_).symm⟩⟩
  ·injection e with _ e
   subst e
   unfold dL at h1
   exact absurd rfl (of_decide_eq_false h1)
  ·have h2:(r.1,r.2.1,r.2.2)=(r'.1,r'.2.1,r'.2.2):=by unfold dL at h1;exact of_decide_eq_true h1
   rw[h,show r=r' from h2]
theorem Fu :
 ∀(d:List (List Int×Int×List Int×List Int)×List (List Int×Int×List Int×List Int)),Ty.wf (Ty.sl dK) d.1/\Ty.wf (Ty.sl dK) d.2->True->((!decide ((d.1.length:Int)=(d.2.length:Int)))=true->false=n8 d.1 d.2)/\((!decide ((d.1.length:Int)=(d.2.length:Int)))=false->((0:Nat)<=d.1.length/\d.1.length=d.2.length/\List.take (0:Nat) d.1=List.take (0:Nat) d.2)/\(d.1=d.1/\d.2=d.2/\(0:Int)=(↑(0:Nat):Int))/\∀(x:Nat),x<=d.1.length/\d.1.length=d.2.length/\List.take x d.1=List.take x d.2->(decide ((x:Int)<(d.1.length:Int))=true->((0:Int)<=(x:Int)/\(x:Int)<(d.1.length:Int))/\((0:Int)<=(x:Int)/\(x:Int)<(d.2.length:Int))/\True/\((!r9 (Prod.fst (d.1.getD ((x:Int).toNat) ([],(0:Int),[],[])),(d.1.getD ((x:Int).toNat) ([],(0:Int),[],[])).2.1,(d.1.getD ((x:Int).toNat) ([],(0:Int),[],[])).2.2.1,(d.1.getD ((x:Int).toNat) ([],(0:Int),[],[])).2.2.2) (Prod.fst (d.2.getD ((x:Int).toNat) ([],(0:Int),[],[])),(d.2.getD ((x:Int).toNat) ([],(0:Int),[],[])).2.1,(d.2.getD ((x:Int).toNat) ([],(0:Int),[],[])).2.2.1,(d.2.getD ((x:Int).toNat) ([],(0:Int),[],[])).2.2.2))=true->false=n8 d.1 d.2)/\((!r9 (Prod.fst (d.1.getD ((x:Int).toNat) ([],(0:Int),[],[])),(d.1.getD ((x:Int).toNat) ([],(0:Int),[],[])).2.1,(d.1.getD ((x:Int).toNat) ([],(0:Int),[],[])).2.2.1,(d.1.getD ((x:Int).toNat) ([],(0:Int),[],[])).2.2.2) (Prod.fst (d.2.getD ((x:Int).toNat) ([],(0:Int),[],[])),(d.2.getD ((x:Int).toNat) ([],(0:Int),[],[])).2.1,(d.2.getD ((x:Int).toNat) ([],(0:Int),[],[])).2.2.1,(d.2.getD ((x:Int).toNat) ([],(0:Int),[],[])).2.2.2))=false->∃(x':Nat),(x'<=d.1.length/\d.1.length=d.2.length/\List.take x' d.1=List.take x' d.2)/\d.1.length-x'<d.1.length-x/\d.1=d.1/\d.2=d.2/\i64.wrap ((x:Int)+(1:Int))=(x':Int)))/\(decide ((x:Int)<(d.1.length:Int))=false->true=n8 d.1 d.2)):=by
  intro (d:List En×List En) hw hp
  obtain⟨xs,ys⟩:=d
  have hl:xs.length<=9223372036854775807:=hw.1.1
  simp only[exists_const,forall_const,decide_eq_true_eq,decide_eq_false_iff_not,beq_iff_eq,sxS]
  unfold n8
  refine⟨fun h=>?_,fun h=>⟨⟨by omega,by omega,rfl⟩,rfl,fun x ⟨h1,h2,h0⟩=>⟨fun h3=>?_,fun h3=>?_⟩⟩⟩
  ·exact (decide_eq_false (fun e=>h (by rw[e]))).symm
  ·have h4:x<xs.length:=by omega
   obtain⟨t1,t2⟩:=tg (z:=(([],0,[],[]):En)) h2 h4 h0
   rw[aC (by omega)]
   refine⟨⟨by omega,by omega⟩,⟨by omega,by omega⟩,fun h5=>(decide_eq_false (fun e=>?_)).symm,fun h5=>⟨x+1,⟨by omega,h2,t1.2 ?_⟩,by omega,rfl⟩⟩
   ·have h6:=t2 e
    unfold r9 at h5
    exact absurd h6 (of_decide_eq_false h5)
   ·unfold r9 at h5
    exact of_decide_eq_true h5
  ·have h4:x=xs.length:=by omega
   subst h4
   have:xs=ys:=by rw[List.take_length,h2,List.take_length] at h0;exact h0
   exact (decide_eq_true this).symm
theorem GK :
 ∀(d:(Int×List (List Int×Int×List Int×List Int))×Int×List (List Int×Int×List Int×List Int)),Ty.wf cA d.1/\Ty.wf cA d.2->True->((!decide (d.1.1=d.2.1))=true->false=r7 d.1 d.2)/\((!decide (d.1.1=d.2.1))=false->True/\((!n8 d.1.2 d.2.2)=true->false=r7 d.1 d.2)/\((!n8 d.1.2 d.2.2)=false->true=r7 d.1 d.2)):=by
  intro (d:Ca×Ca) hw _
  obtain⟨⟨a,r⟩,a',r'⟩:=d
  simp only[exists_const,forall_const,decide_eq_true_eq,decide_eq_false_iff_not,beq_iff_eq,sxS]
  unfold r7
  refine⟨fun h=>(decide_eq_false (fun e=>h (by injection e))).symm,fun h=>⟨fun h1=>(decide_eq_false (fun e=>?_)).symm,fun h1=>(decide_eq_true ?_).symm⟩⟩
  ·injection e with _ e
   unfold n8 at h1
   exact absurd e (of_decide_eq_false h1)
  ·unfold n8 at h1
   rw[h,of_decide_eq_true h1]
theorem G4 :
 ∀(d:List Int×List Int),Ty.wf bG d.1/\Ty.wf bG d.2->True->((!decide ((d.1.length:Int)=(d.2.length:Int)))=true->false=decide (d.1=d.2))/\((!decide ((d.1.length:Int)=(d.2.length:Int)))=false->((0:Nat)<=d.1.length/\d.1.length=d.2.length/\List.take (0:Nat) d.1=List.take (0:Nat) d.2)/\(d.1=d.1/\d.2=d.2/\(0:Int)=(↑(0:Nat):Int))/\∀(x:Nat),x<=d.1.length/\d.1.length=d.2.length/\List.take x d.1=List.take x d.2->(decide ((x:Int)<(d.1.length:Int))=true->((0:Int)<=(x:Int)/\(x:Int)<(d.1.length:Int))/\((0:Int)<=(x:Int)/\(x:Int)<(d.2.length:Int))/\((!decide (d.1.getD ((x:Int).toNat) (0:Int)=d.2.getD ((x:Int).toNat) (0:Int)))=true->false=decide (d.1=d.2))/\((!decide (d.1.getD ((x:Int).toNat) (0:Int)=d.2.getD ((x:Int).toNat) (0:Int)))=false->∃(x':Nat),(x'<=d.1.length/\d.1.length=d.2.length/\List.take x' d.1=List.take x' d.2)/\d.1.length-x'<d.1.length-x/\d.1=d.1/\d.2=d.2/\i64.wrap ((x:Int)+(1:Int))=(x':Int)))/\(decide ((x:Int)<(d.1.length:Int))=false->true=decide (d.1=d.2))):=by
  intro (d:List Int×List Int) hw hp
  obtain⟨xs,ys⟩:=d
  have hl:xs.length<=9223372036854775807:=hw.1.1
  simp only[exists_const,forall_const,decide_eq_true_eq,decide_eq_false_iff_not,beq_iff_eq,sxS]
  refine⟨fun h=>?_,fun h=>⟨⟨by omega,by omega,rfl⟩,rfl,fun x ⟨h1,h2,h0⟩=>⟨fun h3=>?_,fun h3=>?_⟩⟩⟩
  ·exact (decide_eq_false (fun e=>h (by rw[e]))).symm
  ·have h4:x<xs.length:=by omega
   obtain⟨t1,t2⟩:=tg (z:=(0:Int)) h2 h4 h0
   rw[aC (by omega)]
   exact⟨⟨by omega,by omega⟩,⟨by omega,by omega⟩,fun h5=>(decide_eq_false (fun e=>h5 (t2 e))).symm,fun h5=>⟨x+1,⟨by omega,h2,t1.2 h5⟩,by omega,rfl⟩⟩
  ·have h4:x=xs.length:=by omega
   subst h4
   have:xs=ys:=by rw[List.take_length,h2,List.take_length] at h0;exact h0
   exact (decide_eq_true this).symm
theorem Au :
 ∀(d:List Int×List Int),Ty.wf bG d.1/\Ty.wf bG d.2->True->decide (strOfNums d.1=strOfNums d.2)=decide (d.1=d.2):=by
  intro (d:List Int×List Int) hw _
  obtain⟨xs,ys⟩:=d
  exact decide_eq_decide.2 (str_inj (fun x hx=>hw.1.2 x hx) (fun y hy=>hw.2.2 y hy))
theorem Cq :
 ∀(d:Int×List Int×List Int),Ty.wf gh d->vT d->i64.wrap (i64.wrap ((1:Int)+(d.2.1.length:Int))+(d.2.2.length:Int))=(n7 d:Int):=by
  intro (d:Rs) hw (hp:vT d)
  have h:=zJ hp
  unfold n7 at *
  rw[wrap_small (n:=1+(d.2.1.length:Int)) (by omega),wrap_small (by omega)]
  omega
theorem GI :
 ∀(d:List Int×Int×List Int×List Int),Ty.wf dK d->tU d->i64.wrap (i64.wrap ((1:Int)+(d.2.2.1.length:Int))+(d.2.2.2.length:Int))=(n7 d.2:Int):=by
  intro (d:En) hw (hp:tU d)
  have h:=zJ hp.2
  unfold n7 at *
  rw[wrap_small (n:=1+(d.2.2.1.length:Int)) (by omega),wrap_small (by omega)]
  omega
theorem Ft :
 ∀(d:Int×List (List Int×Int×List Int×List Int)),Ty.wf cA d->dw d.2->(0:Nat)<=d.2.length/\(((d.1=d.1/\d.2=d.2)/\ae (0:Int)/\(0:Int)=(↑(dE (List.take (0:Nat) d.2)):Int)/\d.2=d.2/\ae (d.2.length:Int)/\(0:Int)=(↑(0:Nat):Int))/\d.1=d.1/\d.2=d.2)/\∀(x:Nat),x<=d.2.length->(decide ((x:Int)<(d.2.length:Int))=true->((0:Int)<=(x:Int)/\(x:Int)<(d.2.length:Int))/\tU (Prod.fst (d.2.getD ((x:Int).toNat) ([],(0:Int),[],[])),(d.2.getD ((x:Int).toNat) ([],(0:Int),[],[])).2.1,(d.2.getD ((x:Int).toNat) ([],(0:Int),[],[])).2.2.1,(d.2.getD ((x:Int).toNat) ([],(0:Int),[],[])).2.2.2)/\(Ty.wf ah (↑(n7 (Prod.fst (d.2.getD ((x:Int).toNat) ([],(0:Int),[],[])).2,(d.2.getD ((x:Int).toNat) ([],(0:Int),[],[])).2.2.1,(d.2.getD ((x:Int).toNat) ([],(0:Int),[],[])).2.2.2)):Int)->∃(x':Nat),x'<=d.2.length/\d.2.length-x'<d.2.length-x/\((d.1=d.1/\d.2=d.2)/\ae (0:Int)/\i64.wrap ((↑(dE (List.take x d.2)):Int)+(↑(n7 (Prod.fst (d.2.getD ((x:Int).toNat) ([],(0:Int),[],[])).2,(d.2.getD ((x:Int).toNat) ([],(0:Int),[],[])).2.2.1,(d.2.getD ((x:Int).toNat) ([],(0:Int),[],[])).2.2.2)):Int))=(↑(dE (List.take x' d.2)):Int)/\d.2=d.2/\ae (d.2.length:Int)/\i64.wrap ((x:Int)+(1:Int))=(x':Int))/\d.1=d.1/\d.2=d.2))/\(decide ((x:Int)<(d.2.length:Int))=false->(↑(dE (List.take x d.2)):Int)=(dE d.2:Int)):=by
  intro (d:Ca) hw hp
  obtain⟨cap,es⟩:=d
  replace hp:dw es:=hp
  have hl:=hp.1
  simp only[exists_const,forall_const,decide_eq_true_eq,decide_eq_false_iff_not,beq_iff_eq,sxS]
  refine⟨by omega,⟨by rw[List.take_zero];rfl,rfl⟩,fun x hx=>⟨fun h=>?_,fun h=>by rw[List.take_of_length_le (by omega)]⟩⟩
  have he:=rh hp (x:=x) (by omega)
  have lx:=zJ he.2
  have hs:=E9 hp x hx
  have U0:x*2097153<=1048576*2097153:=Nat.mul_le_mul_right _ (by omega)
  have yL:((es.getD x ([],0,[],[])).2.1,(es.getD x ([],0,[],[])).2.2.1,(es.getD x ([],0,[],[])).2.2.2)=(es.getD x ([],0,[],[])).2:=rfl
  rw[yL]
  refine⟨⟨by omega,by omega⟩,he,fun _=>⟨x+1,by omega,by omega,?_,aC (by omega)⟩⟩
  rw[xI (by omega),wrap_small (by omega)];rfl
theorem Fo :
 ∀(d:(List Int×Int×List Int×List Int)×List Int),Ty.wf dK d.1/\Ty.wf (Ty.ptr bG) d.2->True->True/\ae (decide (d.1.1=d.2)):=by
  intro d _ _
  exact⟨trivial,rfl⟩
theorem zx :
 ∀(d:List (List Int×Int×List Int×List Int)×List Int),Ty.wf (Ty.sl dK) d.1/\Ty.wf (Ty.bS (0:Nat) (Ty.ptr bG)) d.2->True->((0:Nat)<=d.1.length/\dZ d.2 (List.drop (0:Nat) d.1) (↑(0:Nat):Int)=dZ d.2 d.1 (0:Int))/\(d.1=d.1/\d.2=d.2/\ae (d.1.length:Int)/\(0:Int)=(↑(0:Nat):Int))/\∀(x:Nat),x<=d.1.length/\dZ d.2 (List.drop x d.1) (x:Int)=dZ d.2 d.1 (0:Int)->(decide ((x:Int)<(d.1.length:Int))=true->((0:Int)<=(x:Int)/\(x:Int)<(d.1.length:Int))/\True/\(decide (Prod.fst (d.1.getD ((x:Int).toNat) ([],(0:Int),[],[]))=d.2)=true->(x:Int)=dZ d.2 d.1 (0:Int))/\(decide (Prod.fst (d.1.getD ((x:Int).toNat) ([],(0:Int),[],[]))=d.2)=false->∃(x':Nat),(x'<=d.1.length/\dZ d.2 (List.drop x' d.1) (x':Int)=dZ d.2 d.1 (0:Int))/\d.1.length-x'<d.1.length-x/\d.1=d.1/\d.2=d.2/\ae (d.1.length:Int)/\i64.wrap ((x:Int)+(1:Int))=(x':Int)))/\(decide ((x:Int)<(d.1.length:Int))=false->(-1:Int)=dZ d.2 d.1 (0:Int)):=by
  intro (d:List En×List Int) hw _
  obtain⟨xs,t⟩:=d
  have hl:xs.length<=9223372036854775807:=hw.1.1
  simp only[exists_const,forall_const,decide_eq_true_eq,decide_eq_false_iff_not,beq_iff_eq,sxS]
  refine⟨⟨by omega,by simp⟩,rfl,fun x ⟨h1,h2⟩=>⟨fun h3=>?_,fun h3=>?_⟩⟩
  ·have h4:x<xs.length:=by omega
   rw[jv (x:=(([],0,[],[]):En)) h4,dZ] at h2
   rw[aC (by omega)]
   refine⟨⟨by omega,by omega⟩,fun h5=>?_,fun h5=>⟨x+1,⟨by omega,?_⟩,by omega,rfl⟩⟩
   ·rw[if_pos h5] at h2;exact h2
   ·rw[if_neg h5] at h2;exact h2
  ·have h4:x=xs.length:=by omega
   rw[h4,List.drop_length,dZ] at h2
   exact h2
theorem Gw :
 ∀(d:List (List Int×Int×List Int×List Int)×List Int),Ty.wf (Ty.sl dK) d.1/\Ty.wf bG d.2->True->True/\(Ty.wf ah (dZ d.2 d.1 (0:Int))->ae (dZ d.2 d.1 (0:Int))):=by
  intro d _ _
  exact⟨trivial,fun _=>rfl⟩
theorem GX :
 ∀(d:Int×List (List Int×Int×List Int×List Int)),Ty.wf cA d->dw d.2->True/\((!(decide ((0:Int)<=d.1)&&decide (d.1<=(5000:Int))))=true->false=bV d)/\((!(decide ((0:Int)<=d.1)&&decide (d.1<=(5000:Int))))=false->(decide ((30:Int)<(d.2.length:Int))=true->false=bV d)/\(decide ((30:Int)<(d.2.length:Int))=false->((0:Nat)<=d.2.length/\gW d.2 (0:Nat))/\(((d.1=d.1/\d.2=d.2)/\(0:Int)=(↑(dE (List.take (0:Nat) d.2)):Int)/\(0:Int)=(↑(0:Nat):Int))/\d.1=d.1/\d.2=d.2)/\∀(x:Nat),x<=d.2.length/\gW d.2 x->(decide ((x:Int)<(d.2.length:Int))=true->((0:Int)<=(x:Int)/\(x:Int)<(d.2.length:Int))/\(decide ((5000:Int)<(↑(List.length (d.2.getD ((x:Int).toNat) ([],(0:Int),[],[])).1):Int))=true->false=bV d)/\(decide ((5000:Int)<(↑(List.length (d.2.getD ((x:Int).toNat) ([],(0:Int),[],[])).1):Int))=false->((0:Nat)<=x/\∀(t:Nat),t<(0:Nat)->(d.2.getD t ([],(0:Int),[],[])).1≠(d.2.getD x ([],(0:Int),[],[])).1)/\(((d.1=d.1/\d.2=d.2)/\ae (↑(dE (List.take x d.2)):Int)/\ae (x:Int)/\(0:Int)=(↑(0:Nat):Int))/\d.1=d.1/\d.2=d.2)/\∀(x_1:Nat),(x_1<=x/\∀(t:Nat),t<x_1->(d.2.getD t ([],(0:Int),[],[])).1≠(d.2.getD x ([],(0:Int),[],[])).1)->(decide ((x_1:Int)<(x:Int))=true->((0:Int)<=(x:Int)/\(x:Int)<(d.2.length:Int))/\((0:Int)<=(x_1:Int)/\(x_1:Int)<(d.2.length:Int))/\True/\(decide (Prod.fst (d.2.getD ((x:Int).toNat) ([],(0:Int),[],[]))=(d.2.getD ((x_1:Int).toNat) ([],(0:Int),[],[])).1)=true->false=bV d)/\(decide (Prod.fst (d.2.getD ((x:Int).toNat) ([],(0:Int),[],[]))=(d.2.getD ((x_1:Int).toNat) ([],(0:Int),[],[])).1)=false->∃(x':Nat),(x'<=x/\∀(t:Nat),t<x'->(d.2.getD t ([],(0:Int),[],[])).1≠(d.2.getD x ([],(0:Int),[],[])).1)/\x-x'<x-x_1/\((d.1=d.1/\d.2=d.2)/\ae (↑(dE (List.take x d.2)):Int)/\ae (x:Int)/\i64.wrap ((x_1:Int)+(1:Int))=(x':Int))/\d.1=d.1/\d.2=d.2))/\(decide ((x_1:Int)<(x:Int))=false->((0:Int)<=(x:Int)/\(x:Int)<(d.2.length:Int))/\vT (Prod.fst (d.2.getD ((x:Int).toNat) ([],(0:Int),[],[])).2,(d.2.getD ((x:Int).toNat) ([],(0:Int),[],[])).2.2.1,(d.2.getD ((x:Int).toNat) ([],(0:Int),[],[])).2.2.2)/\(Ty.wf ah (↑(n7 (Prod.fst (d.2.getD ((x:Int).toNat) ([],(0:Int),[],[])).2,(d.2.getD ((x:Int).toNat) ([],(0:Int),[],[])).2.2.1,(d.2.getD ((x:Int).toNat) ([],(0:Int),[],[])).2.2.2)):Int)->∃(x':Nat),(x'<=d.2.length/\gW d.2 x')/\d.2.length-x'<d.2.length-x/\((d.1=d.1/\d.2=d.2)/\i64.wrap ((↑(dE (List.take x d.2)):Int)+(↑(n7 (Prod.fst (d.2.getD ((x:Int).toNat) ([],(0:Int),[],[])).2,(d.2.getD ((x:Int).toNat) ([],(0:Int),[],[])).2.2.1,(d.2.getD ((x:Int).toNat) ([],(0:Int),[],[])).2.2.2)):Int))=(↑(dE (List.take x' d.2)):Int)/\i64.wrap ((x:Int)+(1:Int))=(x':Int))/\d.1=d.1/\d.2=d.2))))/\(decide ((x:Int)<(d.2.length:Int))=false->decide ((↑(dE (List.take x d.2)):Int)<=d.1)=bV d))):=by
  intro (d:Ca) hw hp
  obtain⟨cap,es⟩:=d
  replace hp:dw es:=hp
  simp only[exists_const,forall_const,decide_eq_true_eq,decide_eq_false_iff_not,beq_iff_eq,sxS]
  refine⟨fun h=>fX (fun hc=>?_),fun h=>⟨fun h1=>fX (fun hc=>?_),fun h1=>⟨⟨by omega,fun i hi=>absurd hi (Nat.not_lt_zero _)⟩,⟨by rw[List.take_zero];rfl,rfl⟩,fun x hx=>⟨fun h2=>?_,fun h2=>?_⟩⟩⟩⟩
  ·have:=fY hc
   rw[decide_eq_true (show 0<=cap from this.1),decide_eq_true (show cap<=5000 from this.2.1)] at h
   cases h
  ·have:=(fY hc).2.2.1
   simp only at this
   omega
  ·obtain⟨jY,QM⟩:=hx
   refine⟨⟨by omega,by omega⟩,fun h3=>fX (fun hc=>?_),fun h3=>⟨⟨by omega,fun t ht=>absurd ht (Nat.not_lt_zero _)⟩,rfl,fun y hy=>⟨fun h4=>⟨⟨by omega,by omega⟩,⟨by omega,by omega⟩,fun h5=>fX (fun hc=>?_),fun h5=>?_⟩,fun h4=>?_⟩⟩⟩
   ·have:=((fY hc).2.2.2.1 x (by show x<es.length;omega)).1
    simp only at this
    omega
   ·have:=((fY hc).2.2.2.1 x (by show x<es.length;omega)).2 y (by omega)
    exact this h5.symm
   ·refine⟨y+1,⟨by omega,fun t ht=>?_⟩,by omega,aC (by omega)⟩
    by_cases e:t=y
    ·rw[e];exact Ne.symm h5
    ·exact hy.2 t (by omega)
   ·have he:=rh hp (x:=x) (by omega)
    have lx:=zJ he.2
    have hs:=E9 hp x jY
    have yL:((es.getD x ([],0,[],[])).2.1,(es.getD x ([],0,[],[])).2.2.1,(es.getD x ([],0,[],[])).2.2.2)=(es.getD x ([],0,[],[])).2:=rfl
    rw[yL]
    refine⟨⟨by omega,by omega⟩,he.2,fun _=>⟨x+1,⟨by omega,Bh QM (by omega) (fun j hj=>hy.2 j (by omega))⟩,by omega,?_,aC (by omega)⟩⟩
    rw[xI (by omega),wrap_small (by omega)];rfl
  ·obtain rfl:x=es.length:=by omega
   simp only[Bool.and_eq_true,decide_eq_true_eq] at h
   rw[List.take_length,C0 (c:=(cap,es)) h.1 h.2 (by show es.length<=30;omega) hx.2]
theorem GC :
 ∀(d:Int×List (List Int×Int×List Int×List Int)),Ty.wf cA d->dw d.2->(decide (d.1<(0:Int))=true->false=bV d)/\(decide (d.1<(0:Int))=false->(decide ((5000:Int)<d.1)=true->false=bV d)/\(decide ((5000:Int)<d.1)=false->(decide ((30:Int)<(d.2.length:Int))=true->false=bV d)/\(decide ((30:Int)<(d.2.length:Int))=false->dw d.2/\(Ty.wf ah (dE d.2:Int)->(decide (d.1<(dE d.2:Int))=true->false=bV d)/\(decide (d.1<(dE d.2:Int))=false->((0:Nat)<=d.2.length/\gW d.2 (0:Nat))/\(((d.1=d.1/\d.2=d.2)/\d.2=d.2/\ae (d.2.length:Int)/\(0:Int)=(↑(0:Nat):Int))/\d.1=d.1/\d.2=d.2)/\∀(x:Nat),x<=d.2.length/\gW d.2 x->(decide ((x:Int)<(d.2.length:Int))=true->((0:Int)<=(x:Int)/\(x:Int)<(d.2.length:Int))/\(decide ((5000:Int)<(↑(List.length (d.2.getD ((x:Int).toNat) ([],(0:Int),[],[])).1):Int))=true->false=bV d)/\(decide ((5000:Int)<(↑(List.length (d.2.getD ((x:Int).toNat) ([],(0:Int),[],[])).1):Int))=false->((0:Int)<=(0:Int)/\(0:Int)<=(x:Int)/\(x:Int)<=(d.2.length:Int))/\True/\(Ty.wf ah (dZ (d.2.getD ((x:Int).toNat) ([],(0:Int),[],[])).1 (List.drop ((0:Int).toNat) (List.take ((x:Int).toNat) d.2)) (0:Int))->(decide ((0:Int)<=dZ (d.2.getD ((x:Int).toNat) ([],(0:Int),[],[])).1 (List.drop ((0:Int).toNat) (List.take ((x:Int).toNat) d.2)) (0:Int))=true->false=bV d)/\(decide ((0:Int)<=dZ (d.2.getD ((x:Int).toNat) ([],(0:Int),[],[])).1 (List.drop ((0:Int).toNat) (List.take ((x:Int).toNat) d.2)) (0:Int))=false->∃(x':Nat),(x'<=d.2.length/\gW d.2 x')/\d.2.length-x'<d.2.length-x/\((d.1=d.1/\d.2=d.2)/\d.2=d.2/\ae (d.2.length:Int)/\i64.wrap ((x:Int)+(1:Int))=(x':Int))/\d.1=d.1/\d.2=d.2))))/\(decide ((x:Int)<(d.2.length:Int))=false->true=bV d)))))):=by
  intro (d:Ca) hw hp
  obtain⟨cap,es⟩:=d
  replace hp:dw es:=hp
  simp only[exists_const,forall_const,decide_eq_true_eq,decide_eq_false_iff_not,beq_iff_eq,sxS]
  refine⟨fun h=>fX (fun hc=>?_),fun h=>⟨fun h1=>fX (fun hc=>?_),fun h1=>⟨fun h2=>fX (fun hc=>?_),fun h2=>⟨hp,fun _=>⟨fun h3=>fX (fun hc=>?_),fun h3=>⟨⟨by omega,fun i hi=>absurd hi (Nat.not_lt_zero _)⟩,rfl,fun x hx=>⟨fun h4=>?_,fun h4=>?_⟩⟩⟩⟩⟩⟩⟩
  ·have:=(fY hc).1;simp only at this;omega
  ·have:=(fY hc).2.1;simp only at this;omega
  ·have:=(fY hc).2.2.1;simp only at this;omega
  ·have:=(fY hc).2.2.2.2;simp only at this;omega
  ·obtain⟨jY,QM⟩:=hx
   simp only[Int.toNat_zero,List.drop_zero]
   have lT:(es.take x).length=x:=by rw[List.length_take];omega
   have Sl:∀ t,t<x->(es.take x).getD t ([],0,[],[])=es.getD t ([],0,[],[]):=fun t ht=>by
    rw[List.getD_eq_getElem?_getD,List.getD_eq_getElem?_getD,List.getElem?_take,if_pos ht]
   have Sd:=DT (key:=(es.getD x ([],0,[],[])).1) (es:=es.take x) (k:=0) (Int.le_refl 0)
   refine⟨⟨by omega,by omega⟩,fun h5=>fX (fun hc=>?_),fun h5=>⟨⟨by omega,by omega,by omega⟩,fun _=>⟨fun h6=>fX (fun hc=>?_),fun h6=>?_⟩⟩⟩
   ·have:=((fY hc).2.2.2.1 x (by show x<es.length;omega)).1
    simp only at this
    omega
   ·have h7:=((fY hc).2.2.2.1 x (by show x<es.length;omega)).2
    have:=Sd.2 (fun t ht=>by rw[lT] at ht;rw[Sl t ht];exact h7 t ht)
    omega
   ·have h7:=Sd.1 (by omega)
    exact⟨x+1,⟨by omega,Bh QM (by omega) (fun j hj=>by have:=h7 j (by omega);rw[Sl j hj] at this;exact this)⟩,by omega,aC (by omega)⟩
  ·obtain rfl:x=es.length:=by omega
   rw[C0 (c:=(cap,es)) (by show 0<=cap;omega) (by show cap<=5000;omega) (by show es.length<=30;omega) hx.2,decide_eq_true (show ((dE es:Nat):Int)<=cap by omega)]
theorem tf{n:Nat}{l:Int}(h0:¬dV n l<0)(A_:0<=l)(hl:l<=1048576)(hn:n<=9223372036854775807):n<=1048576/\0<=dV n l/\dV n l<=1048576:=by
 unfold dV il at *
 rw[IntKind.wrap_i64] at *
 split at h0
 ·omega
 ·rename_i h2
  rw[if_neg h2]
  omega
theorem L4{e:En}{l:Int}(h0:¬gp e l<0)(A_:0<=l)(hl:l<=1048576)(h1:e.1.length<=9223372036854775807)(h2:e.2.2.1.length<=9223372036854775807)(h3:e.2.2.2.length<=9223372036854775807):tU e/\0<=gp e l/\gp e l<=1048576:=by
 unfold gp kc at *
 split at h0
 ·omega
 ·rename_i a
  rw[if_neg a]
  obtain⟨b1,b2,b3⟩:=tf a A_ hl h1
  split at h0
  ·omega
  ·rename_i c
   rw[if_neg c]
   obtain⟨d1,d2,d3⟩:=tf c b2 b3 h2
   obtain⟨e1,e2,e3⟩:=tf h0 d2 d3 h3
   exact⟨⟨b1,d1,e1⟩,e2,e3⟩
theorem zp:∀(es:List En) (l:Int),0<=eO es l->0<=l->l<=1048576->(∀ e∈es,e.1.length<=9223372036854775807/\e.2.2.1.length<=9223372036854775807/\e.2.2.2.length<=9223372036854775807)->∀ e∈es,tU e
 | [],l,_,_,_,_,e,he=>by cases he
 | g::es,l,h,A_,hl,hw,e,he=>by
   unfold eO at h
   split at h
   ·omega
   ·rename_i hn
    obtain⟨w1,w2,w3⟩:=hw g (List.mem_cons_self ..)
    obtain⟨r1,r2,r3⟩:=L4 hn A_ hl w1 w2 w3
    rcases List.mem_cons.1 he with rfl|he
    ·exact r1
    ·exact zp es _ h r2 r3 (fun e he=>hw e (List.mem_cons_of_mem _ he)) e he
theorem OB{c:Ca}(hw:cA.wf c)(h:¬oB c 1048576<0):dw c.2:=by
 have hl:c.2.length<=9223372036854775807:=hw.2.1
 unfold oB at h
 split at h
 ·omega
 ·rename_i h1
  unfold fT at h1
  split at h1
  ·omega
  ·rename_i h2
   have h3:=tf (n:=c.2.length) (l:=1048576) (by unfold dV;rw[if_neg h2];exact h2) (by omega) (by omega) hl
   have h4:dV c.2.length 1048576=il (1048576-c.2.length):=by unfold dV;rw[if_neg h2]
   rw[h4] at h3
   refine⟨h3.1,zp c.2 _ (by omega) h3.2.1 h3.2.2 (fun e he=>?_)⟩
   have:=hw.2.2 e he
   exact⟨this.1.1,this.2.2.1.1,this.2.2.2.1⟩
set_option maxRecDepth 10000
theorem sS{p A B k:Int}(h:A=B+p*k):A%p=B%p:=by rw[h,Int.add_mul_emod_self_left]
theorem p_(x p:Int):∃ k,x%p=x+p*k:=⟨-(x/p),by rw[Int.emod_def,Int.mul_neg];rfl⟩
theorem cN{p:Int}(h:0<p)(x:Int):El p (x%p):=⟨Int.emod_nonneg x (by omega),Int.emod_lt_of_pos x h⟩
theorem eo{p x:Int}(h:El p x):x%p=x:=Int.emod_eq_of_lt h.1 h.2
theorem bp(p a b:Int):a%p*b%p=a*b%p:=by
 obtain⟨k,hk⟩:=p_ a p
 exact sS (k:=k*b) (by rw[hk];grind)
theorem bg(p a b:Int):a*(b%p)%p=a*b%p:=by rw[Int.mul_comm,bp,Int.mul_comm]
theorem cV(p a b:Int):(a%p+b)%p=(a+b)%p:=by
 obtain⟨k,hk⟩:=p_ a p
 exact sS (k:=k) (by rw[hk];grind)
theorem dQ(p a b:Int):(a+b%p)%p=(a+b)%p:=by rw[Int.add_comm,cV,Int.add_comm]
theorem kI(p a b:Int):(a%p-b)%p=(a-b)%p:=by
 obtain⟨k,hk⟩:=p_ a p
 exact sS (k:=k) (by rw[hk];grind)
theorem jg(p a b:Int):(a-b%p)%p=(a-b)%p:=by
 obtain⟨k,hk⟩:=p_ b p
 exact sS (k := -k) (by rw[hk];grind)
theorem pow_mod(p a:Int):∀ n:Nat,(a%p)^n%p=a^n%p
 | 0=>by rw[Int.pow_zero,Int.pow_zero]
 | n+1=>by
   rw[Int.pow_succ,Int.pow_succ,bg,<-bp,pow_mod p a n,bp]
theorem mD{p x:Int}(hx:0<=x):x.tmod p=x%p:=Int.tmod_eq_emod_of_nonneg hx
theorem tmod_neg{p x:Int}(hp:0<p)(hx:x<0):x.tmod p=x%p/\x%p=0\/x.tmod p=x%p-p/\0<x%p:=by
 have h:=Int.emod_nonneg x (show p≠0 by omega)
 by_cases hd:p ∣ x
 ·exact .inl ⟨by rw[Int.tmod_eq_emod,if_pos (.inr hd)];exact Int.sub_zero _,Int.emod_eq_zero_of_dvd hd⟩
 ·refine .inr ⟨?_,?_⟩
  ·rw[Int.tmod_eq_emod,if_neg (by rintro (h|h);omega;exact hd h)]
   omega
  ·have:x%p≠0:=fun e=>hd (Int.dvd_of_emod_eq_zero e)
   omega
theorem xJ{p x:Int}(hp:0<p):x.tmod p=x%p/\(0<=x\/x%p=0)\/x.tmod p=x%p-p/\0<x%p/\x<0:=by
 by_cases h:0<=x
 ·exact .inl ⟨mD h,.inl h⟩
 ·rcases tmod_neg hp (show x<0 by omega) with h1|h1
  ·exact .inl ⟨h1.1,.inr h1.2⟩
  ·exact .inr ⟨h1.1,h1.2,by omega⟩
theorem Bl(f:Int):ab f=0/\¬(0<=f/\f<9)\/an (ab f)/\0<=f/\f<9:=by
 by_cases h:0<=f/\f<9
 ·have hb:=gL h
  exact .inr ⟨⟨hb.1,hb.2.1⟩,h⟩
 ·exact .inl ⟨kp h,h⟩
theorem bu{f:Int}(h:ab f≠0):an (ab f)/\0<=f/\f<9:=by
 rcases Bl f with h1|h1
 ·exact absurd h1.1 h
 ·exact h1
theorem i_{p a b:Int}(hp:an p)(ha:El p a)(hb:El p b):0<=a*b/\a*b<=1009095135000000000:=by
 unfold an at hp
 unfold El at ha hb
 have h1:a*b<=1004535808*1004535808:=Int.mul_le_mul (by omega) (by omega) hb.1 (by omega)
 exact⟨Int.mul_nonneg ha.1 hb.1,by omega⟩
theorem nh{p a b:Int}(hp:an p)(ha:El p a)(hb:El p b):(i64.wrap (a*b)).tmod p=mulM p a b:=by
 have h:=i_ hp ha hb
 rw[wrap_small (by omega),mD h.1];rfl
theorem ea{p:Int}(hp:an p)(a b:Int):El p (mulM p a b):=cN (by unfold an at hp;omega) _
theorem rf{p:Int}(hp:an p)(a b:Int):El p (c_ p a b):=cN (by unfold an at hp;omega) _
theorem iq{p:Int}(hp:an p)(a b:Int):El p (bd p a b):=cN (by unfold an at hp;omega) _
theorem vC{p:Int}(hp:an p)(a:Int)(e:Nat):El p (bq p a e):=cN (by unfold an at hp;omega) _
theorem oF{p:Int}(hp:an p)(a:Int):El p (aR p a):=vC hp _ _
theorem gC{p:Int}(hp:an p):El p 1:=by unfold an at hp;exact⟨by omega,by omega⟩
theorem ep{p:Int}(hp:an p):El p 0:=by unfold an at hp;exact⟨by omega,by omega⟩
theorem LS{f:Int}(h:ab f=0)(x:Int):cR f x = -1:=by unfold cR;rw[if_pos h]
theorem gN{f:Int}(h:ab f≠0)(x:Int):cR f x=x%ab f:=by unfold cR;rw[if_neg h]
theorem zL{f:Int}(h:ab f≠0)(a b:Int):kO f a b=c_ (ab f) a b:=by unfold kO;rw[if_neg h]
theorem rT{f:Int}(h:ab f≠0)(a b:Int):fA f a b=bd (ab f) a b:=by unfold fA;rw[if_neg h]
theorem iv{f:Int}(h:ab f≠0)(a b:Int):b7 f a b=mulM (ab f) a b:=by unfold b7;rw[if_neg h]
theorem rJ{f:Int}(h:ab f≠0)(a e:Int):a_ f a e=lE (ab f) a e:=by unfold a_;rw[if_neg h]
theorem Ek{p a:Int}(hp:an p)(h:a%p≠0):lE p a (-1)=aR p a:=by
 unfold an at hp
 unfold lE aR
 rw[if_neg h]
 congr 2
 have:=Int.add_mul_emod_self_left (p-2) (p-1) (-1)
 rw[show p-2+(p-1) * -1 = -1 by omega] at this
 rw[this]
 exact Int.emod_eq_of_lt (by omega) (by omega)
theorem Eh{p r:Int}(hp:an p){x:Int×Int×Nat}(h:kf p r x)(ho:(x.2.2:Int).tmod 2=1):kf p r (mulM p x.1 x.1,mulM p x.2.1 x.1,x.2.2/2):=by
 obtain⟨a,b,n⟩:=x
 obtain⟨h1,h2,h3,h4⟩:=h
 refine⟨ea hp _ _,ea hp _ _,?_,by simp only at h4 ⊢;omega⟩
 rw[<-h3]
 simp only at *
 have hn:n=n/2+n/2+1:=by
  have:(n:Int).tmod 2=((n%2:Nat):Int):=rfl
  omega
 unfold mulM
 rw[bp,<-bg,pow_mod,bg]
 conv=>rhs;rw[hn]
 congr 1
 rw[Int.pow_succ,Int.pow_add,Int.mul_pow]
 grind
theorem Br{p r:Int}(hp:an p){x:Int×Int×Nat}(h:kf p r x)(ho:¬(x.2.2:Int).tmod 2=1):kf p r (mulM p x.1 x.1,x.2.1,x.2.2/2):=by
 obtain⟨a,b,n⟩:=x
 obtain⟨h1,h2,h3,h4⟩:=h
 refine⟨ea hp _ _,h2,?_,by simp only at h4 ⊢;omega⟩
 rw[<-h3]
 simp only at *
 have hn:n=n/2+n/2:=by
  have:(n:Int).tmod 2=((n%2:Nat):Int):=rfl
  omega
 unfold mulM
 rw[<-bg,pow_mod,bg]
 conv=>rhs;rw[hn]
 congr 1
 rw[Int.pow_add,Int.mul_pow]
theorem Eg{p r:Int}{x:Int×Int×Nat}(h:kf p r x)(ho:¬(0:Int)<(x.2.2:Int)):x.2.1=r:=by
 obtain⟨a,b,n⟩:=x
 obtain⟨h1,h2,h3,h4⟩:=h
 simp only at *
 obtain rfl:n=0:=by omega
 rw[Int.pow_zero,Int.mul_one,eo h2] at h3
 exact h3
theorem m_{n:Nat}(h:(n:Int)<=9223372036854775807):i64.wrap ((n:Int).tdiv 2)=((n/2:Nat):Int):=by
 have:(n:Int).tdiv 2=((n/2:Nat):Int):=rfl
 rw[this,wrap_small (by omega)]
theorem JU :
 ∀(d:Int×Int),Ty.wf ah d.1/\Ty.wf ah d.2->True->True/\(Ty.wf ah (ab d.1)->(decide (ab d.1=(0:Int))=true->(-1:Int)=cR d.1 d.2)/\(decide (ab d.1=(0:Int))=false->ab d.1≠(0:Int)/\(decide (Int.tmod d.2 (ab d.1)<(0:Int))=true->i64.wrap (Int.tmod d.2 (ab d.1)+ab d.1)=cR d.1 d.2)/\(decide (Int.tmod d.2 (ab d.1)<(0:Int))=false->Int.tmod d.2 (ab d.1)=cR d.1 d.2))):=by
  intro (d:Int×Int) hw _
  obtain⟨f,x⟩:=d
  simp only[exists_const,forall_const,decide_eq_true_eq,decide_eq_false_iff_not,beq_iff_eq,sxS]
  intro _
  refine⟨fun h=>(LS h x).symm,fun h=>⟨h,fun h1=>?_,fun h1=>?_⟩⟩
  all_goals
   have hp:=(bu h).1
   unfold an at hp
   rw[gN h]
   rcases xJ (p:=ab f) (x:=x) (by omega) with ⟨e,h2⟩|⟨e,h2,h3⟩
  ·have:=Int.emod_nonneg x h;omega
  ·rw[e,Int.sub_add_cancel,wrap_small]
   have:=cN (p:=ab f) (by omega) x
   unfold El at this
   omega
  ·exact e
  ·have:=cN (p:=ab f) (by omega) x
   unfold El at this
   omega
theorem Pu :
 ∀(d:Int×Int×Int),Ty.wf ah d.1/\Ty.wf ah d.2.1/\Ty.wf ah d.2.2->True->True/\(Ty.wf ah (ab d.1)->(decide (ab d.1=(0:Int))=true->(-1:Int)=kO d.1 d.2.1 d.2.2)/\(decide (ab d.1=(0:Int))=false->True/\(Ty.wf ah (cR d.1 d.2.1)->True/\(Ty.wf ah (cR d.1 d.2.2)->True/\(Ty.wf ah (cR d.1 (i64.wrap (cR d.1 d.2.1+cR d.1 d.2.2)))->cR d.1 (i64.wrap (cR d.1 d.2.1+cR d.1 d.2.2))=kO d.1 d.2.1 d.2.2))))):=by
  intro (d:Int×Int×Int) hw _
  obtain⟨f,a,b⟩:=d
  simp only[exists_const,forall_const,decide_eq_true_eq,decide_eq_false_iff_not,beq_iff_eq,sxS]
  intro _
  refine⟨fun h=>by unfold kO;rw[if_pos h],fun h _ _ _=>?_⟩
  have hp:=(bu h).1
  have h0:=cN (p:=ab f) (by unfold an at hp;omega) a
  have h1:=cN (p:=ab f) (by unfold an at hp;omega) b
  unfold El at h0 h1
  unfold an at hp
  rw[gN h,gN h,gN h,zL h,wrap_small (by omega),c_,cV,dQ]
theorem Pw :
 ∀(d:Int×Int×Int),Ty.wf ah d.1/\Ty.wf ah d.2.1/\Ty.wf ah d.2.2->True->True/\(Ty.wf ah (ab d.1)->(decide (ab d.1=(0:Int))=true->(-1:Int)=fA d.1 d.2.1 d.2.2)/\(decide (ab d.1=(0:Int))=false->True/\(Ty.wf ah (cR d.1 d.2.1)->True/\(Ty.wf ah (cR d.1 d.2.2)->True/\(Ty.wf ah (cR d.1 (i64.wrap (cR d.1 d.2.1-cR d.1 d.2.2)))->cR d.1 (i64.wrap (cR d.1 d.2.1-cR d.1 d.2.2))=fA d.1 d.2.1 d.2.2))))):=by
  intro (d:Int×Int×Int) hw _
  obtain⟨f,a,b⟩:=d
  simp only[exists_const,forall_const,decide_eq_true_eq,decide_eq_false_iff_not,beq_iff_eq,sxS]
  intro _
  refine⟨fun h=>by unfold fA;rw[if_pos h],fun h _ _ _=>?_⟩
  have hp:=(bu h).1
  have h0:=cN (p:=ab f) (by unfold an at hp;omega) a
  have h1:=cN (p:=ab f) (by unfold an at hp;omega) b
  unfold El at h0 h1
  unfold an at hp
  rw[gN h,gN h,gN h,rT h,wrap_small (by omega),bd,kI,jg]
theorem Pv :
 ∀(d:Int×Int×Int),Ty.wf ah d.1/\Ty.wf ah d.2.1/\Ty.wf ah d.2.2->True->True/\(Ty.wf ah (ab d.1)->(decide (ab d.1=(0:Int))=true->(-1:Int)=b7 d.1 d.2.1 d.2.2)/\(decide (ab d.1=(0:Int))=false->True/\(Ty.wf ah (cR d.1 d.2.1)->True/\(Ty.wf ah (cR d.1 d.2.2)->True/\(Ty.wf ah (cR d.1 (i64.wrap (cR d.1 d.2.1*cR d.1 d.2.2)))->cR d.1 (i64.wrap (cR d.1 d.2.1*cR d.1 d.2.2))=b7 d.1 d.2.1 d.2.2))))):=by
  intro (d:Int×Int×Int) hw _
  obtain⟨f,a,b⟩:=d
  simp only[exists_const,forall_const,decide_eq_true_eq,decide_eq_false_iff_not,beq_iff_eq,sxS]
  intro _
  refine⟨fun h=>by unfold b7;rw[if_pos h],fun h _ _ _=>?_⟩
  have hp:=(bu h).1
  have h0:=cN (p:=ab f) (by unfold an at hp;omega) a
  have h1:=cN (p:=ab f) (by unfold an at hp;omega) b
  have h2:=i_ hp h0 h1
  rw[gN h,gN h,gN h,iv h,wrap_small (by omega),mulM,bp,bg]
theorem Ml :
 ∀(d:Int×Int×Int),Ty.wf ah d.1/\Ty.wf ah d.2.1/\Ty.wf ah d.2.2->True->True/\(Ty.wf ah (ab d.1)->(decide (ab d.1=(0:Int))=true->(-1:Int)=a_ d.1 d.2.1 d.2.2)/\(decide (ab d.1=(0:Int))=false->True/\(Ty.wf ah (cR d.1 d.2.1)->(decide (cR d.1 d.2.1=(0:Int))=true->(decide (d.2.2=(0:Int))=true->(1:Int)=a_ d.1 d.2.1 d.2.2)/\(decide (d.2.2=(0:Int))=false->(decide (d.2.2<(0:Int))=true->(-1:Int)=a_ d.1 d.2.1 d.2.2)/\(decide (d.2.2<(0:Int))=false->(0:Int)=a_ d.1 d.2.1 d.2.2)))/\(decide (cR d.1 d.2.1=(0:Int))=false->i64.wrap (ab d.1-(1:Int))≠(0:Int)/\((decide (Int.tmod d.2.2 (i64.wrap (ab d.1-(1:Int)))<(0:Int))=true->∃(x':Unit),True/\d.1=d.1/\ae d.2.1/\ae d.2.2/\ae (0:Int)/\ae (ab d.1)/\ae (cR d.1 d.2.1)/\i64.wrap (i64.wrap (Int.tmod d.2.2 (i64.wrap (ab d.1-(1:Int)))+ab d.1)-(1:Int))=(↑(Int.toNat (d.2.2%(ab d.1-(1:Int)))):Int))/\(decide (Int.tmod d.2.2 (i64.wrap (ab d.1-(1:Int)))<(0:Int))=false->∃(x':Unit),True/\d.1=d.1/\ae d.2.1/\ae d.2.2/\ae (0:Int)/\ae (ab d.1)/\ae (cR d.1 d.2.1)/\Int.tmod d.2.2 (i64.wrap (ab d.1-(1:Int)))=(↑(Int.toNat (d.2.2%(ab d.1-(1:Int)))):Int)))/\∀(x:Unit),True->kf (ab d.1) (bq (ab d.1) d.2.1 (Int.toNat (d.2.2%(ab d.1-(1:Int))))) (d.2.1%ab d.1,(1:Int),Int.toNat (d.2.2%(ab d.1-(1:Int))))/\(d.1=d.1/\ae d.2.1/\ae d.2.2/\ae (0:Int)/\ae (ab d.1)/\cR d.1 d.2.1=d.2.1%ab d.1/\ae (↑(Int.toNat (d.2.2%(ab d.1-(1:Int)))):Int)/\ae (1:Int))/\∀(x:Int×Int×Nat),kf (ab d.1) (bq (ab d.1) d.2.1 (Int.toNat (d.2.2%(ab d.1-(1:Int))))) x->(decide ((0:Int)<(x.2.2:Int))=true->(2:Int)≠(0:Int)/\(decide (Int.tmod (x.2.2:Int) (2:Int)=(1:Int))=true->ab d.1≠(0:Int)/\ab d.1≠(0:Int)/\(2:Int)≠(0:Int)/\∃(x':Int×Int×Nat),kf (ab d.1) (bq (ab d.1) d.2.1 (Int.toNat (d.2.2%(ab d.1-(1:Int))))) x'/\x'.2.2<x.2.2/\d.1=d.1/\ae d.2.1/\ae d.2.2/\ae (0:Int)/\ae (ab d.1)/\Int.tmod (i64.wrap (x.1*x.1)) (ab d.1)=x'.1/\i64.wrap (Int.tdiv (x.2.2:Int) (2:Int))=(x'.2.2:Int)/\Int.tmod (i64.wrap (x.2.1*x.1)) (ab d.1)=x'.2.1)/\(decide (Int.tmod (x.2.2:Int) (2:Int)=(1:Int))=false->ab d.1≠(0:Int)/\(2:Int)≠(0:Int)/\∃(x':Int×Int×Nat),kf (ab d.1) (bq (ab d.1) d.2.1 (Int.toNat (d.2.2%(ab d.1-(1:Int))))) x'/\x'.2.2<x.2.2/\d.1=d.1/\ae d.2.1/\ae d.2.2/\ae (0:Int)/\ae (ab d.1)/\Int.tmod (i64.wrap (x.1*x.1)) (ab d.1)=x'.1/\i64.wrap (Int.tdiv (x.2.2:Int) (2:Int))=(x'.2.2:Int)/\x.2.1=x'.2.1))/\(decide ((0:Int)<(x.2.2:Int))=false->x.2.1=a_ d.1 d.2.1 d.2.2))))):=by
  intro (d:Int×Int×Int) hw _
  obtain⟨f,a,e⟩:=d
  simp only[exists_const,forall_const,decide_eq_true_eq,decide_eq_false_iff_not,beq_iff_eq,sxS]
  intro _
  refine⟨fun h=>by unfold a_;rw[if_pos h],fun h _=>?_⟩
  have hp:=(bu h).1
  have aJ:=hp
  unfold an at hp
  rw[gN h,rJ h,wrap_small (n:=ab f-1) (by omega)]
  have Tw:=cN (p:=ab f-1) (by omega) e
  unfold El at Tw
  refine⟨fun h1=>⟨fun h2=>by unfold lE;rw[if_pos h1,if_pos h2],fun h2=>⟨fun h3=>by unfold lE;rw[if_pos h1,if_neg h2,if_pos h3],fun h3=>by unfold lE;rw[if_pos h1,if_neg h2,if_neg h3]⟩⟩,fun h1=>⟨by omega,⟨fun h2=>?_,fun h2=>?_⟩,?_⟩⟩
  ·rcases xJ (p:=ab f-1) (x:=e) (by omega) with ⟨g,_⟩|⟨g,h3,h4⟩
   ·omega
   ·rw[g,wrap_small (n:=e%(ab f-1)-(ab f-1)+ab f) (by omega),wrap_small (by omega)]
    omega
  ·rcases xJ (p:=ab f-1) (x:=e) (by omega) with ⟨g,_⟩|⟨g,h3,h4⟩<;>omega
  ·refine⟨⟨cN (by omega) a,gC aJ,?_,by simp only;omega⟩,rfl,fun x hx=>⟨fun h2=>⟨by decide,fun h3=>⟨h,h,by decide,?_⟩,fun h3=>⟨h,by decide,?_⟩⟩,fun h2=>?_⟩⟩
   ·simp only[Int.one_mul];exact pow_mod _ _ _
   ·exact⟨_,Eh aJ hx h3,by show x.2.2/2<x.2.2;omega,nh aJ hx.1 hx.1,m_ hx.2.2.2,nh aJ hx.2.1 hx.1⟩
   ·exact⟨_,Br aJ hx h3,by show x.2.2/2<x.2.2;omega,nh aJ hx.1 hx.1,m_ hx.2.2.2,rfl⟩
   ·rw[Eg hx h2]
    unfold lE
    rw[if_neg h1]
theorem GZ :
 ∀(d:Int×Int),Ty.wf ah d.1/\Ty.wf ah d.2->True->True/\(Ty.wf ah (a_ d.1 d.2 (-1:Int))->ae (a_ d.1 d.2 (-1:Int))):=by
  intro (d:Int×Int) hw _
  simp only[exists_const,forall_const,decide_eq_true_eq,decide_eq_false_iff_not,beq_iff_eq,sxS]
theorem Pr :
 ∀(d:(Int×Int×Int)×Int×Int),Ty.wf bm d.1/\Ty.wf ah d.2.1/\Ty.wf ah d.2.2->an d.1.1/\El d.1.1 d.2.1/\El d.1.1 d.2.2->d.1.1≠(0:Int)/\Int.tmod (i64.wrap (d.2.1+d.2.2)) d.1.1=c_ d.1.1 d.2.1 d.2.2:=by
  intro (d:Fd×Int×Int) hw hp
  obtain⟨⟨p,g,t⟩,a,b⟩:=d
  replace hp:an p/\El p a/\El p b:=hp
  simp only[exists_const,forall_const,decide_eq_true_eq,decide_eq_false_iff_not,beq_iff_eq,sxS]
  obtain⟨h0,h1,h2⟩:=hp
  unfold an at h0;unfold El at h1 h2
  rw[wrap_small (by omega)]
  exact⟨by omega,mD (by omega)⟩
theorem Pt :
 ∀(d:(Int×Int×Int)×Int×Int),Ty.wf bm d.1/\Ty.wf ah d.2.1/\Ty.wf ah d.2.2->an d.1.1/\El d.1.1 d.2.1/\El d.1.1 d.2.2->d.1.1≠(0:Int)/\Int.tmod (i64.wrap (i64.wrap (d.2.1-d.2.2)+d.1.1)) d.1.1=bd d.1.1 d.2.1 d.2.2:=by
  intro (d:Fd×Int×Int) hw hp
  obtain⟨⟨p,g,t⟩,a,b⟩:=d
  replace hp:an p/\El p a/\El p b:=hp
  simp only[exists_const,forall_const,decide_eq_true_eq,decide_eq_false_iff_not,beq_iff_eq,sxS]
  obtain⟨h0,h1,h2⟩:=hp
  unfold an at h0;unfold El at h1 h2
  rw[wrap_small (n:=a-b) (by omega),wrap_small (by omega)]
  refine⟨by omega,?_⟩
  rw[mD (by omega),Int.add_emod_right];rfl
theorem Ps :
 ∀(d:(Int×Int×Int)×Int×Int),Ty.wf bm d.1/\Ty.wf ah d.2.1/\Ty.wf ah d.2.2->an d.1.1/\El d.1.1 d.2.1/\El d.1.1 d.2.2->d.1.1≠(0:Int)/\Int.tmod (i64.wrap (d.2.1*d.2.2)) d.1.1=mulM d.1.1 d.2.1 d.2.2:=by
  intro (d:Fd×Int×Int) hw hp
  obtain⟨⟨p,g,t⟩,a,b⟩:=d
  replace hp:an p/\El p a/\El p b:=hp
  simp only[exists_const,forall_const,decide_eq_true_eq,decide_eq_false_iff_not,beq_iff_eq,sxS]
  obtain⟨h0,h1,h2⟩:=hp
  exact⟨by unfold an at h0;omega,nh h0 h1 h2⟩
theorem Mg :
 ∀(d:(Int×Int×Int)×Int×Int),Ty.wf bm d.1/\Ty.wf ah d.2.1/\Ty.wf ah d.2.2->an d.1.1/\El d.1.1 d.2.1/\(0:bU [ah])<=d.2.2->kf d.1.1 (bq d.1.1 d.2.1 d.2.2.toNat) (d.2.1,(1:Int),d.2.2.toNat)/\(((ae d.1.1/\ae d.1.2.1/\ae d.1.2.2)/\ae d.2.1/\d.2.2=(d.2.2.toNat:Int)/\ae (0:Int)/\ae (1:Int))/\ae d.1.1/\ae d.1.2.1/\ae d.1.2.2)/\∀(x:Int×Int×Nat),kf d.1.1 (bq d.1.1 d.2.1 d.2.2.toNat) x->(decide ((0:Int)<(x.2.2:Int))=true->(2:Int)≠(0:Int)/\(decide (Int.tmod (x.2.2:Int) (2:Int)=(1:Int))=true->(an d.1.1/\El d.1.1 x.2.1/\El d.1.1 x.1)/\(Ty.wf ah (mulM d.1.1 x.2.1 x.1)->(an d.1.1/\El d.1.1 x.1/\El d.1.1 x.1)/\(Ty.wf ah (mulM d.1.1 x.1 x.1)->(2:Int)≠(0:Int)/\∃(x':Int×Int×Nat),kf d.1.1 (bq d.1.1 d.2.1 d.2.2.toNat) x'/\x'.2.2<x.2.2/\((ae d.1.1/\ae d.1.2.1/\ae d.1.2.2)/\mulM d.1.1 x.1 x.1=x'.1/\i64.wrap (Int.tdiv (x.2.2:Int) (2:Int))=(x'.2.2:Int)/\ae (0:Int)/\mulM d.1.1 x.2.1 x.1=x'.2.1)/\ae d.1.1/\ae d.1.2.1/\ae d.1.2.2)))/\(decide (Int.tmod (x.2.2:Int) (2:Int)=(1:Int))=false->(an d.1.1/\El d.1.1 x.1/\El d.1.1 x.1)/\(Ty.wf ah (mulM d.1.1 x.1 x.1)->(2:Int)≠(0:Int)/\∃(x':Int×Int×Nat),kf d.1.1 (bq d.1.1 d.2.1 d.2.2.toNat) x'/\x'.2.2<x.2.2/\((ae d.1.1/\ae d.1.2.1/\ae d.1.2.2)/\mulM d.1.1 x.1 x.1=x'.1/\i64.wrap (Int.tdiv (x.2.2:Int) (2:Int))=(x'.2.2:Int)/\ae (0:Int)/\x.2.1=x'.2.1)/\ae d.1.1/\ae d.1.2.1/\ae d.1.2.2)))/\(decide ((0:Int)<(x.2.2:Int))=false->x.2.1=bq d.1.1 d.2.1 d.2.2.toNat):=by
  intro (d:Fd×Int×Int) hw hp
  obtain⟨⟨p,g,t⟩,a,e⟩:=d
  replace hp:an p/\El p a/\(0:Int)<=e:=hp
  simp only[exists_const,forall_const,decide_eq_true_eq,decide_eq_false_iff_not,beq_iff_eq,sxS]
  obtain⟨h0,h1,h2⟩:=hp
  have he:e<=9223372036854775807:=hw.2.2.2
  refine⟨⟨h1,gC h0,by simp only[Int.one_mul];rfl,by simp only;omega⟩,by omega,fun x hx=>⟨fun h3=>⟨by decide,fun h4=>⟨⟨h0,hx.2.1,hx.1⟩,fun _=>⟨⟨h0,hx.1,hx.1⟩,fun _=>⟨by decide,?_⟩⟩⟩,fun h4=>⟨⟨h0,hx.1,hx.1⟩,fun _=>⟨by decide,?_⟩⟩⟩,fun h3=>Eg hx h3⟩⟩
  ·exact⟨_,Eh h0 hx h4,by show x.2.2/2<x.2.2;omega,rfl,m_ hx.2.2.2,rfl⟩
  ·exact⟨_,Br h0 hx h4,by show x.2.2/2<x.2.2;omega,rfl,m_ hx.2.2.2,rfl⟩
theorem Gz :
 ∀(d:(Int×Int×Int)×Int),Ty.wf bm d.1/\Ty.wf ah d.2->an d.1.1/\El d.1.1 d.2->(an d.1.1/\El d.1.1 d.2/\(0:bU [ah])<=i64.wrap (d.1.1-(2:Int)))/\(Ty.wf ah (bq d.1.1 d.2 (Int.toNat (i64.wrap (d.1.1-(2:Int)))))->bq d.1.1 d.2 (Int.toNat (i64.wrap (d.1.1-(2:Int))))=aR d.1.1 d.2):=by
  intro (d:Fd×Int) hw hp
  obtain⟨⟨p,g,t⟩,a⟩:=d
  replace hp:an p/\El p a:=hp
  simp only[exists_const,forall_const,decide_eq_true_eq,decide_eq_false_iff_not,beq_iff_eq,sxS]
  have h0:=hp.1
  unfold an at h0
  have nd:i64.wrap (p-2)=p-2:=wrap_small (by omega)
  rw[nd]
  exact⟨⟨hp.1,hp.2,show (0:Int)<=p-2 by omega⟩,fun _=>rfl⟩
set_option maxRecDepth 10000
def HO(p lo:Nat):Nat->Bool
 | 0=>p%lo != 0
 | n+1=>HO p lo n&&HO p (lo+2^n) n
theorem D6{p:Nat}:∀(n lo:Nat),HO p lo n=true->∀ d,lo<=d->d<lo+2^n->p%d≠0
 | 0,lo,h,d,h1,h2=>by
   obtain rfl:d=lo:=by simp at h2;omega
   simpa[HO] using h
 | n+1,lo,h,d,h1,h2=>by
   unfold HO at h
   rw[Bool.and_eq_true] at h
   rw[Nat.pow_succ] at h2
   by_cases hd:d<lo+2^n
   ·exact D6 n lo h.1 d h1 hd
   ·exact D6 n (lo+2^n) h.2 d (by omega) (by omega)
theorem RP{d n:Nat}{p:Nat}(h:d*d<=p)(hn:p<n*n):d<n:=by
 by_cases hd:d<n
 ·exact hd
 ·have:=Nat.mul_le_mul (Nat.le_of_not_lt hd) (Nat.le_of_not_lt hd)
  omega
theorem oo{p n:Nat}(h:HO p 2 n=true)(hn:p<(2+2^n)*(2+2^n)){d:Nat}(h2:2<=d)(hd:d*d<=p):p%d≠0 :=
 D6 n 2 h d h2 (RP hd hn)
theorem M7{f:Int}(h:0<=f/\f<9){d:Nat}(h2:2<=d)(hd:d*d<=(ab f).toNat):(ab f).toNat%d≠0:=by
 rcases eV h with rfl|rfl|rfl|rfl|rfl|rfl|rfl|rfl|rfl
 ·exact oo (p:=17) (n:=2) (by decide +kernel) (by decide) h2 hd
 ·exact oo (p:=97) (n:=3) (by decide +kernel) (by decide) h2 hd
 ·exact oo (p:=193) (n:=4) (by decide +kernel) (by decide) h2 hd
 ·exact oo (p:=257) (n:=4) (by decide +kernel) (by decide) h2 hd
 ·exact oo (p:=7681) (n:=7) (by decide +kernel) (by decide) h2 hd
 ·exact oo (p:=12289) (n:=7) (by decide +kernel) (by decide) h2 hd
 ·exact oo (p:=998244353) (n:=15) (by decide +kernel) (by decide) h2 hd
 ·exact oo (p:=469762049) (n:=15) (by decide +kernel) (by decide) h2 hd
 ·exact oo (p:=1004535809) (n:=15) (by decide +kernel) (by decide) h2 hd
theorem Lu{p:Nat}(hp:2<=p)(h:∀ d,2<=d->d*d<=p->p%d≠0){a b:Nat}(hd:p ∣ a*b):p ∣ a\/p ∣ b:=by
 obtain⟨k,hk⟩:=Nat.gcd_dvd_left p a
 generalize hg:Nat.gcd p a=g at hk
 have TA:g ∣ a:=hg▸Nat.gcd_dvd_right p a
 by_cases h1:g=1
 ·subst h1
  exact .inr (Nat.Coprime.dvd_of_dvd_mul_left hg hd)
 ·by_cases h2:k=1
  ·subst h2
   rw[Nat.mul_one] at hk
   exact .inl (hk▸TA)
  ·have UW:g≠0:=by rintro rfl;omega
   have wD:k≠0:=by rintro rfl;omega
   exfalso
   by_cases hle:g<=k
   ·refine h g (by omega) ?_ (by rw[hk,Nat.mul_mod_right])
    rw[hk];exact Nat.mul_le_mul_left g hle
   ·refine h k (by omega) ?_ (by rw[hk,Nat.mul_mod_left])
    rw[hk];exact Nat.mul_le_mul_right k (by omega)
structure Ih (p:Int):Prop where
 mod:an p
 pr:∀ a b:Int,a*b%p=0->a%p=0\/b%p=0
theorem lA{f:Int}(h:ab f≠0):Ih (ab f):=by
 obtain⟨h1,h2⟩:=bu h
 refine⟨h1,fun a b ib=>?_⟩
 have h0:0<=ab f:=by unfold an at h1;omega
 have hn:ab f=(((ab f).toNat:Nat):Int):=(Int.toNat_of_nonneg h0).symm
 have hd:(ab f).toNat ∣ a.natAbs*b.natAbs:=by
  rw[<-Int.natAbs_mul]
  exact Int.natAbs_dvd_natAbs.2 (Int.dvd_of_emod_eq_zero ib) |> fun h=>by rwa [show (ab f).natAbs=(ab f).toNat by omega] at h
 have hs:∀ x:Int,(ab f).toNat ∣ x.natAbs->x%ab f=0:=fun x hx=>by
  refine Int.emod_eq_zero_of_dvd (Int.natAbs_dvd_natAbs.1 ?_)
  rwa [show (ab f).natAbs=(ab f).toNat by omega]
 rcases Lu (by unfold an at h1;omega) (fun d=>M7 h2) hd with h|h
 ·exact .inl (hs a h)
 ·exact .inr (hs b h)
theorem Rt{p x y:Int}(hx:El p x)(hy:El p y)(h:x≠y):(x-y)%p≠0:=by
 intro e
 obtain⟨k,hk⟩:=Int.dvd_of_emod_eq_zero e
 unfold El at hx hy
 have h1:k=0:=by
  have hp:0<p:=by omega
  rcases Int.lt_trichotomy k 0 with h0|h0|h0
  ·have:=Int.mul_le_mul_of_nonneg_left (show k ≤ -1 by omega) (Int.le_of_lt hp)
   omega
  ·exact h0
  ·have:=Int.mul_le_mul_of_nonneg_left (show 1<=k by omega) (Int.le_of_lt hp)
   omega
 subst h1
 omega
theorem QZ{p a b:Int}(hp:Ih p)(ha:a%p≠0)(hb:b%p≠0):a*b%p≠0:=fun e=>(hp.pr a b e).elim ha hb
theorem mod_mod(p x:Int):x%p%p=x%p:=Int.emod_emod_of_dvd _ (Int.dvd_refl p)
set_option maxRecDepth 10000
theorem mK{p:Int}{xs:List Int}(h:ak p xs=true){i:Nat}(hi:i<xs.length):El p (xs.getD i 0):=by
 unfold ak at h
 rw[decide_eq_true_eq] at h
 have h1:=h (xs.getD i 0) (by rw[List.getD_eq_getElem?_getD,List.getElem?_eq_getElem hi];exact List.getElem_mem hi)
 unfold El
 omega
theorem iL{f:Int}{xs:List Int}(h:bn f xs=true):ab f≠0/\1<=xs.length/\xs.length<=40/\ak (ab f) xs=true/\xs.Nodup:=by
 unfold bn aw at h
 simp only[Bool.and_eq_true,decide_eq_true_eq] at h
 exact⟨h.1.2.1,h.1.1.1,h.1.1.2,h.1.2.2,h.2⟩
theorem I6{f:Int}{xs:List Int}(h1:ab f≠0)(h2:1<=xs.length)(h3:xs.length<=40)(h4:ak (ab f) xs=true)(h5:xs.Nodup):bn f xs=true:=by
 unfold bn aw
 simp only[Bool.and_eq_true,decide_eq_true_eq]
 exact⟨⟨⟨h2,h3⟩,h1,h4⟩,h5⟩
theorem sT{xs:List Int}{x:Nat}(hx:x<xs.length):(xs.take (x+1)).Nodup↔(xs.take x).Nodup/\xs.getD x 0 ∉ xs.take x:=by
 rw[<-mB (z:=(0:Int)) hx,List.nodup_append]
 constructor
 ·rintro⟨h1,_,h2⟩
  exact⟨h1,fun hm=>h2 _ hm _ (List.mem_singleton.2 rfl) rfl⟩
 ·rintro⟨h1,h2⟩
  refine⟨h1,List.nodup_cons.2 ⟨by simp,List.nodup_nil⟩,fun a ha b hb e=>?_⟩
  rw[List.mem_singleton.1 hb] at e
  subst e
  exact h2 ha
theorem IY{xs:List Int}(h:xs.Nodup)(n:Nat):(xs.take n).Nodup:=h.sublist (List.take_sublist n xs)
theorem D3{xs:List Int}{x:Nat}{y:Int}(hx:x<xs.length)(h:y ∉ xs.take x)(hy:¬xs.getD x 0=y):y ∉ xs.take (x+1):=by
 rw[<-mB (z:=(0:Int)) hx]
 intro hm
 rcases List.mem_append.1 hm with hm|hm
 ·exact h hm
 ·exact hy (List.mem_singleton.1 hm).symm
theorem pX{xs:List Int}{x y:Nat}(h:y<x):(xs.take x).getD y 0=xs.getD y 0:=by
 rw[List.getD_eq_getElem?_getD,List.getD_eq_getElem?_getD,List.getElem?_take,if_pos h]
theorem D2{xs:List Int}{x:Nat}(h:x<xs.length):xs.getD x 0∈xs:=by
 rw[List.getD_eq_getElem?_getD,List.getElem?_eq_getElem h];exact List.getElem_mem h
theorem D9{xs:List Int}(h:xs.Nodup){i j:Nat}(hi:i<xs.length)(hj:j<xs.length)(Sa:i≠j):xs.getD i 0≠xs.getD j 0:=by
 rw[List.getD_eq_getElem?_getD,List.getD_eq_getElem?_getD,List.getElem?_eq_getElem hi,List.getElem?_eq_getElem hj]
 exact fun e=>Sa ((List.getElem_inj h).1 e)
theorem Ix{p:Int}(hp:an p)(xs:List Int)(i:Nat):∀ n,El p (eU p xs i n)
 | 0=>gC hp
 | n+1=>by
   unfold eU
   split
   ·exact Ix hp xs i n
   ·exact ea hp _ _
theorem Ip{p:Int}(hp:Ih p){xs:List Int}(he:ak p xs=true)(hn:xs.Nodup){i:Nat}(hi:i<xs.length):∀ n,n<=xs.length->eU p xs i n%p≠0
 | 0,_=>by
   rw[show eU p xs i 0=1 from rfl,eo (gC hp.mod)];decide
 | n+1,h=>by
   unfold eU
   split
   ·exact Ip hp he hn hi n (by omega)
   ·rename_i bo
    unfold mulM bd
    rw[mod_mod]
    refine QZ hp (Ip hp he hn hi n (by omega)) ?_
    rw[mod_mod]
    exact Rt (mK he hi) (mK he (by omega)) (D9 hn hi (by omega) (Ne.symm bo))
theorem y6{f:Int}{xs:List Int}(h:bn f xs=true):fj f xs=((al f).1,true):=by unfold fj;rw[if_pos h]
theorem Oe{f:Int}{xs:List Int}(h:bn f xs=false):fj f xs=((0,0,0),false):=by unfold fj;rw[h];rfl
theorem LC{f:Int}{xs:List Int}:(fj f xs).2=bn f xs:=by
 cases h:bn f xs
 ·rw[Oe h]
 ·rw[y6 h]
theorem Q3{f:Int}{xs:List Int}(h:bn f xs=true):(fj f xs).1.1=ab f:=by rw[y6 h];rfl
theorem JX :
 ∀(d:List Int×Int),Ty.wf ai d.1/\Ty.wf ah d.2->True->((0:Nat)<=d.1.length/\¬d.2∈List.take (0:Nat) d.1)/\(d.1=d.1/\d.2=d.2/\(0:Int)=(↑(0:Nat):Int))/\∀(x:Nat),x<=d.1.length/\¬d.2∈List.take x d.1->(decide ((x:Int)<(d.1.length:Int))=true->((0:Int)<=(x:Int)/\(x:Int)<(d.1.length:Int))/\(decide (d.1.getD ((x:Int).toNat) (0:Int)=d.2)=true->true=sF d.1 d.2)/\(decide (d.1.getD ((x:Int).toNat) (0:Int)=d.2)=false->∃(x':Nat),(x'<=d.1.length/\¬d.2∈List.take x' d.1)/\d.1.length-x'<d.1.length-x/\d.1=d.1/\d.2=d.2/\i64.wrap ((x:Int)+(1:Int))=(x':Int)))/\(decide ((x:Int)<(d.1.length:Int))=false->false=sF d.1 d.2):=by
  intro (d:List Int×Int) hw _
  obtain⟨l,y⟩:=d
  have hl:l.length<=9223372036854775807:=hw.1.1
  simp only[exists_const,forall_const,decide_eq_true_eq,decide_eq_false_iff_not,beq_iff_eq,sxS]
  refine⟨⟨by omega,by simp⟩,rfl,fun x hx=>⟨fun h=>⟨⟨by omega,by omega⟩,fun h1=>?_,fun h1=>?_⟩,fun h=>?_⟩⟩
  ·unfold sF
   refine (decide_eq_true ?_).symm
   rw[<-h1];exact D2 (by omega)
  ·exact⟨x+1,⟨by omega,D3 (by omega) hx.2 h1⟩,by omega,aC (by omega)⟩
  ·unfold sF
   refine (decide_eq_false ?_).symm
   have:=hx.2
   rwa [List.take_of_length_le (by omega)] at this
theorem FD :
 ∀(d:Int×List Int),Ty.wf ah d.1/\Ty.wf ai d.2->True->True/\((!(decide ((1:Int)<=(d.2.length:Int))&&decide ((d.2.length:Int)<=(40:Int))))=true->false=bn d.1 d.2)/\((!(decide ((1:Int)<=(d.2.length:Int))&&decide ((d.2.length:Int)<=(40:Int))))=false->True/\((!aw d.1 d.2)=true->false=bn d.1 d.2)/\((!aw d.1 d.2)=false->((0:Nat)<=d.2.length/\List.Nodup (List.take (0:Nat) d.2))/\(d.1=d.1/\d.2=d.2/\(0:Int)=(↑(0:Nat):Int))/\∀(x:Nat),x<=d.2.length/\List.Nodup (List.take x d.2)->(decide ((x:Int)<(d.2.length:Int))=true->((0:Int)<=(0:Int)/\(0:Int)<=(x:Int)/\(x:Int)<=(d.2.length:Int))/\((0:Int)<=(x:Int)/\(x:Int)<(d.2.length:Int))/\True/\(sF (List.drop ((0:Int).toNat) (List.take ((x:Int).toNat) d.2)) (d.2.getD ((x:Int).toNat) (0:Int))=true->false=bn d.1 d.2)/\(sF (List.drop ((0:Int).toNat) (List.take ((x:Int).toNat) d.2)) (d.2.getD ((x:Int).toNat) (0:Int))=false->∃(x':Nat),(x'<=d.2.length/\List.Nodup (List.take x' d.2))/\d.2.length-x'<d.2.length-x/\d.1=d.1/\d.2=d.2/\i64.wrap ((x:Int)+(1:Int))=(x':Int)))/\(decide ((x:Int)<(d.2.length:Int))=false->true=bn d.1 d.2))):=by
  intro (d:Int×List Int) hw _
  obtain⟨f,xs⟩:=d
  have hl:xs.length<=9223372036854775807:=hw.2.1
  simp only[exists_const,forall_const,decide_eq_true_eq,decide_eq_false_iff_not,beq_iff_eq,sxS]
  refine⟨fun h=>?_,fun h=>⟨fun h1=>?_,fun h1=>⟨⟨by omega,by simp⟩,rfl,fun x hx=>⟨fun h2=>⟨⟨by omega,by omega,by omega⟩,⟨by omega,by omega⟩,fun h3=>?_,fun h3=>?_⟩,fun h2=>?_⟩⟩⟩⟩
  ·cases hp:bn f xs with
   | false=>rfl
   | true =>
     have:=iL hp
     rw[decide_eq_true (show (1:Int)<=xs.length by omega),decide_eq_true (show (xs.length:Int)<=40 by omega)] at h
     cases h
  ·unfold bn
   rw[h1,Bool.and_false];rfl
  ·simp only[Int.toNat_zero,List.drop_zero] at h3
   cases hp:bn f xs with
   | false=>rfl
   | true =>
     have h4:=IY (iL hp).2.2.2.2 (x+1)
     rw[sT (by omega)] at h4
     exact absurd (of_decide_eq_true h3) h4.2
  ·simp only[Int.toNat_zero,List.drop_zero] at h3
   exact⟨x+1,⟨by omega,(sT (by omega)).2 ⟨hx.2,of_decide_eq_false h3⟩⟩,by omega,aC (by omega)⟩
  ·have h3:=hx.2
   rw[List.take_of_length_le (by omega)] at h3
   simp only[Bool.and_eq_true,decide_eq_true_eq] at h
   unfold aw at h1
   rw[Bool.and_eq_true,decide_eq_true_eq] at h1
   exact (I6 h1.1 (by omega) (by omega) h1.2 h3).symm
theorem Aw :
 ∀(d:Int×List Int),Ty.wf ah d.1/\Ty.wf ai d.2->True->True/\(Ty.wf bm (al d.1).1/\Ty.wf Ty.bool (al d.1).2->((!(al d.1).2)=true->(((0:Int),(0:Int),(0:Int)),false)=fj d.1 d.2)/\((!(al d.1).2)=false->(decide ((d.2.length:Int)<(1:Int))=true->(((0:Int),(0:Int),(0:Int)),false)=fj d.1 d.2)/\(decide ((d.2.length:Int)<(1:Int))=false->(decide ((40:Int)<(d.2.length:Int))=true->(((0:Int),(0:Int),(0:Int)),false)=fj d.1 d.2)/\(decide ((40:Int)<(d.2.length:Int))=false->True/\((!ak (al d.1).1.1 d.2)=true->(((0:Int),(0:Int),(0:Int)),false)=fj d.1 d.2)/\((!ak (al d.1).1.1 d.2)=false->((0:Nat)<=d.2.length/\List.Nodup (List.take (0:Nat) d.2))/\((d.1=d.1/\d.2=d.2/\ae ((al d.1).2)/\d.2=d.2/\ae (d.2.length:Int)/\(0:Int)=(↑(0:Nat):Int))/\(ae (0:Int)/\ae (0:Int)/\ae (0:Int))/\ae ((al d.1).1.1)/\ae ((al d.1).1.2.1)/\ae ((al d.1).1.2.2))/\∀(x:Nat),x<=d.2.length/\List.Nodup (List.take x d.2)->(decide ((x:Int)<(d.2.length:Int))=true->((0:Int)<=(x:Int)/\(x:Int)<(d.2.length:Int))/\((0:Int)<=(0:Int)/\(0:Int)<=(x:Int)/\(x:Int)<=(d.2.length:Int))/\((0:Nat)<=x/\¬d.2.getD x (0:Int)∈List.take (0:Nat) d.2)/\((d.1=d.1/\d.2=d.2/\ae ((al d.1).2)/\ae (x:Int)/\ae (d.2.getD ((x:Int).toNat) (0:Int))/\d.2=d.2/\ae (d.2.length:Int)/\ae (x:Int)/\ae (List.drop ((0:Int).toNat) (List.take ((x:Int).toNat) d.2))/\ae (↑(List.length (List.drop ((0:Int).toNat) (List.take ((x:Int).toNat) d.2))):Int)/\(0:Int)=(↑(0:Nat):Int))/\(ae (0:Int)/\ae (0:Int)/\ae (0:Int))/\ae ((al d.1).1.1)/\ae ((al d.1).1.2.1)/\ae ((al d.1).1.2.2))/\∀(x_1:Nat),x_1<=x/\¬d.2.getD x (0:Int)∈List.take x_1 d.2->(decide ((x_1:Int)<(↑(List.length (List.drop ((0:Int).toNat) (List.take ((x:Int).toNat) d.2))):Int))=true->((0:Int)<=(x_1:Int)/\(x_1:Int)<(↑(List.length (List.drop ((0:Int).toNat) (List.take ((x:Int).toNat) d.2))):Int))/\(decide (d.2.getD ((x:Int).toNat) (0:Int)=List.getD (List.drop ((0:Int).toNat) (List.take ((x:Int).toNat) d.2)) ((x_1:Int).toNat) (0:Int))=true->(((0:Int),(0:Int),(0:Int)),false)=fj d.1 d.2)/\(decide (d.2.getD ((x:Int).toNat) (0:Int)=List.getD (List.drop ((0:Int).toNat) (List.take ((x:Int).toNat) d.2)) ((x_1:Int).toNat) (0:Int))=false->∃(x':Nat),(x'<=x/\¬d.2.getD x (0:Int)∈List.take x' d.2)/\x-x'<x-x_1/\(d.1=d.1/\d.2=d.2/\ae ((al d.1).2)/\ae (x:Int)/\ae (d.2.getD ((x:Int).toNat) (0:Int))/\d.2=d.2/\ae (d.2.length:Int)/\ae (x:Int)/\ae (List.drop ((0:Int).toNat) (List.take ((x:Int).toNat) d.2))/\ae (↑(List.length (List.drop ((0:Int).toNat) (List.take ((x:Int).toNat) d.2))):Int)/\i64.wrap ((x_1:Int)+(1:Int))=(x':Int))/\(ae (0:Int)/\ae (0:Int)/\ae (0:Int))/\ae ((al d.1).1.1)/\ae ((al d.1).1.2.1)/\ae ((al d.1).1.2.2)))/\(decide ((x_1:Int)<(↑(List.length (List.drop ((0:Int).toNat) (List.take ((x:Int).toNat) d.2))):Int))=false->∃(x':Nat),(x'<=d.2.length/\List.Nodup (List.take x' d.2))/\d.2.length-x'<d.2.length-x/\(d.1=d.1/\d.2=d.2/\ae ((al d.1).2)/\d.2=d.2/\ae (d.2.length:Int)/\i64.wrap ((x:Int)+(1:Int))=(x':Int))/\(ae (0:Int)/\ae (0:Int)/\ae (0:Int))/\ae ((al d.1).1.1)/\ae ((al d.1).1.2.1)/\ae ((al d.1).1.2.2)))/\(decide ((x:Int)<(d.2.length:Int))=false->((Prod.fst (al d.1).1,(al d.1).1.2.1,(al d.1).1.2.2),true)=fj d.1 d.2)))))):=by
  intro (d:Int×List Int) hw _
  obtain⟨f,xs⟩:=d
  have hl:xs.length<=9223372036854775807:=hw.2.1
  simp only[exists_const,forall_const,decide_eq_true_eq,decide_eq_false_iff_not,beq_iff_eq,sxS]
  intro _
  have iV:∀ {P:Prop},(bn f xs=true->False)->((0,0,0),false)=fj f xs:=fun h=>by
   cases hp:bn f xs with
   | false=>rw[Oe hp]
   | true=>exact (h hp).elim
  have hf:∀ {b},(al f).2=b->b=true->ab f≠0:=fun h e=>by
   subst e
   have:=gL (et.1 h)
   omega
  refine⟨fun h=>iV (P:=True) (fun hp=>?_),fun h=>⟨fun h1=>iV (P:=True) (fun hp=>?_),fun h1=>⟨fun h2=>iV (P:=True) (fun hp=>?_),fun h2=>⟨fun h3=>iV (P:=True) (fun hp=>?_),fun h3=>?_⟩⟩⟩⟩
  ·have:=iL hp
   have h4:¬(0<=f/\f<9):=fun hh=>by rw[et.2 hh] at h;cases h
   exact this.1 (kp h4)
  ·have:=iL hp;omega
  ·have:=iL hp;omega
  ·have:=(iL hp).2.2.2.1
   rw[show ab f=(al f).1.1 from rfl,h3] at this;cases this
  ·refine⟨⟨by omega,by simp⟩,rfl,fun x hx=>⟨fun h4=>⟨⟨by omega,by omega⟩,⟨by omega,by omega,by omega⟩,⟨by omega,by simp⟩,rfl,fun y hy=>?_⟩,fun h4=>?_⟩⟩
   ·simp only[Int.toNat_zero,List.drop_zero,List.length_take]
    rw[Nat.min_eq_left (by omega)]
    refine⟨fun h5=>⟨⟨by omega,by omega⟩,?_⟩,fun h5=>?_⟩
    ·rw[pX (by omega)]
     refine⟨fun h6=>iV (P:=True) (fun hp=>?_),fun h6=>?_⟩
     ·exact D9 (iL hp).2.2.2.2 (i:=x) (j:=y) (by omega) (by omega) (by omega) h6
     ·exact⟨y+1,⟨by omega,D3 (by omega) hy.2 (Ne.symm h6)⟩,by omega,aC (by omega)⟩
    ·obtain rfl:y=x:=by omega
     exact⟨y+1,⟨by omega,(sT (by omega)).2 ⟨hx.2,hy.2⟩⟩,by omega,aC (by omega)⟩
   ·have h5:=hx.2
    rw[List.take_of_length_le (by omega)] at h5
    rw[y6 (I6 (hf h rfl) (by omega) (by omega) h3 h5)]
theorem JL :
 ∀(d:(Int×Int×Int)×List Int×Int),Ty.wf bm d.1/\Ty.wf ai d.2.1/\Ty.wf ah d.2.2->an d.1.1/\ak d.1.1 d.2.1=true/\(0:bU [ah])<=d.2.2/\d.2.2<(↑d.2.1.length:bU [ah])->(0:Nat)<=d.2.1.length/\(((ae d.1.1/\ae d.1.2.1/\ae d.1.2.2)/\ae d.2.1/\ae d.2.2/\ae (0:Int)/\(1:Int)=eU d.1.1 d.2.1 d.2.2.toNat (0:Nat)/\ae d.2.1/\ae (d.2.1.length:Int)/\(0:Int)=(↑(0:Nat):Int))/\ae d.1.1/\ae d.1.2.1/\ae d.1.2.2)/\∀(x:Nat),x<=d.2.1.length->(decide ((x:Int)<(d.2.1.length:Int))=true->((0:Int)<=(x:Int)/\(x:Int)<(d.2.1.length:Int))/\((!decide ((x:Int)=d.2.2))=true->((0:Int)<=d.2.2/\d.2.2<(d.2.1.length:Int))/\(an d.1.1/\El d.1.1 (d.2.1.getD d.2.2.toNat (0:Int))/\El d.1.1 (d.2.1.getD ((x:Int).toNat) (0:Int)))/\(an d.1.1/\El d.1.1 (eU d.1.1 d.2.1 d.2.2.toNat x)/\El d.1.1 (bd d.1.1 (d.2.1.getD d.2.2.toNat (0:Int)) (d.2.1.getD ((x:Int).toNat) (0:Int))))/\(Ty.wf ah (mulM d.1.1 (eU d.1.1 d.2.1 d.2.2.toNat x) (bd d.1.1 (d.2.1.getD d.2.2.toNat (0:Int)) (d.2.1.getD ((x:Int).toNat) (0:Int))))->Ty.wf ah (bd d.1.1 (d.2.1.getD d.2.2.toNat (0:Int)) (d.2.1.getD ((x:Int).toNat) (0:Int)))->∃(x':Nat),x'<=d.2.1.length/\d.2.1.length-x'<d.2.1.length-x/\((ae d.1.1/\ae d.1.2.1/\ae d.1.2.2)/\ae d.2.1/\ae d.2.2/\ae (0:Int)/\mulM d.1.1 (eU d.1.1 d.2.1 d.2.2.toNat x) (bd d.1.1 (d.2.1.getD d.2.2.toNat (0:Int)) (d.2.1.getD ((x:Int).toNat) (0:Int)))=eU d.1.1 d.2.1 d.2.2.toNat x'/\ae d.2.1/\ae (d.2.1.length:Int)/\i64.wrap ((x:Int)+(1:Int))=(x':Int))/\ae d.1.1/\ae d.1.2.1/\ae d.1.2.2))/\((!decide ((x:Int)=d.2.2))=false->∃(x':Nat),x'<=d.2.1.length/\d.2.1.length-x'<d.2.1.length-x/\((ae d.1.1/\ae d.1.2.1/\ae d.1.2.2)/\ae d.2.1/\ae d.2.2/\ae (0:Int)/\eU d.1.1 d.2.1 d.2.2.toNat x=eU d.1.1 d.2.1 d.2.2.toNat x'/\ae d.2.1/\ae (d.2.1.length:Int)/\i64.wrap ((x:Int)+(1:Int))=(x':Int))/\ae d.1.1/\ae d.1.2.1/\ae d.1.2.2))/\(decide ((x:Int)<(d.2.1.length:Int))=false->(an d.1.1/\El d.1.1 (eU d.1.1 d.2.1 d.2.2.toNat x))/\(Ty.wf ah (aR d.1.1 (eU d.1.1 d.2.1 d.2.2.toNat x))->aR d.1.1 (eU d.1.1 d.2.1 d.2.2.toNat x)=j8 d.1.1 d.2.1 d.2.2.toNat)):=by
  intro (d:Fd×List Int×Int) hw hp
  obtain⟨⟨p,g,t⟩,xs,i⟩:=d
  have hl:xs.length<=9223372036854775807:=hw.2.1.1
  replace hp:an p/\ak p xs=true/\(0:Int)<=i/\i<(xs.length:Nat):=hp
  simp only[exists_const,forall_const,decide_eq_true_eq,decide_eq_false_iff_not,beq_iff_eq,sxS]
  obtain⟨h0,h1,h2,h3⟩:=hp
  obtain⟨n,rfl⟩:=Int.eq_ofNat_of_zero_le h2
  simp only[Int.toNat_natCast]
  refine⟨by omega,⟨rfl,rfl⟩,fun x hx=>⟨fun h4=>⟨⟨by omega,by omega⟩,fun h5=>⟨⟨by omega,by omega⟩,⟨h0,mK h1 (by omega),mK h1 (by omega)⟩,⟨h0,Ix h0 _ _ _,iq h0 _ _⟩,fun _ _=>?_⟩,fun h5=>?_⟩,fun h4=>?_⟩⟩
  ·refine⟨x+1,by omega,by omega,?_,aC (by omega)⟩
   show _=if x=n then _ else _
   rw[if_neg (by omega)]
  ·refine⟨x+1,by omega,by omega,?_,aC (by omega)⟩
   show _=if x=n then _ else _
   rw[if_pos (by omega)]
  ·obtain rfl:x=xs.length:=by omega
   exact⟨⟨h0,Ix h0 _ _ _⟩,fun _=>rfl⟩
set_option maxRecDepth 10000
theorem fP{α:Type}(g:Nat->α)(n:Nat):((List.range n).map g).length=n:=by rw[List.length_map,List.length_range]
theorem lB(g:Nat->Int)(n i:Nat):((List.range n).map g).getD i 0=if i<n then g i else 0:=by
 rw[List.getD_eq_getElem?_getD,List.getElem?_map]
 by_cases h:i<n
 ·rw[List.getElem?_range h,if_pos h];rfl
 ·rw[List.getElem?_eq_none (by rw[List.length_range];omega),if_neg h];rfl
theorem rF{α:Type}(g:Nat->α)(n:Nat):(List.range n).map g++[g n]=(List.range (n+1)).map g:=by rw[List.range_succ,List.map_append];rfl
theorem cX{α:Type}{g h:Nat->α}{n:Nat}(e:∀ i,i<n->g i=h i):(List.range n).map g=(List.range n).map h :=
 List.map_congr_left (fun i hi=>e i (List.mem_range.1 hi))
theorem lC{α:Type}(g:Nat->α)(n i:Nat)(v:α):((List.range n).map g).set i v=(List.range n).map (fun t=>if t=i then v else g t):=by
 apply List.ext_getElem?
 intro j
 simp only[List.getElem?_set,List.getElem?_map,List.length_map,List.length_range]
 by_cases h:i=j
 ·subst h
  by_cases hn:i<n
  ·simp[hn]
  ·simp[hn]
 ·by_cases hn:j<n
  ·simp[h,hn,Ne.symm h]
  ·simp[h,hn]
theorem pD{α:Type}(v:α)(n:Nat):List.replicate n v=(List.range n).map (fun _=>v):=by rw[List.map_const',List.length_range]
theorem dr{p:Int}(hp:an p){xs:List Int}(h:ak p xs=true)(i:Nat):El p (xs.getD i 0):=by
 by_cases hi:i<xs.length
 ·exact mK h hi
 ·rw[List.getD_eq_getElem?_getD,List.getElem?_eq_none (by omega)]
  exact ep hp
theorem r6{p:Int}{xs:List Int}(h:∀ i,i<xs.length->El p (xs.getD i 0)):ak p xs=true:=by
 unfold ak
 rw[decide_eq_true_eq]
 intro x hx
 obtain⟨i,hi,rfl⟩:=List.getElem_of_mem hx
 have:=h i hi
 rw[List.getD_eq_getElem?_getD,List.getElem?_eq_getElem hi] at this
 unfold El at this
 simp only[Option.getD_some] at this
 omega
theorem xg{p:Int}{g:Nat->Int}{n:Nat}(h:∀ i,i<n->El p (g i)):ak p ((List.range n).map g)=true:=by
 refine r6 (fun i hi=>?_)
 rw[fP] at hi
 rw[lB,if_pos hi]
 exact h i hi
theorem Iy{p:Int}{xs:List Int}(h:ak p xs=true)(n:Nat):ak p (xs.take n)=true:=by
 unfold ak at *
 rw[decide_eq_true_eq] at *
 exact fun x hx=>h x (List.mem_of_mem_take hx)
theorem fF{f:Int}{a:List Int}(h:aw f a=true):ab f≠0/\ak (ab f) a=true:=by
 unfold aw at h
 rw[Bool.and_eq_true,decide_eq_true_eq] at h
 exact h
theorem fb{f:Int}{a:List Int}(h:ab f≠0)(h1:ak (ab f) a=true):aw f a=true:=by
 unfold aw
 rw[Bool.and_eq_true,decide_eq_true_eq]
 exact⟨h,h1⟩
theorem vy(l:List Int):∀ n,kh l n<=n
 | 0=>Nat.le_refl _
 | n+1=>by
   unfold kh
   split
   ·have:=vy l n;omega
   ·exact Nat.le_refl _
theorem vw(l:List Int):gA l<=l.length:=vy l _
theorem A1(l:List Int):lZ l l.length:=⟨Nat.le_refl _,rfl⟩
theorem C6{l:List Int}{k:Nat}(h:lZ l (k+1))(h0:l.getD k 0=0):lZ l k:=by
 refine⟨by have:=h.1;omega,?_⟩
 have:=h.2
 unfold kh at this
 rwa [if_pos h0] at this
theorem C7{l:List Int}{k:Nat}(h:lZ l (k+1))(h0:¬l.getD k 0=0):k+1=gA l:=by
 have:=h.2
 unfold kh at this
 rwa [if_neg h0] at this
theorem Hg{l:List Int}(h:lZ l 0):0=gA l:=h.2
theorem mF(l:List Int):(bz l).length=gA l:=by
 unfold bz
 rw[List.length_take,Nat.min_eq_left (vw l)]
theorem fG(l:List Int):fB l=true↔l.length=0\/l.getD (l.length-1) 0≠0:=by
 unfold fB gA
 rw[decide_eq_true_eq]
 match h:l.length with
 | 0=>exact⟨fun _=>.inl rfl,fun _=>rfl⟩
 | n+1 =>
   rw[Nat.add_sub_cancel]
   unfold kh
   split
   ·rename_i h0
    have:=vy l n
    exact⟨fun e=>by omega,fun e=>e.elim (fun e=>by omega) (fun e=>absurd h0 e)⟩
   ·rename_i h0
    exact⟨fun _=>.inr h0,fun _=>rfl⟩
theorem b6{f:Int}{a:List Int}(h:aL f a=true):ab f≠0/\ak (ab f) a=true/\a.length<=400/\fB a=true:=by
 unfold aL at h
 simp only[Bool.and_eq_true,decide_eq_true_eq] at h
 have:=fF h.1.2
 exact⟨this.1,this.2,h.1.1,h.2⟩
theorem iw{f:Int}{a:List Int}(h:ab f≠0)(h1:ak (ab f) a=true)(h2:a.length<=400)(h3:fB a=true):aL f a=true:=by
 unfold aL
 simp only[Bool.and_eq_true,decide_eq_true_eq]
 exact⟨⟨h2,fb h h1⟩,h3⟩
theorem Kb(a:List Int)(x:Nat):eg a (x:Int)=a.getD x 0:=by
 unfold eg
 rw[if_pos (by omega),Int.toNat_natCast]
theorem ye(p:Int)(a b:List Int)(n:Nat):dF p a b n++[c_ p (a.getD n 0) (b.getD n 0)]=dF p a b (n+1):=rF _ n
theorem uh(p:Int)(a b:List Int)(n:Nat):(dF p a b n).length=n:=fP _ n
theorem BA(p:Int)(a:List Int)(c:Int)(n:Nat):gO p a c n++[mulM p (a.getD n 0) c]=gO p a c (n+1):=rF _ n
theorem xD(p:Int)(a:List Int)(c:Int)(n:Nat):(gO p a c n).length=n:=fP _ n
theorem IX(p:Int)(a b:List Int)(n:Nat):dH p a b n++[dO p a b n (min (n+1) a.length)]=dH p a b (n+1):=rF (fun i=>dO p a b i (min (i+1) a.length)) n
theorem uN(p:Int)(a b:List Int)(n:Nat):(dH p a b n).length=n:=fP _ n
theorem zV{p:Int}(hp:an p)(a b:List Int)(i:Nat):∀ j,El p (dO p a b i j)
 | 0=>ep hp
 | j+1=>by
   unfold dO
   split
   ·exact cN (by unfold an at hp;omega) _
   ·exact zV hp a b i j
theorem nk{p:Int}{a b:List Int}{i j:Nat}(h:i-j<b.length):dO p a b i (j+1)=(dO p a b i j+a.getD j 0*b.getD (i-j) 0)%p:=by
 show (if _ then _ else _)=_
 rw[if_pos h]
theorem qb{p:Int}{a b:List Int}{i j:Nat}(h:¬i-j<b.length):dO p a b i (j+1)=dO p a b i j:=by
 show (if _ then _ else _)=_
 rw[if_neg h]
theorem CV{p s a b:Int}(hp:an p)(hs:El p s)(ha:El p a)(hb:El p b):(i64.wrap (s+i64.wrap (a*b))).tmod p=(s+a*b)%p:=by
 have h:=i_ hp ha hb
 unfold an at hp;unfold El at hs
 rw[wrap_small (n:=a*b) (by omega),wrap_small (by omega),mD (by omega)]
theorem vO(p:Int)(a b:List Int)(x y:Nat):(dh p a b x y).length=a.length+b.length-1:=fP _ _
theorem Nk(p:Int)(a b:List Int):List.replicate (a.length+b.length-1) 0=dh p a b 0 0:=by
 rw[pD]
 refine cX (fun t _=>?_)
 rw[if_neg (by omega),Nat.zero_min]
 rfl
theorem Pf{p:Int}{a b:List Int}{x y:Nat}(hx:x<a.length)(hy:y<b.length):(dh p a b x y).getD (x+y) 0=dO p a b (x+y) x:=by
 unfold dh
 rw[lB,if_pos (by omega),if_neg (by omega),Nat.min_eq_left (by omega)]
theorem Pg{p:Int}{a b:List Int}{x y:Nat}(hx:x<a.length)(hy:y<b.length):(dh p a b x y).set (x+y) (dO p a b (x+y) (x+1))=dh p a b x (y+1):=by
 unfold dh
 rw[lC]
 refine cX (fun t _=>?_)
 by_cases h:t=x+y
 ·subst h
  rw[if_pos rfl,if_pos (by omega)]
 ·rw[if_neg h]
  by_cases h2:x<=t/\t<x+y
  ·rw[if_pos h2,if_pos (by omega)]
  ·rw[if_neg h2,if_neg (by omega)]
theorem Nj(p:Int)(a b:List Int)(x:Nat):dh p a b x b.length=dh p a b (x+1) 0:=by
 refine cX (fun t _=>?_)
 rw[if_neg (show ¬(x+1<=t/\t<x+1+0) by omega)]
 by_cases h:x<=t
 ·rw[Nat.min_eq_left (show x+1<=t+1 by omega)]
  by_cases h2:t<x+b.length
  ·rw[if_pos ⟨h,h2⟩]
  ·rw[if_neg (by omega),Nat.min_eq_left (by omega),qb (by omega)]
 ·rw[if_neg (by omega),Nat.min_eq_right (by omega),Nat.min_eq_right (by omega)]
theorem Pe(p:Int)(a b:List Int):dh p a b a.length 0=dH p a b (a.length+b.length-1):=by
 refine cX (fun t _=>?_)
 rw[if_neg (by omega),Nat.min_comm]
theorem pJ(l:List Int):fB (bz l)=true:=by
 have key:∀ n,n<=l.length->kh l n=0\/l.getD (kh l n-1) 0≠0:=by
  intro n
  induction n with
  | zero=>intro _;exact .inl rfl
  | succ n ih =>
    intro h
    unfold kh
    split
    ·exact ih (by omega)
    ·rename_i h0;exact .inr h0
 rw[fG,mF]
 rcases key l.length (Nat.le_refl _) with h|h
 ·exact .inl h
 ·by_cases h0:gA l=0
  ·exact .inl h0
  ·refine .inr ?_
   unfold bz
   rw[pX (by omega)]
   exact h
theorem JY :
 ∀(d:List Int),Ty.wf ai d->d.length<=(1048576:Nat)->lZ d d.length/\(d=d/\aQ/\ae (d.length:Int))/\∀(x:Nat),lZ d x->(decide ((0:Int)<(x:Int))=true->((0:Int)<=i64.wrap ((x:Int)-(1:Int))/\i64.wrap ((x:Int)-(1:Int))<(d.length:Int))/\(decide (d.getD (Int.toNat (i64.wrap ((x:Int)-(1:Int)))) (0:Int)=(0:Int))=true->∃(x':Nat),lZ d x'/\x'<x/\d=d/\aQ/\i64.wrap ((x:Int)-(1:Int))=(x':Int))/\(decide (d.getD (Int.toNat (i64.wrap ((x:Int)-(1:Int)))) (0:Int)=(0:Int))=false->((0:Int)<=(0:Int)/\(0:Int)<=(x:Int)/\(x:Int)<=(d.length:Int))/\List.length (List.drop ((0:Int).toNat) (List.take ((x:Int).toNat) d))<=(1048576:Nat)/\(Ty.wf ai (List.drop ((0:Int).toNat) (List.take ((x:Int).toNat) d))->List.drop ((0:Int).toNat) (List.take ((x:Int).toNat) d)=bz d)))/\(decide ((0:Int)<(x:Int))=false->((0:Int)<=(0:Int)/\(0:Int)<=(x:Int)/\(x:Int)<=(d.length:Int))/\List.length (List.drop ((0:Int).toNat) (List.take ((x:Int).toNat) d))<=(1048576:Nat)/\(Ty.wf ai (List.drop ((0:Int).toNat) (List.take ((x:Int).toNat) d))->List.drop ((0:Int).toNat) (List.take ((x:Int).toNat) d)=bz d)):=by
  intro (a:List Int) hw hp
  replace hp:a.length<=1048576:=hp
  simp only[exists_const,forall_const,decide_eq_true_eq,decide_eq_false_iff_not,beq_iff_eq,sxS]
  refine⟨A1 a,fun x hx=>?_⟩
  have jY:=hx.1
  match x,hx with
  | 0,hx =>
    refine⟨fun h=>absurd h (by omega),fun _=>?_⟩
    have hc:=Hg hx
    simp only[Int.toNat_zero,List.drop_zero,Int.natCast_zero,List.take_zero]
    refine⟨⟨by omega,by omega,by omega⟩,by simp,fun _=>?_⟩
    unfold bz
    rw[<-hc];rfl
  | x+1,hx =>
    have jY:x+1<=a.length:=hx.1
    have lx:i64.wrap (((x+1:Nat):Int)-1)=(x:Int):=by rw[wrap_small (by omega)];omega
    rw[lx]
    simp only[Int.toNat_natCast,Int.toNat_zero,List.drop_zero]
    refine⟨fun _=>⟨⟨by omega,by omega⟩,fun h=>⟨x,C6 hx h,by omega,rfl⟩,fun h=>?_⟩,fun h=>absurd h (by omega)⟩
    have hc:=C7 hx h
    refine⟨⟨by omega,by omega,by omega⟩,by rw[List.length_take];omega,fun _=>?_⟩
    unfold bz
    rw[<-hc]
theorem JT :
 ∀(d:Int×List Int),Ty.wf ah d.1/\Ty.wf ai d.2->True->(decide ((400:Int)<(d.2.length:Int))=true->false=aL d.1 d.2)/\(decide ((400:Int)<(d.2.length:Int))=false->True/\((!aw d.1 d.2)=true->false=aL d.1 d.2)/\((!aw d.1 d.2)=false->(decide ((d.2.length:Int)=(0:Int))=true->true=aL d.1 d.2)/\(decide ((d.2.length:Int)=(0:Int))=false->((0:Int)<=i64.wrap ((d.2.length:Int)-(1:Int))/\i64.wrap ((d.2.length:Int)-(1:Int))<(d.2.length:Int))/\(!decide (d.2.getD (Int.toNat (i64.wrap ((d.2.length:Int)-(1:Int)))) (0:Int)=(0:Int)))=aL d.1 d.2))):=by
  intro (d:Int×List Int) hw _
  obtain⟨f,a⟩:=d
  have hl:a.length<=9223372036854775807:=hw.2.1
  simp only[exists_const,forall_const,decide_eq_true_eq,decide_eq_false_iff_not,beq_iff_eq,sxS]
  have no:∀ {b},(aL f a=true->False)->b=false->b=aL f a:=fun h e=>by
   subst e
   cases hp:aL f a with
   | false=>rfl
   | true=>exact (h hp).elim
  refine⟨fun h=>no (fun hp=>?_) rfl,fun h=>⟨fun h1=>no (fun hp=>?_) rfl,fun h1=>⟨fun h2=>?_,fun h2=>?_⟩⟩⟩
  ·have:=(b6 hp).2.2.1;omega
  ·have:=b6 hp
   rw[fb this.1 this.2.1] at h1;cases h1
  ·have h3:=fF h1
   exact (iw h3.1 h3.2 (by omega) ((fG a).2 (.inl (by omega)))).symm
  ·have h3:=fF h1
   have lx:i64.wrap ((a.length:Int)-1)=((a.length-1:Nat):Int):=by rw[wrap_small (by omega)];omega
   rw[lx,Int.toNat_natCast]
   refine⟨⟨by omega,by omega⟩,?_⟩
   by_cases h4:a.getD (a.length-1) 0=0
   ·rw[decide_eq_true h4]
    refine no (fun hp=>?_) rfl
    rcases (fG a).1 (b6 hp).2.2.2 with h5|h5
    ·omega
    ·exact h5 h4
   ·rw[decide_eq_false h4]
    exact (iw h3.1 h3.2 (by omega) ((fG a).2 (.inr h4))).symm
theorem Mn :
 ∀(d:List Int×Int),Ty.wf ai d.1/\Ty.wf ah d.2->True->(decide ((0:Int)<=d.2)=true->(decide (d.2<(d.1.length:Int))=true->((0:Int)<=d.2/\d.2<(d.1.length:Int))/\d.1.getD d.2.toNat (0:Int)=eg d.1 d.2)/\(decide (d.2<(d.1.length:Int))=false->(0:Int)=eg d.1 d.2))/\(decide ((0:Int)<=d.2)=false->(0:Int)=eg d.1 d.2):=by
  intro (d:List Int×Int) hw _
  obtain⟨a,i⟩:=d
  simp only[exists_const,forall_const,decide_eq_true_eq,decide_eq_false_iff_not,beq_iff_eq,sxS]
  unfold eg
  refine⟨fun h=>⟨fun h1=>⟨⟨h,h1⟩,by rw[if_pos h]⟩,fun h1=>?_⟩,fun h=>by rw[if_neg h]⟩
  rw[if_pos h,List.getD_eq_getElem?_getD,List.getElem?_eq_none (by omega)];rfl
theorem GV :
 ∀(d:Int×List Int×List Int),Ty.wf ah d.1/\Ty.wf ai d.2.1/\Ty.wf ai d.2.2->True->True/\((!aL d.1 d.2.1)=true->[]=mH d.1 d.2.1 d.2.2)/\((!aL d.1 d.2.1)=false->True/\((!aL d.1 d.2.2)=true->[]=mH d.1 d.2.1 d.2.2)/\((!aL d.1 d.2.2)=false->(0:Nat)<=max d.2.1.length d.2.2.length/\((d.1=d.1/\ae d.2.1/\ae d.2.2/\aQ/\(0:Int)=(↑(0:Nat):Int))/\[]=dF (ab d.1) d.2.1 d.2.2 (0:Nat))/\∀(x:Nat),x<=max d.2.1.length d.2.2.length->(decide ((x:Int)<(d.2.1.length:Int))=true->True/\(Ty.wf ah (eg d.2.1 (x:Int))->True/\(Ty.wf ah (eg d.2.2 (x:Int))->True/\(Ty.wf ah (kO d.1 (eg d.2.1 (x:Int)) (eg d.2.2 (x:Int)))->(List.length (dF (ab d.1) d.2.1 d.2.2 x)+List.length [kO d.1 (eg d.2.1 (x:Int)) (eg d.2.2 (x:Int))])*(8:Nat)<=(140737488355328:Nat)/\∃(x':Nat),x'<=max d.2.1.length d.2.2.length/\max d.2.1.length d.2.2.length-x'<max d.2.1.length d.2.2.length-x/\(d.1=d.1/\ae d.2.1/\ae d.2.2/\aQ/\i64.wrap ((x:Int)+(1:Int))=(x':Int))/\dF (ab d.1) d.2.1 d.2.2 x++[kO d.1 (eg d.2.1 (x:Int)) (eg d.2.2 (x:Int))]=dF (ab d.1) d.2.1 d.2.2 x'))))/\(decide ((x:Int)<(d.2.1.length:Int))=false->(decide ((x:Int)<(d.2.2.length:Int))=true->True/\(Ty.wf ah (eg d.2.1 (x:Int))->True/\(Ty.wf ah (eg d.2.2 (x:Int))->True/\(Ty.wf ah (kO d.1 (eg d.2.1 (x:Int)) (eg d.2.2 (x:Int)))->(List.length (dF (ab d.1) d.2.1 d.2.2 x)+List.length [kO d.1 (eg d.2.1 (x:Int)) (eg d.2.2 (x:Int))])*(8:Nat)<=(140737488355328:Nat)/\∃(x':Nat),x'<=max d.2.1.length d.2.2.length/\max d.2.1.length d.2.2.length-x'<max d.2.1.length d.2.2.length-x/\(d.1=d.1/\ae d.2.1/\ae d.2.2/\aQ/\i64.wrap ((x:Int)+(1:Int))=(x':Int))/\dF (ab d.1) d.2.1 d.2.2 x++[kO d.1 (eg d.2.1 (x:Int)) (eg d.2.2 (x:Int))]=dF (ab d.1) d.2.1 d.2.2 x'))))/\(decide ((x:Int)<(d.2.2.length:Int))=false->List.length (dF (ab d.1) d.2.1 d.2.2 x)<=(1048576:Nat)/\(Ty.wf ai (bz (dF (ab d.1) d.2.1 d.2.2 x))->bz (dF (ab d.1) d.2.1 d.2.2 x)=mH d.1 d.2.1 d.2.2))))):=by
  intro (d:Int×List Int×List Int) hw _
  obtain⟨f,a,b⟩:=d
  simp only[exists_const,forall_const,decide_eq_true_eq,decide_eq_false_iff_not,beq_iff_eq,sxS]
  have no:∀ {P:Prop},((aL f a&&aL f b)=false)->[]=mH f a b:=fun h=>by unfold mH;rw[h];rfl
  refine⟨fun h=>no (P:=True) (by rw[h];rfl),fun h=>⟨fun h1=>no (P:=True) (by rw[h1,Bool.and_false]),fun h1=>⟨by omega,⟨rfl,rfl⟩,fun x hx=>?_⟩⟩⟩
  have ha:=b6 h
  have hb:=b6 h1
  simp only[Kb,zL ha.1,uh]
  have step:x<max a.length b.length->(x+[c_ (ab f) (a.getD x 0) (b.getD x 0)].length)*8<=140737488355328/\∃ x',x'<=max a.length b.length/\max a.length b.length-x'<max a.length b.length-x/\i64.wrap ((x:Int)+1)=(x':Int) ∧
   dF (ab f) a b x++[c_ (ab f) (a.getD x 0) (b.getD x 0)]=dF (ab f) a b x' :=
   fun aK=>⟨by simp only[List.length_cons,List.length_nil];omega,x+1,by omega,by omega,aC (by omega),ye _ _ _ _⟩
  refine⟨fun h2 _ _ _=>step (by omega),fun h2=>⟨fun h3 _ _ _=>step (by omega),fun h3=>⟨by omega,fun _=>?_⟩⟩⟩
  unfold mH nw
  rw[h,h1,show x=max a.length b.length by omega];rfl
theorem Cm :
 ∀(d:Int×List Int×Int),Ty.wf ah d.1/\Ty.wf ai d.2.1/\Ty.wf ah d.2.2->True->True/\((!aL d.1 d.2.1)=true->[]=iy d.1 d.2.1 d.2.2)/\((!aL d.1 d.2.1)=false->(0:Nat)<=d.2.1.length/\((d.1=d.1/\ae d.2.1/\ae d.2.2/\aQ/\(0:Int)=(↑(0:Nat):Int))/\[]=gO (ab d.1) d.2.1 d.2.2 (0:Nat))/\∀(x:Nat),x<=d.2.1.length->(decide ((x:Int)<(d.2.1.length:Int))=true->((0:Int)<=(x:Int)/\(x:Int)<(d.2.1.length:Int))/\True/\(Ty.wf ah (b7 d.1 (d.2.1.getD ((x:Int).toNat) (0:Int)) d.2.2)->(List.length (gO (ab d.1) d.2.1 d.2.2 x)+List.length [b7 d.1 (d.2.1.getD ((x:Int).toNat) (0:Int)) d.2.2])*(8:Nat)<=(140737488355328:Nat)/\∃(x':Nat),x'<=d.2.1.length/\d.2.1.length-x'<d.2.1.length-x/\(d.1=d.1/\ae d.2.1/\ae d.2.2/\aQ/\i64.wrap ((x:Int)+(1:Int))=(x':Int))/\gO (ab d.1) d.2.1 d.2.2 x++[b7 d.1 (d.2.1.getD ((x:Int).toNat) (0:Int)) d.2.2]=gO (ab d.1) d.2.1 d.2.2 x'))/\(decide ((x:Int)<(d.2.1.length:Int))=false->List.length (gO (ab d.1) d.2.1 d.2.2 x)<=(1048576:Nat)/\(Ty.wf ai (bz (gO (ab d.1) d.2.1 d.2.2 x))->bz (gO (ab d.1) d.2.1 d.2.2 x)=iy d.1 d.2.1 d.2.2))):=by
  intro (d:Int×List Int×Int) hw _
  obtain⟨f,a,c⟩:=d
  simp only[exists_const,forall_const,decide_eq_true_eq,decide_eq_false_iff_not,beq_iff_eq,sxS]
  refine⟨fun h=>by unfold iy;rw[h];rfl,fun h=>⟨by omega,⟨rfl,rfl⟩,fun x hx=>?_⟩⟩
  have ha:=b6 h
  simp only[iv ha.1,xD]
  refine⟨fun h2=>⟨⟨by omega,by omega⟩,fun _=>⟨by simp only[List.length_cons,List.length_nil];omega,x+1,by omega,by omega,aC (by omega),BA _ _ _ _⟩⟩,fun h2=>⟨by omega,fun _=>?_⟩⟩
  unfold iy ei
  rw[h,show x=a.length by omega];rfl
theorem JZ :
 ∀(d:Int×List Int×List Int),Ty.wf ah d.1/\Ty.wf ai d.2.1/\Ty.wf ai d.2.2->aw d.1 d.2.1=true/\aw d.1 d.2.2=true/\d.2.1.length<=(1000:Nat)/\d.2.2.length<=(1000:Nat)->True/\(Ty.wf ah (ab d.1)->(decide ((d.2.1.length:Int)=(0:Int))=true->[]=cY (ab d.1) d.2.1 d.2.2)/\(decide ((d.2.1.length:Int)=(0:Int))=false->(decide ((d.2.2.length:Int)=(0:Int))=true->[]=cY (ab d.1) d.2.1 d.2.2)/\(decide ((d.2.2.length:Int)=(0:Int))=false->(0:Nat)<=d.2.1.length+d.2.2.length-(1:Nat)/\((d.1=d.1/\ae d.2.1/\ae d.2.2/\aQ/\ae (ab d.1)/\(0:Int)=(↑(0:Nat):Int))/\[]=dH (ab d.1) d.2.1 d.2.2 (0:Nat))/\∀(x:Nat),x<=d.2.1.length+d.2.2.length-(1:Nat)->(decide ((x:Int)<i64.wrap (i64.wrap ((d.2.1.length:Int)+(d.2.2.length:Int))-(1:Int)))=true->(0:Nat)<=min (x+(1:Nat)) d.2.1.length/\((d.1=d.1/\ae d.2.1/\ae d.2.2/\aQ/\ae (ab d.1)/\ae (x:Int)/\(0:Int)=dO (ab d.1) d.2.1 d.2.2 x (0:Nat)/\(0:Int)=(↑(0:Nat):Int))/\ae (dH (ab d.1) d.2.1 d.2.2 x))/\∀(x_1:Nat),x_1<=min (x+(1:Nat)) d.2.1.length->(decide ((x_1:Int)<=(x:Int))=true->(decide ((x_1:Int)<(d.2.1.length:Int))=true->(decide (i64.wrap ((x:Int)-(x_1:Int))<(d.2.2.length:Int))=true->((0:Int)<=(x_1:Int)/\(x_1:Int)<(d.2.1.length:Int))/\((0:Int)<=i64.wrap ((x:Int)-(x_1:Int))/\i64.wrap ((x:Int)-(x_1:Int))<(d.2.2.length:Int))/\ab d.1≠(0:Int)/\∃(x':Nat),x'<=min (x+(1:Nat)) d.2.1.length/\min (x+(1:Nat)) d.2.1.length-x'<min (x+(1:Nat)) d.2.1.length-x_1/\(d.1=d.1/\ae d.2.1/\ae d.2.2/\aQ/\ae (ab d.1)/\ae (x:Int)/\Int.tmod (i64.wrap (dO (ab d.1) d.2.1 d.2.2 x x_1+i64.wrap (d.2.1.getD ((x_1:Int).toNat) (0:Int)*d.2.2.getD (Int.toNat (i64.wrap ((x:Int)-(x_1:Int)))) (0:Int)))) (ab d.1)=dO (ab d.1) d.2.1 d.2.2 x x'/\i64.wrap ((x_1:Int)+(1:Int))=(x':Int))/\ae (dH (ab d.1) d.2.1 d.2.2 x))/\(decide (i64.wrap ((x:Int)-(x_1:Int))<(d.2.2.length:Int))=false->∃(x':Nat),x'<=min (x+(1:Nat)) d.2.1.length/\min (x+(1:Nat)) d.2.1.length-x'<min (x+(1:Nat)) d.2.1.length-x_1/\(d.1=d.1/\ae d.2.1/\ae d.2.2/\aQ/\ae (ab d.1)/\ae (x:Int)/\dO (ab d.1) d.2.1 d.2.2 x x_1=dO (ab d.1) d.2.1 d.2.2 x x'/\i64.wrap ((x_1:Int)+(1:Int))=(x':Int))/\ae (dH (ab d.1) d.2.1 d.2.2 x)))/\(decide ((x_1:Int)<(d.2.1.length:Int))=false->(List.length (dH (ab d.1) d.2.1 d.2.2 x)+List.length [dO (ab d.1) d.2.1 d.2.2 x x_1])*(8:Nat)<=(140737488355328:Nat)/\∃(x':Nat),x'<=d.2.1.length+d.2.2.length-(1:Nat)/\d.2.1.length+d.2.2.length-(1:Nat)-x'<d.2.1.length+d.2.2.length-(1:Nat)-x/\(d.1=d.1/\ae d.2.1/\ae d.2.2/\aQ/\ae (ab d.1)/\i64.wrap ((x:Int)+(1:Int))=(x':Int))/\dH (ab d.1) d.2.1 d.2.2 x++[dO (ab d.1) d.2.1 d.2.2 x x_1]=dH (ab d.1) d.2.1 d.2.2 x'))/\(decide ((x_1:Int)<=(x:Int))=false->(List.length (dH (ab d.1) d.2.1 d.2.2 x)+List.length [dO (ab d.1) d.2.1 d.2.2 x x_1])*(8:Nat)<=(140737488355328:Nat)/\∃(x':Nat),x'<=d.2.1.length+d.2.2.length-(1:Nat)/\d.2.1.length+d.2.2.length-(1:Nat)-x'<d.2.1.length+d.2.2.length-(1:Nat)-x/\(d.1=d.1/\ae d.2.1/\ae d.2.2/\aQ/\ae (ab d.1)/\i64.wrap ((x:Int)+(1:Int))=(x':Int))/\dH (ab d.1) d.2.1 d.2.2 x++[dO (ab d.1) d.2.1 d.2.2 x x_1]=dH (ab d.1) d.2.1 d.2.2 x'))/\(decide ((x:Int)<i64.wrap (i64.wrap ((d.2.1.length:Int)+(d.2.2.length:Int))-(1:Int)))=false->List.length (dH (ab d.1) d.2.1 d.2.2 x)<=(1048576:Nat)/\(Ty.wf ai (bz (dH (ab d.1) d.2.1 d.2.2 x))->bz (dH (ab d.1) d.2.1 d.2.2 x)=cY (ab d.1) d.2.1 d.2.2))))):=by
  intro (d:Int×List Int×List Int) hw hp
  obtain⟨f,a,b⟩:=d
  replace hp:aw f a=true/\aw f b=true/\a.length<=1000/\b.length<=1000:=hp
  simp only[exists_const,forall_const,decide_eq_true_eq,decide_eq_false_iff_not,beq_iff_eq,sxS]
  intro _
  obtain⟨TT,TU,Qk,yI⟩:=hp
  obtain⟨hm,lQ⟩:=fF TT
  obtain⟨_,ic⟩:=fF TU
  have hp:=(bu hm).1
  refine⟨fun h=>by unfold cY;rw[if_pos (by omega)],fun h=>⟨fun h1=>by unfold cY;rw[if_pos (by omega)],fun h1=>⟨by omega,⟨rfl,rfl⟩,fun x hx=>?_⟩⟩⟩
  have lx:i64.wrap (i64.wrap ((a.length:Int)+(b.length:Int))-1)=((a.length+b.length-1:Nat):Int):=by
   rw[wrap_small (n:=(a.length:Int)+(b.length:Int)) (by omega),wrap_small (by omega)];omega
  rw[lx,uN]
  refine⟨fun h2=>⟨by omega,⟨rfl,rfl⟩,fun y hy=>?_⟩,fun h2=>⟨by omega,fun _=>?_⟩⟩
  ·have fin:y=min (x+1) a.length->(x+[dO (ab f) a b x y].length)*8<=140737488355328/\∃ x',x'<=a.length+b.length-1/\a.length+b.length-1-x'<a.length+b.length-1-x/\i64.wrap ((x:Int)+1)=(x':Int) ∧
    dH (ab f) a b x++[dO (ab f) a b x y]=dH (ab f) a b x':=fun e =>
    ⟨by simp only[List.length_cons,List.length_nil];omega,x+1,by omega,by omega,aC (by omega),by rw[e];exact IX _ _ _ _⟩
   refine⟨fun h3=>⟨fun h4=>?_,fun h4=>fin (by omega)⟩,fun h3=>fin (by omega)⟩
   have nd:i64.wrap ((x:Int)-(y:Int))=((x-y:Nat):Int):=by rw[wrap_small (by omega)];omega
   rw[nd,Int.toNat_natCast]
   refine⟨fun h5=>⟨⟨by omega,by omega⟩,⟨by omega,by omega⟩,hm,y+1,by omega,by omega,?_,aC (by omega)⟩,fun h5=>⟨y+1,by omega,by omega,(qb (by omega)).symm,aC (by omega)⟩⟩
   rw[CV hp (zV hp _ _ _ _) (dr hp lQ _) (dr hp ic _),nk (by omega)]
  ·unfold cY
   rw[if_neg (by omega),show x=a.length+b.length-1 by omega]
theorem GG :
 ∀(xs:List Int),Ty.wf (Ty.sl ah) xs->lZ xs xs.length/\((ae (xs.length)/\aQ)/\xs=xs)/\∀(x:Nat),lZ xs x->(decide ((0:Int)<(x:Int))=true->((0:Int)<=i64.wrap ((x:Int)-(1:Int))/\i64.wrap ((x:Int)-(1:Int))<(x:Int))/\(decide (xs.getD (Int.toNat (i64.wrap ((x:Int)-(1:Int)))) (0:Int)=(0:Int))=true->((0:Int)<=i64.wrap ((x:Int)-(1:Int))/\i64.wrap ((x:Int)-(1:Int))<=(x:Int))/\∃(x':Nat),lZ xs x'/\x'<x/\(Int.toNat (i64.wrap ((x:Int)-(1:Int)))=x'/\aQ)/\xs=xs)/\(decide (xs.getD (Int.toNat (i64.wrap ((x:Int)-(1:Int)))) (0:Int)=(0:Int))=false->x=gA xs/\xs=xs))/\(decide ((0:Int)<(x:Int))=false->x=gA xs/\xs=xs):=by
  intro (l:List Int) hw
  have hl:l.length<=9223372036854775807:=hw.1
  simp only[exists_const,forall_const,decide_eq_true_eq,decide_eq_false_iff_not,beq_iff_eq,sxS]
  refine⟨A1 l,fun x hx=>?_⟩
  match x,hx with
  | 0,hx=>exact⟨fun h=>absurd h (by omega),fun _=>Hg hx⟩
  | x+1,hx =>
    have jY:x+1<=l.length:=hx.1
    have lx:i64.wrap (((x+1:Nat):Int)-1)=(x:Int):=by rw[wrap_small (by omega)];omega
    rw[lx]
    simp only[Int.toNat_natCast]
    exact⟨fun _=>⟨⟨by omega,by omega⟩,fun h=>⟨⟨by omega,by omega⟩,x,C6 hx h,by omega,rfl⟩,fun h=>C7 hx h⟩,fun h=>absurd h (by omega)⟩
theorem zA :
 ∀(d:List Int×Int),Ty.wf ai d.1/\Ty.wf ah d.2->(0:bU [ah])<=d.2->(decide ((d.1.length:Int)<=d.2)=true->(0:Int)=eg d.1 d.2)/\(decide ((d.1.length:Int)<=d.2)=false->((0:Int)<=d.2/\d.2<(d.1.length:Int))/\d.1.getD d.2.toNat (0:Int)=eg d.1 d.2):=by
  intro (d:List Int×Int) hw hp
  obtain⟨a,i⟩:=d
  replace hp:(0:Int)<=i:=hp
  simp only[exists_const,forall_const,decide_eq_true_eq,decide_eq_false_iff_not,beq_iff_eq,sxS]
  unfold eg
  rw[if_pos hp]
  refine⟨fun h=>?_,fun h=>⟨⟨hp,by omega⟩,rfl⟩⟩
  rw[List.getD_eq_getElem?_getD,List.getElem?_eq_none (by omega)];rfl
theorem Gu :
 ∀(d:(Int×Int×Int)×List Int×List Int),Ty.wf bm d.1/\Ty.wf ai d.2.1/\Ty.wf ai d.2.2->an d.1.1/\ak d.1.1 d.2.1=true/\ak d.1.1 d.2.2=true/\d.2.1.length<=(1000:Nat)/\d.2.2.length<=(1000:Nat)->(0:Nat)<=max d.2.1.length d.2.2.length/\(((ae d.1.1/\ae d.1.2.1/\ae d.1.2.2)/\ae d.2.1/\ae d.2.2/\aQ/\ae (imax (d.2.1.length:Int) (d.2.2.length:Int))/\(0:Int)=(↑(0:Nat):Int))/\(ae d.1.1/\ae d.1.2.1/\ae d.1.2.2)/\[]=dF d.1.1 d.2.1 d.2.2 (0:Nat))/\∀(x:Nat),x<=max d.2.1.length d.2.2.length->(decide ((x:Int)<imax (d.2.1.length:Int) (d.2.2.length:Int))=true->(0:bU [ah])<=(x:Int)/\(0:bU [ah])<=(x:Int)/\(an d.1.1/\El d.1.1 (eg d.2.1 (x:Int))/\El d.1.1 (eg d.2.2 (x:Int)))/\(Ty.wf ah (c_ d.1.1 (eg d.2.1 (x:Int)) (eg d.2.2 (x:Int)))->Ty.wf ah (eg d.2.2 (x:Int))->Ty.wf ah (eg d.2.1 (x:Int))->(List.length (dF d.1.1 d.2.1 d.2.2 x)+List.length [c_ d.1.1 (eg d.2.1 (x:Int)) (eg d.2.2 (x:Int))])*(8:Nat)<=(140737488355328:Nat)/\∃(x':Nat),x'<=max d.2.1.length d.2.2.length/\max d.2.1.length d.2.2.length-x'<max d.2.1.length d.2.2.length-x/\((ae d.1.1/\ae d.1.2.1/\ae d.1.2.2)/\ae d.2.1/\ae d.2.2/\aQ/\ae (imax (d.2.1.length:Int) (d.2.2.length:Int))/\i64.wrap ((x:Int)+(1:Int))=(x':Int))/\(ae d.1.1/\ae d.1.2.1/\ae d.1.2.2)/\dF d.1.1 d.2.1 d.2.2 x++[c_ d.1.1 (eg d.2.1 (x:Int)) (eg d.2.2 (x:Int))]=dF d.1.1 d.2.1 d.2.2 x'))/\(decide ((x:Int)<imax (d.2.1.length:Int) (d.2.2.length:Int))=false->List.take (gA (dF d.1.1 d.2.1 d.2.2 x)) (dF d.1.1 d.2.1 d.2.2 x)=nw d.1.1 d.2.1 d.2.2):=by
  intro (d:Fd×List Int×List Int) hw hp
  obtain⟨⟨p,g,t⟩,a,b⟩:=d
  replace hp:an p/\ak p a=true/\ak p b=true/\a.length<=1000/\b.length<=1000:=hp
  simp only[exists_const,forall_const,decide_eq_true_eq,decide_eq_false_iff_not,beq_iff_eq,sxS]
  obtain⟨h0,h1,h2,h3,h4⟩:=hp
  simp only[Kb,uh]
  have Qm:imax (a.length:Int) (b.length:Int)=((max a.length b.length:Nat):Int):=by unfold imax;split<;>omega
  rw[Qm]
  refine⟨by omega,⟨rfl,rfl⟩,fun x hx=>⟨fun h5=>⟨Int.natCast_nonneg _,Int.natCast_nonneg _,⟨h0,dr h0 h1 _,dr h0 h2 _⟩,fun _ _ _=>⟨by simp only[List.length_cons,List.length_nil];omega,x+1,by omega,by omega,aC (by omega),ye _ _ _ _⟩⟩,fun h5=>?_⟩⟩
  unfold nw bz
  rw[show x=max a.length b.length by omega]
theorem Cg :
 ∀(d:(Int×Int×Int)×List Int×Int),Ty.wf bm d.1/\Ty.wf ai d.2.1/\Ty.wf ah d.2.2->an d.1.1/\ak d.1.1 d.2.1=true/\El d.1.1 d.2.2/\d.2.1.length<=(1000:Nat)->(0:Nat)<=d.2.1.length/\(((ae d.1.1/\ae d.1.2.1/\ae d.1.2.2)/\ae d.2.1/\ae d.2.2/\aQ/\ae d.2.1/\ae (d.2.1.length:Int)/\(0:Int)=(↑(0:Nat):Int))/\(ae d.1.1/\ae d.1.2.1/\ae d.1.2.2)/\[]=gO d.1.1 d.2.1 d.2.2 (0:Nat))/\∀(x:Nat),x<=d.2.1.length->(decide ((x:Int)<(d.2.1.length:Int))=true->((0:Int)<=(x:Int)/\(x:Int)<(d.2.1.length:Int))/\(an d.1.1/\El d.1.1 (d.2.1.getD ((x:Int).toNat) (0:Int))/\El d.1.1 d.2.2)/\(Ty.wf ah (mulM d.1.1 (d.2.1.getD ((x:Int).toNat) (0:Int)) d.2.2)->(List.length (gO d.1.1 d.2.1 d.2.2 x)+List.length [mulM d.1.1 (d.2.1.getD ((x:Int).toNat) (0:Int)) d.2.2])*(8:Nat)<=(140737488355328:Nat)/\∃(x':Nat),x'<=d.2.1.length/\d.2.1.length-x'<d.2.1.length-x/\((ae d.1.1/\ae d.1.2.1/\ae d.1.2.2)/\ae d.2.1/\ae d.2.2/\aQ/\ae d.2.1/\ae (d.2.1.length:Int)/\i64.wrap ((x:Int)+(1:Int))=(x':Int))/\(ae d.1.1/\ae d.1.2.1/\ae d.1.2.2)/\gO d.1.1 d.2.1 d.2.2 x++[mulM d.1.1 (d.2.1.getD ((x:Int).toNat) (0:Int)) d.2.2]=gO d.1.1 d.2.1 d.2.2 x'))/\(decide ((x:Int)<(d.2.1.length:Int))=false->List.take (gA (gO d.1.1 d.2.1 d.2.2 x)) (gO d.1.1 d.2.1 d.2.2 x)=ei d.1.1 d.2.1 d.2.2):=by
  intro (d:Fd×List Int×Int) hw hp
  obtain⟨⟨p,g,t⟩,a,c⟩:=d
  replace hp:an p/\ak p a=true/\El p c/\a.length<=1000:=hp
  simp only[exists_const,forall_const,decide_eq_true_eq,decide_eq_false_iff_not,beq_iff_eq,sxS]
  obtain⟨h0,h1,h2,h3⟩:=hp
  simp only[xD]
  refine⟨by omega,⟨rfl,rfl⟩,fun x hx=>⟨fun h5=>⟨⟨by omega,by omega⟩,⟨h0,dr h0 h1 _,h2⟩,fun _=>⟨by simp only[List.length_cons,List.length_nil];omega,x+1,by omega,by omega,aC (by omega),BA _ _ _ _⟩⟩,fun h5=>?_⟩⟩
  unfold ei bz
  rw[show x=a.length by omega]
theorem GD :
 ∀(d:(Int×Int×Int)×List Int×List Int),Ty.wf bm d.1/\Ty.wf ai d.2.1/\Ty.wf ai d.2.2->an d.1.1/\ak d.1.1 d.2.1=true/\ak d.1.1 d.2.2=true/\d.2.1.length<=(1000:Nat)/\d.2.2.length<=(1000:Nat)->(decide ((d.2.1.length:Int)=(0:Int))=true->[]=cY d.1.1 d.2.1 d.2.2)/\(decide ((d.2.1.length:Int)=(0:Int))=false->(decide ((d.2.2.length:Int)=(0:Int))=true->[]=cY d.1.1 d.2.1 d.2.2)/\(decide ((d.2.2.length:Int)=(0:Int))=false->((0:Int)<=i64.wrap (i64.wrap ((d.2.1.length:Int)+(d.2.2.length:Int))-(1:Int))/\i64.wrap (i64.wrap ((d.2.1.length:Int)+(d.2.2.length:Int))-(1:Int))<=i64.wrap (i64.wrap ((d.2.1.length:Int)+(d.2.2.length:Int))-(1:Int))/\i64.wrap (i64.wrap ((d.2.1.length:Int)+(d.2.2.length:Int))-(1:Int))*(↑(8:Nat):Int)<=(140737488355328:Int))/\(0:Nat)<=d.2.1.length/\(((ae d.1.1/\ae d.1.2.1/\ae d.1.2.2)/\ae d.2.1/\ae d.2.2/\aQ/\ae d.2.1/\ae (d.2.1.length:Int)/\(0:Int)=(↑(0:Nat):Int))/\(ae d.1.1/\ae d.1.2.1/\ae d.1.2.2)/\List.replicate (Int.toNat (i64.wrap (i64.wrap ((d.2.1.length:Int)+(d.2.2.length:Int))-(1:Int)))) (0:Int)=dh d.1.1 d.2.1 d.2.2 (0:Nat) (0:Nat))/\∀(x:Nat),x<=d.2.1.length->(decide ((x:Int)<(d.2.1.length:Int))=true->((0:Int)<=(x:Int)/\(x:Int)<(d.2.1.length:Int))/\(0:Nat)<=d.2.2.length/\(((ae d.1.1/\ae d.1.2.1/\ae d.1.2.2)/\ae d.2.1/\ae d.2.2/\aQ/\ae (x:Int)/\ae (d.2.1.getD ((x:Int).toNat) (0:Int))/\ae d.2.1/\ae (d.2.1.length:Int)/\ae (x:Int)/\ae d.2.2/\ae (d.2.2.length:Int)/\(0:Int)=(↑(0:Nat):Int))/\(ae d.1.1/\ae d.1.2.1/\ae d.1.2.2)/\ae (dh d.1.1 d.2.1 d.2.2 x (0:Nat)))/\∀(x_1:Nat),x_1<=d.2.2.length->(decide ((x_1:Int)<(d.2.2.length:Int))=true->((0:Int)<=(x_1:Int)/\(x_1:Int)<(d.2.2.length:Int))/\((0:Int)<=i64.wrap ((x:Int)+(x_1:Int))/\i64.wrap ((x:Int)+(x_1:Int))<(↑(List.length (dh d.1.1 d.2.1 d.2.2 x x_1)):Int))/\d.1.1≠(0:Int)/\((0:Int)<=i64.wrap ((x:Int)+(x_1:Int))/\i64.wrap ((x:Int)+(x_1:Int))<(↑(List.length (dh d.1.1 d.2.1 d.2.2 x x_1)):Int))/\∃(x':Nat),x'<=d.2.2.length/\d.2.2.length-x'<d.2.2.length-x_1/\((ae d.1.1/\ae d.1.2.1/\ae d.1.2.2)/\ae d.2.1/\ae d.2.2/\aQ/\ae (x:Int)/\ae (d.2.1.getD ((x:Int).toNat) (0:Int))/\ae d.2.1/\ae (d.2.1.length:Int)/\ae (x:Int)/\ae d.2.2/\ae (d.2.2.length:Int)/\i64.wrap ((x_1:Int)+(1:Int))=(x':Int))/\(ae d.1.1/\ae d.1.2.1/\ae d.1.2.2)/\List.set (dh d.1.1 d.2.1 d.2.2 x x_1) (Int.toNat (i64.wrap ((x:Int)+(x_1:Int)))) (Int.tmod (i64.wrap (List.getD (dh d.1.1 d.2.1 d.2.2 x x_1) (Int.toNat (i64.wrap ((x:Int)+(x_1:Int)))) (0:Int)+i64.wrap (d.2.1.getD ((x:Int).toNat) (0:Int)*d.2.2.getD ((x_1:Int).toNat) (0:Int)))) d.1.1)=dh d.1.1 d.2.1 d.2.2 x x')/\(decide ((x_1:Int)<(d.2.2.length:Int))=false->∃(x':Nat),x'<=d.2.1.length/\d.2.1.length-x'<d.2.1.length-x/\((ae d.1.1/\ae d.1.2.1/\ae d.1.2.2)/\ae d.2.1/\ae d.2.2/\aQ/\ae d.2.1/\ae (d.2.1.length:Int)/\i64.wrap ((x:Int)+(1:Int))=(x':Int))/\(ae d.1.1/\ae d.1.2.1/\ae d.1.2.2)/\dh d.1.1 d.2.1 d.2.2 x x_1=dh d.1.1 d.2.1 d.2.2 x' (0:Nat)))/\(decide ((x:Int)<(d.2.1.length:Int))=false->List.take (gA (dh d.1.1 d.2.1 d.2.2 x (0:Nat))) (dh d.1.1 d.2.1 d.2.2 x (0:Nat))=cY d.1.1 d.2.1 d.2.2))):=by
  intro (d:Fd×List Int×List Int) hw hp
  obtain⟨⟨p,g,t⟩,a,b⟩:=d
  replace hp:an p/\ak p a=true/\ak p b=true/\a.length<=1000/\b.length<=1000:=hp
  simp only[exists_const,forall_const,decide_eq_true_eq,decide_eq_false_iff_not,beq_iff_eq,sxS]
  obtain⟨h0,lQ,ic,h3,h4⟩:=hp
  have hm:p≠0:=by unfold an at h0;omega
  refine⟨fun h=>by unfold cY;rw[if_pos (by omega)],fun h=>⟨fun h1=>by unfold cY;rw[if_pos (by omega)],fun h1=>?_⟩⟩
  have lx:i64.wrap (i64.wrap ((a.length:Int)+(b.length:Int))-1)=((a.length+b.length-1:Nat):Int):=by
   rw[wrap_small (n:=(a.length:Int)+(b.length:Int)) (by omega),wrap_small (by omega)];omega
  rw[lx,Int.toNat_natCast]
  refine⟨⟨by omega,by omega,by omega⟩,by omega,⟨rfl,Nk _ _ _⟩,fun x hx=>⟨fun h2=>⟨⟨by omega,by omega⟩,by omega,rfl,fun y hy=>⟨fun h5=>?_,fun h5=>?_⟩⟩,fun h2=>?_⟩⟩
  ·have nd:i64.wrap ((x:Int)+(y:Int))=((x+y:Nat):Int):=by rw[wrap_small (by omega)];omega
   rw[nd,Int.toNat_natCast,vO,Pf (by omega) (by omega),CV h0 (zV h0 _ _ _ _) (dr h0 lQ _) (dr h0 ic _)]
   refine⟨⟨by omega,by omega⟩,⟨by omega,by omega⟩,hm,⟨by omega,by omega⟩,y+1,by omega,by omega,aC (by omega),?_⟩
   rw[<-Pg (by omega) (by omega),nk (by omega),Nat.add_sub_cancel_left]
  ·refine⟨x+1,by omega,by omega,aC (by omega),?_⟩
   rw[show y=b.length by omega]
   exact Nj _ _ _ _
  ·rw[show x=a.length by omega,Pe]
   unfold cY bz
   rw[if_neg (by omega)]
set_option maxRecDepth 10000
theorem pA{a b:List Int}(hl:a.length=b.length)(h:∀ t,t<a.length->a.getD t 0=b.getD t 0):a=b:=by
 apply List.ext_getElem hl
 intro i h1 h2
 have:=h i h1
 rw[List.getD_eq_getElem?_getD,List.getD_eq_getElem?_getD,List.getElem?_eq_getElem h1,List.getElem?_eq_getElem h2] at this
 exact this
theorem iT{a:List Int}{t:Nat}(h:a.length<=t):a.getD t 0=0:=by
 rw[List.getD_eq_getElem?_getD,List.getElem?_eq_none h];rfl
def tQ(A:List Int)(t:Nat):Int:=if t=0 then 0 else A.getD (t-1) 0
def gK(p r:Int)(A:List Int):List Int:=(List.range (A.length+1)).map (fun t=>(A.getD t 0*r+tQ A t)%p)
theorem rD(p r:Int)(A:List Int):(gK p r A).length=A.length+1:=fP _ _
theorem mr{p:Int}(r:Int)(A:List Int)(t:Nat):(gK p r A).getD t 0=(A.getD t 0*r+tQ A t)%p:=by
 unfold gK
 rw[lB]
 split
 ·rfl
 ·have h1:tQ A t=0:=by
   unfold tQ
   rw[if_neg (by omega)]
   exact iT (by omega)
  rw[iT (show A.length<=t by omega),h1,Int.zero_mul]
  rfl
theorem Lj{p:Int}(r:Int)(A:List Int)(t:Nat):tQ (gK p r A) t=(tQ A t*r+(if t=0 then 0 else tQ A (t-1)))%p:=by
 unfold tQ
 by_cases h:t=0
 ·rw[if_pos h,if_pos h,if_pos h,Int.zero_mul,Int.add_zero,Int.zero_emod]
 ·rw[if_neg h,if_neg h,if_neg h,mr];rfl
theorem HL(p x r y:Int):(x%p*r+y%p)%p=(x*r+y)%p:=by
 rw[dQ,<-cV,bp,cV]
theorem M5(p r s:Int)(A:List Int):gK p r (gK p s A)=gK p s (gK p r A):=by
 refine pA (by simp only[rD]) (fun t _=>?_)
 rw[mr,mr,mr,mr,Lj,Lj,HL,HL]
 congr 1
 grind
theorem Ep{p r:Int}{A:List Int}{t:Nat}:∀ j,j+1<=t->dO p A [r,1] t j=0
 | 0,_=>rfl
 | j+1,h=>by
   rw[qb (by simp only[List.length_cons,List.length_nil];omega)]
   exact Ep j (by omega)
theorem Li{p:Int}(hp:an p)(r:Int)(A:List Int):ak p (gK p r A)=true:=xg (fun _ _=>cN (by unfold an at hp;omega) _)
theorem DW{p:Int}{r:Int}{A:List Int}(hl:1<=A.length)(he:ak p A=true):(gK p r A).getD A.length 0=A.getD (A.length-1) 0:=by
 rw[mr,iT (Nat.le_refl _),Int.zero_mul,Int.zero_add]
 unfold tQ
 rw[if_neg (by omega)]
 exact eo (mK he (by omega))
theorem r5{l:List Int}(h:fB l=true):bz l=l:=by
 unfold fB at h
 rw[decide_eq_true_eq] at h
 unfold bz
 rw[h,List.take_length]
theorem HN{p:Int}(hp:an p){r:Int}{A:List Int}(hl:1<=A.length)(he:ak p A=true)(ht:A.getD (A.length-1) 0≠0):cY p A [r,1]=gK p r A:=by
 have key:dH p A [r,1] (A.length+1)=gK p r A:=by
  refine cX (fun t Sm=>?_)
  have iF:∀ {x},x=1->([r,1]:List Int).getD x 0=1:=fun h=>by subst h;rfl
  have kn:1<=t->dO p A [r,1] t t=A.getD (t-1) 0%p:=fun h=>by
   obtain⟨u,rfl⟩:∃ u,t=u+1:=⟨t-1,by omega⟩
   rw[nk (by simp only[List.length_cons,List.length_nil];omega),Ep u (by omega),iF (by omega),Int.zero_add,Int.mul_one,Nat.add_sub_cancel]
  by_cases h:t<A.length
  ·rw[Nat.min_eq_left (by omega),nk (by simp only[List.length_cons,List.length_nil];omega),Nat.sub_self]
   show (_+A.getD t 0*r)%p=_
   unfold tQ
   by_cases h0:t=0
   ·subst h0
    rw[if_pos rfl]
    show (0+_)%p=_
    rw[Int.zero_add,Int.add_zero]
   ·rw[if_neg h0,kn (by omega),cV,Int.add_comm]
  ·rw[Nat.min_eq_right (by omega)]
   obtain rfl:t=A.length:=by omega
   rw[kn (by omega),iT (Nat.le_refl _),Int.zero_mul,Int.zero_add]
   unfold tQ
   rw[if_neg (by omega)]
 unfold cY
 rw[if_neg (by simp only[List.length_cons,List.length_nil];omega)]
 show bz (dH p A [r,1] (A.length+1+1-1))=_
 rw[Nat.add_sub_cancel,key]
 refine r5 ((fG _).2 (.inr ?_))
 rw[rD,Nat.add_sub_cancel,DW hl he]
 exact ht
theorem rU{p:Int}(hp:an p)(xs:List Int):∀ n,(di p xs n).length=n+1/\ak p (di p xs n)=true/\(di p xs n).getD n 0=1/\di p xs (n+1)=gK p (bd p 0 (xs.getD n 0)) (di p xs n)
 | 0=>by
   have he:ak p [1]=true:=r6 (fun i hi=>by
    obtain rfl:i=0:=by simp only[List.length_cons,List.length_nil] at hi;omega
    exact gC hp)
   exact⟨rfl,he,rfl,HN hp (A:=[1]) (Nat.le_refl _) he (by decide)⟩
 | n+1=>by
   obtain⟨h1,h2,h3,h4⟩:=rU hp xs n
   have e1:(di p xs (n+1)).length=n+1+1:=by rw[h4,rD,h1]
   have e2:ak p (di p xs (n+1))=true:=by rw[h4];exact Li hp _ _
   have e3:(di p xs (n+1)).getD (n+1) 0=1:=by
    have:=DW (p:=p) (r:=bd p 0 (xs.getD n 0)) (A:=di p xs n) (by omega) h2
    rw[h1,Nat.add_sub_cancel,h3] at this
    rw[h4];exact this
   refine⟨e1,e2,e3,?_⟩
   refine HN hp (by omega) e2 ?_
   rw[e1,Nat.add_sub_cancel,e3];decide
theorem H_{p:Int}(l:List Int)(x:Int):∀ n,n<=l.length->di p (l++[x]) n=di p l n
 | 0,_=>rfl
 | n+1,h=>by
   show cY p _ [bd p 0 ((l++[x]).getD n 0),1]=cY p _ [bd p 0 (l.getD n 0),1]
   rw[H_ l x n (by omega),show (l++[x]).getD n 0=l.getD n 0 by rw[List.getD_eq_getElem?_getD,List.getD_eq_getElem?_getD,List.getElem?_append_left (by omega)]]
theorem BF{p:Int}(hp:an p)(l:List Int)(x:Int):cp p (l++[x])=gK p (bd p 0 x) (cp p l):=by
 unfold cp
 rw[List.length_append]
 show di p (l++[x]) (l.length+1)=_
 rw[(rU hp (l++[x]) l.length).2.2.2,H_ l x _ (Nat.le_refl _)]
 congr 2
 rw[List.getD_eq_getElem?_getD,List.getElem?_append_right (Nat.le_refl _),Nat.sub_self];rfl
theorem oP{p:Int}(hp:an p)(xs:List Int):(cp p xs).length=xs.length+1/\ak p (cp p xs)=true/\fB (cp p xs)=true:=by
 obtain⟨h1,h2,h3,_⟩:=rU hp xs xs.length
 refine⟨h1,h2,(fG _).2 (.inr ?_)⟩
 show (di p xs xs.length).getD ((di p xs xs.length).length-1) 0≠0
 rw[h1,Nat.add_sub_cancel,h3];decide
theorem oK(xs:List Int)(i:Nat):∀ n,(cI xs i n).length<=n
 | 0=>Nat.le_refl _
 | n+1=>by
   have:=oK xs i n
   unfold cI
   split
   ·omega
   ·rw[List.length_append];simp only[List.length_cons,List.length_nil];omega
theorem y3{xs:List Int}{i n:Nat}(h:n=i):cI xs i (n+1)=cI xs i n:=by
 show (if _ then _ else _)=_
 rw[if_pos h]
theorem uP{xs:List Int}{i n:Nat}(h:n≠i):cI xs i (n+1)=cI xs i n++[xs.getD n 0]:=by
 show (if _ then _ else _)=_
 rw[if_neg h]
theorem Bn{p:Int}{xs:List Int}(he:ak p xs=true)(i:Nat):∀ n,n<=xs.length->ak p (cI xs i n)=true
 | 0,_=>by simp[cI,ak]
 | n+1,h=>by
   have h1:=Bn he i n (by omega)
   by_cases e:n=i
   ·rw[y3 e];exact h1
   ·rw[uP e]
    unfold ak at *
    rw[decide_eq_true_eq] at *
    intro x hx
    rcases List.mem_append.1 hx with hx|hx
    ·exact h1 x hx
    ·rw[List.mem_singleton.1 hx]
     exact he _ (D2 (by omega))
theorem Ia{p:Int}(hp:an p)(xs:List Int)(i:Nat):∀ m,(m<=i->cp p (cI xs i m)=di p xs m)/\(i<m->gK p (bd p 0 (xs.getD i 0)) (cp p (cI xs i m))=di p xs m)
 | 0=>⟨fun _=>rfl,fun h=>absurd h (by omega)⟩
 | m+1=>by
   obtain⟨h1,h2⟩:=Ia hp xs i m
   have hs:=(rU hp xs m).2.2.2
   refine⟨fun h=>?_,fun h=>?_⟩
   ·rw[uP (by omega),BF hp,h1 (by omega),hs]
   ·by_cases e:m=i
    ·rw[y3 e,h1 (by omega),hs,e]
    ·rw[uP e,BF hp,M5,h2 (by omega),hs]
theorem LO{p:Int}(r:Int){A:List Int}(he:ak p A=true):∀ k,k<=A.length->ij p r (gK p r A) k=A.getD (A.length-k) 0
 | 0,_=>by
   rw[Nat.sub_zero,iT (Nat.le_refl _)];rfl
 | k+1,h=>by
   show bd p ((gK p r A).getD ((gK p r A).length-1-k) 0) (mulM p (ij p r (gK p r A) k) r)=_
   rw[LO r he k (by omega),rD,Nat.add_sub_cancel,mr]
   unfold bd mulM tQ
   rw[if_neg (by omega),kI,jg,show A.getD (A.length-k) 0*r+A.getD (A.length-k-1) 0-A.getD (A.length-k) 0*r=A.getD (A.length-k-1) 0 by omega,eo (mK he (by omega))]
   rfl
theorem O_{p:Int}(r:Int){A:List Int}(he:ak p A=true):EW p r (gK p r A)=A:=by
 unfold EW
 rw[rD,Nat.add_sub_cancel]
 refine pA (fP _ _) (fun t ht=>?_)
 rw[fP] at ht
 rw[lB,if_pos ht,LO r he _ (by omega)]
 congr 1
 omega
theorem Pa{p:Int}(hp:an p){xs:List Int}{i:Nat}(hi:i<xs.length):EW p (bd p 0 (xs.getD i 0)) (cp p xs)=cp p (cI xs i xs.length):=by
 have h:=(Ia hp xs i xs.length).2 hi
 have:cp p xs=di p xs xs.length:=rfl
 rw[this,<-h]
 exact O_ _ (oP hp _).2.1
theorem th{p:Int}{l:List Int}(h:ak p l=true):ak p (bz l)=true:=Iy h _
theorem yf{p:Int}(hp:an p)(a b:List Int):ak p (nw p a b)=true/\(nw p a b).length<=max a.length b.length/\fB (nw p a b)=true:=by
 refine⟨th (xg (fun _ _=>rf hp _ _)),?_,pJ _⟩
 unfold nw
 rw[mF]
 have:=vw (dF p a b (max a.length b.length))
 rwa [uh] at this
theorem s_{p:Int}(hp:an p)(a:List Int)(c:Int):ak p (ei p a c)=true/\(ei p a c).length<=a.length/\fB (ei p a c)=true:=by
 refine⟨th (xg (fun _ _=>ea hp _ _)),?_,pJ _⟩
 unfold ei
 rw[mF]
 have:=vw (gO p a c a.length)
 rwa [xD] at this
theorem vj{p:Int}(hp:an p){xs:List Int}(ys:List Int)(hl:xs.length<=40):∀ n,ak p (dy p xs ys n)=true/\(dy p xs ys n).length<=41/\fB (dy p xs ys n)=true
 | 0=>⟨by simp[dy,ak],by simp[dy],by unfold dy;rfl⟩
 | n+1=>by
   obtain⟨h1,h2,h3⟩:=vj hp ys hl n
   unfold dy
   refine⟨(yf hp _ _).1,?_,(yf hp _ _).2.2⟩
   have e1:=(yf hp (dy p xs ys n) (ei p (cp p (cI xs n xs.length)) (mulM p (ys.getD n 0) (j8 p xs n)))).2.1
   have e2:=(s_ hp (cp p (cI xs n xs.length)) (mulM p (ys.getD n 0) (j8 p xs n))).2.1
   have e3:=(oP hp (cI xs n xs.length)).1
   have e4:=oK xs n xs.length
   omega
set_option maxRecDepth 10000
theorem Dk:(∀ y:Fin 17,y.val≠0->y.val^16%17=1)/\(∀ y:Fin 97,y.val≠0->y.val^96%97=1)/\(∀ y:Fin 193,y.val≠0->y.val^192%193=1)/\(∀ y:Fin 257,y.val≠0->y.val^256%257=1):=by decide +kernel
theorem pT{P:Nat}(h:∀ y:Fin P,y.val≠0->y.val^(P-1)%P=1){x:Int}(hP:0<P)(hx:x%(P:Int)≠0):x^(P-1)%(P:Int)=1:=by
 have h0:=Int.emod_nonneg x (show (P:Int)≠0 by omega)
 have h1:=Int.emod_lt_of_pos x (show (0:Int)<P by omega)
 obtain⟨n,hn⟩:=Int.eq_ofNat_of_zero_le h0
 have h2:=h ⟨n,by omega⟩ (by show n≠0;omega)
 simp only at h2
 rw[<-pow_mod,hn,<-Int.natCast_pow,<-Int.natCast_emod,h2]
 rfl
theorem Ks{f:Int}(h:0<=f/\f<4){x:Int}(hx:x%ab f≠0):x^(ab f-1).toNat%ab f=1:=by
 obtain⟨h1,h2,h3,h4⟩:=Dk
 have hc:f=0\/f=1\/f=2\/f=3:=by omega
 rcases hc with rfl|rfl|rfl|rfl
 ·exact pT (P:=17) h1 (by decide) hx
 ·exact pT (P:=97) h2 (by decide) hx
 ·exact pT (P:=193) h3 (by decide) hx
 ·exact pT (P:=257) h4 (by decide) hx
theorem wN(p:Int)(hp:an p){y:Int}(h:y%p=1):∀ q:Nat,y^q%p=1
 | 0=>by rw[Int.pow_zero];exact eo (gC hp)
 | q+1=>by rw[Int.pow_succ,<-bp,wN p hp h q,Int.one_mul,h]
theorem M_{f:Int}(hm:ab f≠0)(x:Int){i:Nat}(hi:i<=400):lE (ab f) x (i:Int)=bq (ab f) x i:=by
 obtain⟨hp,hf⟩:=bu hm
 unfold lE
 by_cases hx:x%ab f=0
 ·rw[if_pos hx]
  match i with
  | 0 =>
    rw[if_pos (show ((0:Nat):Int)=0 from rfl)]
    unfold bq
    rw[Int.pow_zero];exact (eo (gC hp)).symm
  | i+1 =>
    rw[if_neg (by omega),if_neg (by omega)]
    unfold bq
    rw[Int.pow_succ,<-bg,hx,Int.mul_zero,Int.zero_emod]
 ·rw[if_neg hx]
  by_cases hs:f<4
  ·have R7:=Ks ⟨hf.1,hs⟩ hx
   have S3:=hp
   unfold an at S3
   obtain⟨P,hP⟩:=Int.eq_ofNat_of_zero_le (show 0<=ab f-1 by omega)
   have hr:((i:Int)%(ab f-1)).toNat=i%P:=by rw[hP];rfl
   rw[hr]
   rw[hP,Int.toNat_natCast] at R7
   unfold bq
   conv=>rhs;rw[<-Nat.div_add_mod i P,Int.pow_add,Int.pow_mul,<-bp,wN _ hp R7,Int.one_mul]
  ·have UD:7681<=ab f:=by
    have hc:f=4\/f=5\/f=6\/f=7\/f=8:=by omega
    rcases hc with rfl|rfl|rfl|rfl|rfl<;>decide
   rw[Int.emod_eq_of_lt (by omega) (by omega),Int.toNat_natCast]
theorem PS{p:Int}(hp:an p)(a:List Int)(x:Int):∀ n,El p (m6 p a x n)
 | 0=>ep hp
 | n+1=>rf hp _ _
theorem Kn{p:Int}(hp:an p)(a:List Int)(x:Int):El p (m7 p a x):=PS hp a x _
theorem KQ{p:Int}(hp:an p){a:List Int}{x:Int}{t:Nat×Int}{n:Nat}(hn:t.1=n+1)(h:rX p a x t):rX p a x (n,(t.2*x+a.getD n 0)%p):=by
 obtain⟨m,o⟩:=t
 simp only at hn
 subst hn
 obtain⟨h1,h2,h3⟩:=h
 simp only at h1 h2 h3
 refine⟨by show n<=_;omega,cN (by unfold an at hp;omega) _,?_⟩
 simp only
 rw[<-h3,<-cV,bp,cV]
 show _=(o*x^(n+1)+c_ p (m6 p a x n) (mulM p (a.getD n 0) (bq p x n)))%p
 unfold c_ mulM bq
 rw[dQ,bg,<-Int.add_assoc,dQ]
 congr 1
 rw[Int.pow_succ]
 grind
theorem MQ{p:Int}(hp:an p){a:List Int}{x:Int}{t:Nat×Int}(h0:t.1=0)(h:rX p a x t):t.2=m7 p a x:=by
 obtain⟨m,o⟩:=t
 simp only at h0
 subst h0
 obtain⟨h1,h2,h3⟩:=h
 simp only at h2 h3
 rw[Int.pow_zero,Int.mul_one] at h3
 rw[<-h3]
 show o=(o+0)%p
 rw[Int.add_zero,eo h2]
theorem g9(p r:Int)(a:List Int)(k:Nat):(bR p r a k).length=a.length:=fP _ _
theorem La(p r:Int)(a:List Int)(k j:Nat):(iJ p r a k j).length=a.length:=by
 unfold iJ
 split
 ·exact g9 ..
 ·split
  ·rw[List.length_set,g9]
  ·exact g9 ..
theorem Ng(p r:Int)(a:List Int)(k:Nat):(iE p r a k).length=a.length-1:=fP _ _
theorem vD{p:Int}(hp:an p)(r:Int)(a:List Int):∀ k,El p (ij p r a k)
 | 0=>ep hp
 | k+1=>iq hp _ _
theorem mq{p r:Int}{a:List Int}{k t:Nat}(ht:t<a.length):(bR p r a k).getD t 0=if t+k<a.length-1 then a.getD t 0 else if t+k=a.length-1 then ij p r a (k+1) else 0:=by
 unfold bR
 rw[lB,if_pos ht]
theorem Lc{p r:Int}{a:List Int}(h2:2<=a.length)(he:ak p a=true):a=bR p r a 0:=by
 refine pA (g9 ..).symm (fun t ht=>?_)
 rw[mq ht]
 by_cases h:t+0<a.length-1
 ·rw[if_pos h]
 ·rw[if_neg h,if_pos (by omega)]
  show _=bd p (a.getD (a.length-1-0) 0) (mulM p 0 r)
  unfold bd mulM
  rw[Int.zero_mul,Int.zero_emod,Int.sub_zero,show a.length-1-0=t by omega,eo (mK he ht)]
theorem LP(p r:Int)(a:List Int):List.replicate (a.length-1) 0=iE p r a 0:=by
 rw[pD]
 refine cX (fun t ht=>?_)
 rw[if_neg (by omega)]
theorem EX{p r:Int}{a:List Int}{k:Nat}(hk:k+1<=a.length-1):(iE p r a k).set (a.length-2-k) (ij p r a (k+1))=iE p r a (k+1):=by
 unfold iE
 rw[lC]
 refine cX (fun t ht=>?_)
 by_cases h:t=a.length-2-k
 ·rw[if_pos h,if_pos (by omega)]
  congr 1
  omega
 ·rw[if_neg h]
  by_cases h2:a.length-1<=t+k
  ·rw[if_pos h2,if_pos (by omega)]
  ·rw[if_neg h2,if_neg (by omega)]
theorem Nf(p r:Int)(a:List Int):iE p r a (a.length-1)=EW p r a:=cX (fun t ht=>by rw[if_pos (by omega)])
theorem Lb{p r:Int}{a:List Int}{k:Nat}(hk:k+1<=a.length-1)(he:ak p a=true)(hz:ij p r a (k+1)=0):bR p r a k=bR p r a (k+1):=by
 refine pA (by simp only[g9]) (fun t ht=>?_)
 rw[g9] at ht
 rw[mq ht,mq ht]
 by_cases h:t+(k+1)<a.length-1
 ·rw[if_pos h,if_pos (by omega)]
 ·rw[if_neg h]
  by_cases h2:t+(k+1)=a.length-1
  ·rw[if_pos h2,if_pos (by omega)]
   show _=bd p (a.getD (a.length-1-(k+1)) 0) (mulM p (ij p r a (k+1)) r)
   unfold bd mulM
   rw[hz,Int.zero_mul,Int.zero_emod,Int.sub_zero,show a.length-1-(k+1)=t by omega,eo (mK he ht)]
  ·rw[if_neg h2,if_neg (by omega)]
   by_cases h3:t+k=a.length-1
   ·rw[if_pos h3,hz]
   ·rw[if_neg h3]
theorem M1{p r:Int}{a:List Int}{k:Nat}(hk:k+1<=a.length-1):((bR p r a k).set (a.length-2-k) (ij p r a (k+2))).set (a.length-1-k) 0=bR p r a (k+1):=by
 unfold bR
 rw[lC,lC]
 refine cX (fun t ht=>?_)
 by_cases h:t=a.length-1-k
 ·rw[if_pos h,if_neg (by omega),if_neg (by omega)]
 ·rw[if_neg h]
  by_cases h2:t=a.length-2-k
  ·rw[if_pos h2,if_neg (by omega),if_pos (by omega)]
  ·rw[if_neg h2]
   by_cases h3:t+k<a.length-1
   ·rw[if_pos h3,if_pos (by omega)]
   ·rw[if_neg h3,if_neg (by omega),if_neg (by omega),if_neg (by omega)]
theorem Ku{l:List Int}{i j:Nat}{v:Int}(hi:i<l.length):(l.set i v).getD j 0=if j=i then v else l.getD j 0:=by
 rw[List.getD_eq_getElem?_getD,List.getElem?_set]
 by_cases h:i=j
 ·subst h
  rw[if_pos rfl,if_pos hi,if_pos rfl];rfl
 ·rw[if_neg h,if_neg (Ne.symm h),List.getD_eq_getElem?_getD]
theorem inv_one{p:Int}(hp:an p):aR p 1=1:=by
 unfold aR bq
 rw[Int.one_pow,eo (gC hp)]
theorem y5{p:Int}{a b:Int}(ha:El p a)(hb:El p b):ak p [a,b]=true:=r6 (fun i hi=>by
 simp only[List.length_cons,List.length_nil] at hi
 match i with
 | 0=>exact ha
 | 1=>exact hb
 | n+2=>omega)
theorem mo{f:Int}{xs ys:List Int}(h:(bn f xs&&decide (ys.length=xs.length)&&aw f ys)=false):([],false)=b5 f xs ys:=by unfold b5;rw[h];rfl
theorem DP{f:Int}{xs ys:List Int}(h1:bn f xs=true)(h2:ys.length=xs.length)(h3:aw f ys=true):b5 f xs ys=(eu (ab f) xs ys,true):=by
 unfold b5
 rw[h1,h3,decide_eq_true h2];rfl
theorem Cp :
 ∀(d:Int×List Int),Ty.wf ah d.1/\Ty.wf ai d.2->aw d.1 d.2=true/\d.2.length<=(40:Nat)->(0:Nat)<=d.2.length/\((d.1=d.1/\d.2=d.2/\aQ/\(0:Int)=(↑(0:Nat):Int))/\[(1:Int)]=di (ab d.1) d.2 (0:Nat))/\∀(x:Nat),x<=d.2.length->(decide ((x:Int)<(d.2.length:Int))=true->((0:Int)<=(x:Int)/\(x:Int)<(d.2.length:Int))/\True/\(Ty.wf ah (fA d.1 (0:Int) (d.2.getD ((x:Int).toNat) (0:Int)))->(aw d.1 (di (ab d.1) d.2 x)=true/\aw d.1 [fA d.1 (0:Int) (d.2.getD ((x:Int).toNat) (0:Int)),(1:Int)]=true/\List.length (di (ab d.1) d.2 x)<=(1000:Nat)/\List.length [fA d.1 (0:Int) (d.2.getD ((x:Int).toNat) (0:Int)),(1:Int)]<=(1000:Nat))/\(Ty.wf ai (cY (ab d.1) (di (ab d.1) d.2 x) [fA d.1 (0:Int) (d.2.getD ((x:Int).toNat) (0:Int)),(1:Int)])->∃(x':Nat),x'<=d.2.length/\d.2.length-x'<d.2.length-x/\(d.1=d.1/\d.2=d.2/\aQ/\i64.wrap ((x:Int)+(1:Int))=(x':Int))/\cY (ab d.1) (di (ab d.1) d.2 x) [fA d.1 (0:Int) (d.2.getD ((x:Int).toNat) (0:Int)),(1:Int)]=di (ab d.1) d.2 x')))/\(decide ((x:Int)<(d.2.length:Int))=false->di (ab d.1) d.2 x=cp (ab d.1) d.2):=by
  intro (d:Int×List Int) hw hp
  obtain⟨f,xs⟩:=d
  replace hp:aw f xs=true/\xs.length<=40:=hp
  simp only[exists_const,forall_const,decide_eq_true_eq,decide_eq_false_iff_not,beq_iff_eq,sxS]
  obtain⟨hs,hl⟩:=hp
  obtain⟨hm,he⟩:=fF hs
  have h0:=(bu hm).1
  refine⟨by omega,⟨rfl,rfl⟩,fun x hx=>⟨fun h=>⟨⟨by omega,by omega⟩,fun _=>?_⟩,fun h=>by rw[show x=xs.length by omega];rfl⟩⟩
  rw[rT hm]
  have hv:=rU h0 xs x
  exact⟨⟨fb hm hv.2.1,fb hm (y5 (iq h0 _ _) (gC h0)),by omega,by simp⟩,fun _=>⟨x+1,by omega,by omega,aC (by omega),rfl⟩⟩
theorem JK :
 ∀(d:(Int×Int×Int)×List Int),Ty.wf bm d.1/\Ty.wf ai d.2->an d.1.1/\ak d.1.1 d.2=true/\d.2.length<=(40:Nat)->(0:Nat)<=d.2.length/\(((ae d.1.1/\ae d.1.2.1/\ae d.1.2.2)/\d.2=d.2/\aQ/\d.2=d.2/\ae (d.2.length:Int)/\(0:Int)=(↑(0:Nat):Int))/\(ae d.1.1/\ae d.1.2.1/\ae d.1.2.2)/\[(1:Int)]=di d.1.1 d.2 (0:Nat))/\∀(x:Nat),x<=d.2.length->(decide ((x:Int)<(d.2.length:Int))=true->((0:Int)<=(x:Int)/\(x:Int)<(d.2.length:Int))/\(an d.1.1/\El d.1.1 (0:Int)/\El d.1.1 (d.2.getD ((x:Int).toNat) (0:Int)))/\(an d.1.1/\ak d.1.1 (di d.1.1 d.2 x)=true/\ak d.1.1 [bd d.1.1 (0:Int) (d.2.getD ((x:Int).toNat) (0:Int)),(1:Int)]=true/\List.length (di d.1.1 d.2 x)<=(1000:Nat)/\List.length [bd d.1.1 (0:Int) (d.2.getD ((x:Int).toNat) (0:Int)),(1:Int)]<=(1000:Nat))/\(Ty.wf ai (cY d.1.1 (di d.1.1 d.2 x) [bd d.1.1 (0:Int) (d.2.getD ((x:Int).toNat) (0:Int)),(1:Int)])->Ty.wf ah (bd d.1.1 (0:Int) (d.2.getD ((x:Int).toNat) (0:Int)))->∃(x':Nat),x'<=d.2.length/\d.2.length-x'<d.2.length-x/\((ae d.1.1/\ae d.1.2.1/\ae d.1.2.2)/\d.2=d.2/\aQ/\d.2=d.2/\ae (d.2.length:Int)/\i64.wrap ((x:Int)+(1:Int))=(x':Int))/\(ae d.1.1/\ae d.1.2.1/\ae d.1.2.2)/\cY d.1.1 (di d.1.1 d.2 x) [bd d.1.1 (0:Int) (d.2.getD ((x:Int).toNat) (0:Int)),(1:Int)]=di d.1.1 d.2 x'))/\(decide ((x:Int)<(d.2.length:Int))=false->di d.1.1 d.2 x=cp d.1.1 d.2):=by
  intro (d:Fd×List Int) hw hp
  obtain⟨⟨p,g,t⟩,xs⟩:=d
  replace hp:an p/\ak p xs=true/\xs.length<=40:=hp
  simp only[exists_const,forall_const,decide_eq_true_eq,decide_eq_false_iff_not,beq_iff_eq,sxS]
  obtain⟨h0,he,hl⟩:=hp
  refine⟨by omega,⟨rfl,rfl⟩,fun x hx=>⟨fun h=>⟨⟨by omega,by omega⟩,⟨h0,ep h0,dr h0 he _⟩,?_⟩,fun h=>by rw[show x=xs.length by omega];rfl⟩⟩
  have hv:=rU h0 xs x
  exact⟨⟨h0,hv.2.1,y5 (iq h0 _ _) (gC h0),by omega,by simp⟩,fun _ _=>⟨x+1,by omega,by omega,aC (by omega),rfl⟩⟩
theorem AE :
 ∀(d:Int×List Int×List Int),Ty.wf ah d.1/\Ty.wf ai d.2.1/\Ty.wf ai d.2.2->bn d.1 d.2.1=true/\d.2.2.length=d.2.1.length->(0:Nat)<=d.2.1.length/\((d.1=d.1/\ae d.2.1/\ae d.2.2/\aQ/\(0:Int)=(↑(0:Nat):Int))/\[]=dy (ab d.1) d.2.1 d.2.2 (0:Nat))/\∀(x:Nat),x<=d.2.1.length->(decide ((x:Int)<(d.2.1.length:Int))=true->(0:Nat)<=d.2.1.length/\((d.1=d.1/\ae d.2.1/\ae d.2.2/\aQ/\ae (x:Int)/\(1:Int)=eU (ab d.1) d.2.1 x (0:Nat)/\(0:Int)=(↑(0:Nat):Int))/\ae (dy (ab d.1) d.2.1 d.2.2 x)/\[]=cI d.2.1 x (0:Nat))/\∀(x_1:Nat),x_1<=d.2.1.length->(decide ((x_1:Int)<(d.2.1.length:Int))=true->((!decide ((x_1:Int)=(x:Int)))=true->((0:Int)<=(x_1:Int)/\(x_1:Int)<(d.2.1.length:Int))/\(List.length (cI d.2.1 x x_1)+List.length [d.2.1.getD ((x_1:Int).toNat) (0:Int)])*(8:Nat)<=(140737488355328:Nat)/\((0:Int)<=(x:Int)/\(x:Int)<(d.2.1.length:Int))/\((0:Int)<=(x_1:Int)/\(x_1:Int)<(d.2.1.length:Int))/\True/\True/\(Ty.wf ah (b7 d.1 (eU (ab d.1) d.2.1 x x_1) (fA d.1 (d.2.1.getD ((x:Int).toNat) (0:Int)) (d.2.1.getD ((x_1:Int).toNat) (0:Int))))->Ty.wf ah (fA d.1 (d.2.1.getD ((x:Int).toNat) (0:Int)) (d.2.1.getD ((x_1:Int).toNat) (0:Int)))->∃(x':Nat),x'<=d.2.1.length/\d.2.1.length-x'<d.2.1.length-x_1/\(d.1=d.1/\ae d.2.1/\ae d.2.2/\aQ/\ae (x:Int)/\b7 d.1 (eU (ab d.1) d.2.1 x x_1) (fA d.1 (d.2.1.getD ((x:Int).toNat) (0:Int)) (d.2.1.getD ((x_1:Int).toNat) (0:Int)))=eU (ab d.1) d.2.1 x x'/\i64.wrap ((x_1:Int)+(1:Int))=(x':Int))/\ae (dy (ab d.1) d.2.1 d.2.2 x)/\cI d.2.1 x x_1++[d.2.1.getD ((x_1:Int).toNat) (0:Int)]=cI d.2.1 x x'))/\((!decide ((x_1:Int)=(x:Int)))=false->∃(x':Nat),x'<=d.2.1.length/\d.2.1.length-x'<d.2.1.length-x_1/\(d.1=d.1/\ae d.2.1/\ae d.2.2/\aQ/\ae (x:Int)/\eU (ab d.1) d.2.1 x x_1=eU (ab d.1) d.2.1 x x'/\i64.wrap ((x_1:Int)+(1:Int))=(x':Int))/\ae (dy (ab d.1) d.2.1 d.2.2 x)/\cI d.2.1 x x_1=cI d.2.1 x x'))/\(decide ((x_1:Int)<(d.2.1.length:Int))=false->(aw d.1 (cI d.2.1 x x_1)=true/\List.length (cI d.2.1 x x_1)<=(40:Nat))/\((0:Int)<=(x:Int)/\(x:Int)<(d.2.2.length:Int))/\True/\True/\True/\True/\(Ty.wf ai (mH d.1 (dy (ab d.1) d.2.1 d.2.2 x) (iy d.1 (cp (ab d.1) (cI d.2.1 x x_1)) (b7 d.1 (d.2.2.getD ((x:Int).toNat) (0:Int)) (a_ d.1 (eU (ab d.1) d.2.1 x x_1) (-1:Int)))))->Ty.wf ai (iy d.1 (cp (ab d.1) (cI d.2.1 x x_1)) (b7 d.1 (d.2.2.getD ((x:Int).toNat) (0:Int)) (a_ d.1 (eU (ab d.1) d.2.1 x x_1) (-1:Int))))->Ty.wf ah (b7 d.1 (d.2.2.getD ((x:Int).toNat) (0:Int)) (a_ d.1 (eU (ab d.1) d.2.1 x x_1) (-1:Int)))->Ty.wf ah (a_ d.1 (eU (ab d.1) d.2.1 x x_1) (-1:Int))->Ty.wf ai (cp (ab d.1) (cI d.2.1 x x_1))->∃(x':Nat),x'<=d.2.1.length/\d.2.1.length-x'<d.2.1.length-x/\(d.1=d.1/\ae d.2.1/\ae d.2.2/\aQ/\i64.wrap ((x:Int)+(1:Int))=(x':Int))/\mH d.1 (dy (ab d.1) d.2.1 d.2.2 x) (iy d.1 (cp (ab d.1) (cI d.2.1 x x_1)) (b7 d.1 (d.2.2.getD ((x:Int).toNat) (0:Int)) (a_ d.1 (eU (ab d.1) d.2.1 x x_1) (-1:Int))))=dy (ab d.1) d.2.1 d.2.2 x')))/\(decide ((x:Int)<(d.2.1.length:Int))=false->List.length (dy (ab d.1) d.2.1 d.2.2 x)<=(1048576:Nat)/\(Ty.wf ai (bz (dy (ab d.1) d.2.1 d.2.2 x))->bz (dy (ab d.1) d.2.1 d.2.2 x)=eu (ab d.1) d.2.1 d.2.2)):=by
  intro (d:Int×List Int×List Int) hw hp
  obtain⟨f,xs,ys⟩:=d
  replace hp:bn f xs=true/\ys.length=xs.length:=hp
  simp only[exists_const,forall_const,decide_eq_true_eq,decide_eq_false_iff_not,beq_iff_eq,sxS]
  obtain⟨lS,tO⟩:=hp
  obtain⟨hm,KN,na,he,hn⟩:=iL lS
  have hp:=lA hm
  refine⟨by omega,⟨rfl,rfl⟩,fun x hx=>⟨fun h=>⟨by omega,⟨⟨rfl,rfl⟩,rfl⟩,fun y hy=>⟨fun h1=>⟨fun h2=>?_,fun h2=>?_⟩,fun h1=>?_⟩⟩,fun h=>?_⟩⟩
  ·have Sj:=oK xs x y
   rw[iv hm,rT hm]
   refine⟨⟨by omega,by omega⟩,by simp only[List.length_cons,List.length_nil];omega,⟨by omega,by omega⟩,⟨by omega,by omega⟩,fun _ _=>⟨y+1,by omega,by omega,⟨?_,aC (by omega)⟩,(uP (by omega)).symm⟩⟩
   show _=if y=x then _ else _
   rw[if_neg (by omega)]
  ·refine⟨y+1,by omega,by omega,⟨?_,aC (by omega)⟩,(y3 (by omega)).symm⟩
   show _=if y=x then _ else _
   rw[if_pos (by omega)]
  ·obtain rfl:y=xs.length:=by omega
   have Sj:=oK xs x xs.length
   have hv:=oP hp.mod (cI xs x xs.length)
   have hinv:a_ f (eU (ab f) xs x xs.length) (-1)=j8 (ab f) xs x:=by
    rw[rJ hm,Ek hp.mod (Ip hp he hn (by omega) _ (Nat.le_refl _))];rfl
   have N3:=s_ hp.mod (cp (ab f) (cI xs x xs.length)) (mulM (ab f) (ys.getD x 0) (j8 (ab f) xs x))
   have HG:=vj hp.mod ys na x
   have S4:iy f (cp (ab f) (cI xs x xs.length)) (mulM (ab f) (ys.getD x 0) (j8 (ab f) xs x))=ei (ab f) (cp (ab f) (cI xs x xs.length)) (mulM (ab f) (ys.getD x 0) (j8 (ab f) xs x)):=by
    unfold iy
    rw[if_pos (iw hm hv.2.1 (by omega) hv.2.2)]
   rw[hinv,iv hm,S4]
   refine⟨⟨fb hm (Bn he x _ (Nat.le_refl _)),by omega⟩,⟨by omega,by omega⟩,fun _ _ _ _ _=>⟨x+1,by omega,by omega,aC (by omega),?_⟩⟩
   unfold mH
   rw[iw hm HG.1 (by omega) HG.2.2,iw hm N3.1 (by omega) N3.2.2]
   rfl
  ·obtain rfl:x=xs.length:=by omega
   have HG:=vj hp.mod ys na xs.length
   exact⟨by omega,fun _=>r5 HG.2.2⟩
theorem GF :
 ∀(d:(Int×Int×Int)×List Int×List Int),Ty.wf bm d.1/\Ty.wf ai d.2.1/\Ty.wf ai d.2.2->(∃(f:Int),bn f d.2.1=true/\ab f=d.1.1)/\ak d.1.1 d.2.2=true/\d.2.2.length=d.2.1.length->(an d.1.1/\ak d.1.1 d.2.1=true/\d.2.1.length<=(40:Nat))/\(Ty.wf ai (cp d.1.1 d.2.1)->(0:Nat)<=d.2.1.length/\(((ae d.1.1/\ae d.1.2.1/\ae d.1.2.2)/\ae d.2.1/\ae d.2.2/\aQ/\ae d.2.1/\ae (d.2.1.length:Int)/\(0:Int)=(↑(0:Nat):Int))/\(ae d.1.1/\ae d.1.2.1/\ae d.1.2.2)/\ae (cp d.1.1 d.2.1)/\[]=dy d.1.1 d.2.1 d.2.2 (0:Nat))/\∀(x:Nat),x<=d.2.1.length->(decide ((x:Int)<(d.2.1.length:Int))=true->((0:Int)<=(x:Int)/\(x:Int)<(d.2.1.length:Int))/\(an d.1.1/\El d.1.1 (0:Int)/\El d.1.1 (d.2.1.getD ((x:Int).toNat) (0:Int)))/\(an d.1.1/\ak d.1.1 (cp d.1.1 d.2.1)=true/\(2:Nat)<=List.length (cp d.1.1 d.2.1)/\List.length (cp d.1.1 d.2.1)<=(1000:Nat)/\Mq d.1.1 [bd d.1.1 (0:Int) (d.2.1.getD ((x:Int).toNat) (0:Int)),(1:Int)])/\(Ty.wf ai (mc d.1.1 (cp d.1.1 d.2.1) [bd d.1.1 (0:Int) (d.2.1.getD ((x:Int).toNat) (0:Int)),(1:Int)]).1/\Ty.wf ai (mc d.1.1 (cp d.1.1 d.2.1) [bd d.1.1 (0:Int) (d.2.1.getD ((x:Int).toNat) (0:Int)),(1:Int)]).2->Ty.wf ah (bd d.1.1 (0:Int) (d.2.1.getD ((x:Int).toNat) (0:Int)))->((0:Int)<=(x:Int)/\(x:Int)<(d.2.2.length:Int))/\(an d.1.1/\ak d.1.1 d.2.1=true/\(0:bU [ah])<=(x:Int)/\(x:Int)<(↑d.2.1.length:bU [ah]))/\(an d.1.1/\El d.1.1 (d.2.2.getD ((x:Int).toNat) (0:Int))/\El d.1.1 (j8 d.1.1 d.2.1 ((x:Int).toNat)))/\(an d.1.1/\ak d.1.1 (mc d.1.1 (cp d.1.1 d.2.1) [bd d.1.1 (0:Int) (d.2.1.getD ((x:Int).toNat) (0:Int)),(1:Int)]).1=true/\El d.1.1 (mulM d.1.1 (d.2.2.getD ((x:Int).toNat) (0:Int)) (j8 d.1.1 d.2.1 ((x:Int).toNat)))/\List.length (mc d.1.1 (cp d.1.1 d.2.1) [bd d.1.1 (0:Int) (d.2.1.getD ((x:Int).toNat) (0:Int)),(1:Int)]).1<=(1000:Nat))/\(an d.1.1/\ak d.1.1 (dy d.1.1 d.2.1 d.2.2 x)=true/\ak d.1.1 (ei d.1.1 (mc d.1.1 (cp d.1.1 d.2.1) [bd d.1.1 (0:Int) (d.2.1.getD ((x:Int).toNat) (0:Int)),(1:Int)]).1 (mulM d.1.1 (d.2.2.getD ((x:Int).toNat) (0:Int)) (j8 d.1.1 d.2.1 ((x:Int).toNat))))=true/\List.length (dy d.1.1 d.2.1 d.2.2 x)<=(1000:Nat)/\List.length (ei d.1.1 (mc d.1.1 (cp d.1.1 d.2.1) [bd d.1.1 (0:Int) (d.2.1.getD ((x:Int).toNat) (0:Int)),(1:Int)]).1 (mulM d.1.1 (d.2.2.getD ((x:Int).toNat) (0:Int)) (j8 d.1.1 d.2.1 ((x:Int).toNat))))<=(1000:Nat))/\(Ty.wf ai (nw d.1.1 (dy d.1.1 d.2.1 d.2.2 x) (ei d.1.1 (mc d.1.1 (cp d.1.1 d.2.1) [bd d.1.1 (0:Int) (d.2.1.getD ((x:Int).toNat) (0:Int)),(1:Int)]).1 (mulM d.1.1 (d.2.2.getD ((x:Int).toNat) (0:Int)) (j8 d.1.1 d.2.1 ((x:Int).toNat)))))->Ty.wf ai (ei d.1.1 (mc d.1.1 (cp d.1.1 d.2.1) [bd d.1.1 (0:Int) (d.2.1.getD ((x:Int).toNat) (0:Int)),(1:Int)]).1 (mulM d.1.1 (d.2.2.getD ((x:Int).toNat) (0:Int)) (j8 d.1.1 d.2.1 ((x:Int).toNat))))->Ty.wf ah (mulM d.1.1 (d.2.2.getD ((x:Int).toNat) (0:Int)) (j8 d.1.1 d.2.1 ((x:Int).toNat)))->Ty.wf ah (j8 d.1.1 d.2.1 ((x:Int).toNat))->∃(x':Nat),x'<=d.2.1.length/\d.2.1.length-x'<d.2.1.length-x/\((ae d.1.1/\ae d.1.2.1/\ae d.1.2.2)/\ae d.2.1/\ae d.2.2/\aQ/\ae d.2.1/\ae (d.2.1.length:Int)/\i64.wrap ((x:Int)+(1:Int))=(x':Int))/\(ae d.1.1/\ae d.1.2.1/\ae d.1.2.2)/\ae (cp d.1.1 d.2.1)/\nw d.1.1 (dy d.1.1 d.2.1 d.2.2 x) (ei d.1.1 (mc d.1.1 (cp d.1.1 d.2.1) [bd d.1.1 (0:Int) (d.2.1.getD ((x:Int).toNat) (0:Int)),(1:Int)]).1 (mulM d.1.1 (d.2.2.getD ((x:Int).toNat) (0:Int)) (j8 d.1.1 d.2.1 ((x:Int).toNat))))=dy d.1.1 d.2.1 d.2.2 x')))/\(decide ((x:Int)<(d.2.1.length:Int))=false->dy d.1.1 d.2.1 d.2.2 x=eu d.1.1 d.2.1 d.2.2)):=by
  intro (d:Fd×List Int×List Int) hw hp
  obtain⟨⟨p,g,t⟩,xs,ys⟩:=d
  replace hp:(∃ f,bn f xs=true/\ab f=p)/\ak p ys=true/\ys.length=xs.length:=hp
  simp only[exists_const,forall_const,decide_eq_true_eq,decide_eq_false_iff_not,beq_iff_eq,sxS]
  obtain⟨⟨f,lS,rfl⟩,Ud,tO⟩:=hp
  obtain⟨hm,KN,na,he,hn⟩:=iL lS
  have h0:=(lA hm).mod
  have hv:=oP h0 xs
  refine⟨⟨h0,he,by omega⟩,fun _=>⟨by omega,⟨rfl,rfl⟩,fun x hx=>⟨fun h=>?_,fun h=>by rw[show x=xs.length by omega];rfl⟩⟩⟩
  have hq:(mc (ab f) (cp (ab f) xs) [bd (ab f) 0 (xs.getD x 0),1]).1=cp (ab f) (cI xs x xs.length):=Pa h0 (by omega)
  rw[hq]
  have Sj:=oK xs x xs.length
  have T5:=oP h0 (cI xs x xs.length)
  have N3:=s_ h0 (cp (ab f) (cI xs x xs.length)) (mulM (ab f) (ys.getD x 0) (j8 (ab f) xs x))
  have HG:=vj h0 ys na x
  refine⟨⟨by omega,by omega⟩,⟨h0,ep h0,dr h0 he _⟩,⟨h0,hv.2.1,by omega,by omega,rfl,rfl,iq h0 _ _⟩,fun _ _=>⟨⟨by omega,by omega⟩,⟨h0,he,Int.natCast_nonneg _,by omega⟩,⟨h0,dr h0 Ud _,oF h0 _⟩,⟨h0,T5.2.1,ea h0 _ _,by omega⟩,⟨h0,HG.1,N3.1,by omega,by omega⟩,fun _ _ _ _=>⟨x+1,by omega,by omega,aC (by omega),rfl⟩⟩⟩
theorem zE :
 ∀(d:Int×List Int×List Int),Ty.wf ah d.1/\Ty.wf ai d.2.1/\Ty.wf ai d.2.2->True->True/\((!bn d.1 d.2.1)=true->([],false)=b5 d.1 d.2.1 d.2.2)/\((!bn d.1 d.2.1)=false->((!decide ((d.2.2.length:Int)=(d.2.1.length:Int)))=true->([],false)=b5 d.1 d.2.1 d.2.2)/\((!decide ((d.2.2.length:Int)=(d.2.1.length:Int)))=false->True/\((!aw d.1 d.2.2)=true->([],false)=b5 d.1 d.2.1 d.2.2)/\((!aw d.1 d.2.2)=false->(bn d.1 d.2.1=true/\d.2.2.length=d.2.1.length)/\(Ty.wf ai (eu (ab d.1) d.2.1 d.2.2)->(eu (ab d.1) d.2.1 d.2.2,true)=b5 d.1 d.2.1 d.2.2)))):=by
  intro (d:Int×List Int×List Int) hw hp
  obtain⟨f,xs,ys⟩:=d
  simp only[exists_const,forall_const,decide_eq_true_eq,decide_eq_false_iff_not,beq_iff_eq,sxS]
  refine⟨fun h=>mo (by rw[h];rfl),fun h=>⟨fun h1=>mo (by rw[decide_eq_false (by omega),Bool.and_false];rfl),fun h1=>⟨fun h2=>mo (by rw[h2,Bool.and_false]),fun h2=>⟨⟨h,by omega⟩,fun _=>(DP h (by omega) h2).symm⟩⟩⟩⟩
theorem zB :
 ∀(d:Int×List Int×List Int),Ty.wf ah d.1/\Ty.wf ai d.2.1/\Ty.wf ai d.2.2->True->True/\(Ty.wf bm (fj d.1 d.2.1).1/\Ty.wf Ty.bool (fj d.1 d.2.1).2->((!(fj d.1 d.2.1).2)=true->([],false)=b5 d.1 d.2.1 d.2.2)/\((!(fj d.1 d.2.1).2)=false->((!decide ((d.2.2.length:Int)=(d.2.1.length:Int)))=true->([],false)=b5 d.1 d.2.1 d.2.2)/\((!decide ((d.2.2.length:Int)=(d.2.1.length:Int)))=false->True/\((!ak (fj d.1 d.2.1).1.1 d.2.2)=true->([],false)=b5 d.1 d.2.1 d.2.2)/\((!ak (fj d.1 d.2.1).1.1 d.2.2)=false->((∃(f:Int),bn f d.2.1=true/\ab f=(fj d.1 d.2.1).1.1)/\ak (fj d.1 d.2.1).1.1 d.2.2=true/\d.2.2.length=d.2.1.length)/\(Ty.wf ai (eu (fj d.1 d.2.1).1.1 d.2.1 d.2.2)->(eu (fj d.1 d.2.1).1.1 d.2.1 d.2.2,true)=b5 d.1 d.2.1 d.2.2))))):=by
  intro (d:Int×List Int×List Int) hw hp
  obtain⟨f,xs,ys⟩:=d
  simp only[exists_const,forall_const,decide_eq_true_eq,decide_eq_false_iff_not,beq_iff_eq,sxS]
  intro _
  rw[LC]
  refine⟨fun h=>mo (by rw[h];rfl),fun h=>?_⟩
  rw[Q3 h]
  have hm:=(iL h).1
  refine⟨fun h1=>mo (by rw[decide_eq_false (by omega),Bool.and_false];rfl),fun h1=>⟨fun h2=>mo ?_,fun h2=>⟨⟨⟨f,h,rfl⟩,h2,by omega⟩,fun _=>(DP h (by omega) (fb hm h2)).symm⟩⟩⟩
  unfold aw
  rw[h2,Bool.and_false,Bool.and_false]
theorem zy :
 ∀(d:Int×List Int×List Int),Ty.wf ah d.1/\Ty.wf ai d.2.1/\Ty.wf ai d.2.2->True->True/\(Ty.wf ai (b5 d.1 d.2.1 d.2.2).1/\Ty.wf Ty.bool (b5 d.1 d.2.1 d.2.2).2->(Prod.fst (b5 d.1 d.2.1 d.2.2),(b5 d.1 d.2.1 d.2.2).2)=b5 d.1 d.2.1 d.2.2):=by
  intro (d:Int×List Int×List Int) hw hp
  simp only[exists_const,forall_const,decide_eq_true_eq,decide_eq_false_iff_not,beq_iff_eq,sxS]
theorem FC :
 ∀(d:Int×List Int×Int),Ty.wf ah d.1/\Ty.wf ai d.2.1/\Ty.wf ah d.2.2->True->True/\((!aL d.1 d.2.1)=true->(-1:Int)=pP d.1 d.2.1 d.2.2)/\((!aL d.1 d.2.1)=false->(0:Nat)<=d.2.1.length/\(d.1=d.1/\ae d.2.1/\ae d.2.2/\ae (0:Int)/\(0:Int)=m6 (ab d.1) d.2.1 d.2.2 (0:Nat)/\(0:Int)=(↑(0:Nat):Int))/\∀(x:Nat),x<=d.2.1.length->(decide ((x:Int)<(d.2.1.length:Int))=true->((0:Int)<=(x:Int)/\(x:Int)<(d.2.1.length:Int))/\True/\True/\True/\(Ty.wf ah (kO d.1 (m6 (ab d.1) d.2.1 d.2.2 x) (b7 d.1 (d.2.1.getD ((x:Int).toNat) (0:Int)) (a_ d.1 d.2.2 (x:Int))))->Ty.wf ah (b7 d.1 (d.2.1.getD ((x:Int).toNat) (0:Int)) (a_ d.1 d.2.2 (x:Int)))->Ty.wf ah (a_ d.1 d.2.2 (x:Int))->∃(x':Nat),x'<=d.2.1.length/\d.2.1.length-x'<d.2.1.length-x/\d.1=d.1/\ae d.2.1/\ae d.2.2/\ae (0:Int)/\kO d.1 (m6 (ab d.1) d.2.1 d.2.2 x) (b7 d.1 (d.2.1.getD ((x:Int).toNat) (0:Int)) (a_ d.1 d.2.2 (x:Int)))=m6 (ab d.1) d.2.1 d.2.2 x'/\i64.wrap ((x:Int)+(1:Int))=(x':Int)))/\(decide ((x:Int)<(d.2.1.length:Int))=false->m6 (ab d.1) d.2.1 d.2.2 x=pP d.1 d.2.1 d.2.2)):=by
  intro (d:Int×List Int×Int) hw hp
  obtain⟨f,a,y⟩:=d
  simp only[exists_const,forall_const,decide_eq_true_eq,decide_eq_false_iff_not,beq_iff_eq,sxS]
  refine⟨fun h=>by unfold pP;rw[h];rfl,fun h=>?_⟩
  obtain⟨hm,he,hl,ht⟩:=b6 h
  refine⟨by omega,⟨rfl,rfl⟩,fun x hx=>⟨fun h1=>⟨⟨by omega,by omega⟩,fun _ _ _=>⟨x+1,by omega,by omega,?_,aC (by omega)⟩⟩,fun h1=>?_⟩⟩
  ·rw[rJ hm,M_ hm y (by omega),iv hm,zL hm];rfl
  ·rw[show x=a.length by omega]
   unfold pP
   rw[if_pos h];rfl
theorem Nr :
 ∀(d:(Int×Int×Int)×List Int×Int),Ty.wf bm d.1/\Ty.wf ai d.2.1/\Ty.wf ah d.2.2->an d.1.1/\ak d.1.1 d.2.1=true/\El d.1.1 d.2.2->rX d.1.1 d.2.1 d.2.2 (d.2.1.length,(0:Int))/\(((ae d.1.1/\ae d.1.2.1/\ae d.1.2.2)/\ae d.2.1/\ae d.2.2/\ae (0:Int)/\ae (0:Int)/\i64.wrap ((d.2.1.length:Int)-(1:Int))=(d.2.1.length:Int)-(1:Int))/\ae d.1.1/\ae d.1.2.1/\ae d.1.2.2)/\∀(x:Nat×Int),rX d.1.1 d.2.1 d.2.2 x->(decide ((0:Int)<=(x.1:Int)-(1:Int))=true->((0:Int)<=(x.1:Int)-(1:Int)/\(x.1:Int)-(1:Int)<(d.2.1.length:Int))/\d.1.1≠(0:Int)/\∃(x':Nat×Int),rX d.1.1 d.2.1 d.2.2 x'/\x'.1<x.1/\((ae d.1.1/\ae d.1.2.1/\ae d.1.2.2)/\ae d.2.1/\ae d.2.2/\ae (0:Int)/\Int.tmod (i64.wrap (i64.wrap (x.2*d.2.2)+d.2.1.getD (Int.toNat ((x.1:Int)-(1:Int))) (0:Int))) d.1.1=x'.2/\i64.wrap ((x.1:Int)-(1:Int)-(1:Int))=(x'.1:Int)-(1:Int))/\ae d.1.1/\ae d.1.2.1/\ae d.1.2.2)/\(decide ((0:Int)<=(x.1:Int)-(1:Int))=false->x.2=m7 d.1.1 d.2.1 d.2.2):=by
  intro (d:Fd×List Int×Int) hw hp
  obtain⟨⟨p,g,t⟩,a,y⟩:=d
  replace hp:an p/\ak p a=true/\El p y:=hp
  have hl:a.length<=9223372036854775807:=hw.2.1.1
  simp only[exists_const,forall_const,decide_eq_true_eq,decide_eq_false_iff_not,beq_iff_eq,sxS]
  obtain⟨h0,he,hy⟩:=hp
  refine⟨⟨Nat.le_refl _,ep h0,?_⟩,wrap_small (by omega),fun x hx=>⟨fun h=>?_,fun h=>MQ h0 (by omega) hx⟩⟩
  ·simp only[Int.zero_mul,Int.zero_add]
   exact eo (Kn h0 a y)
  ·have nf:=hx.1
   obtain⟨n,hn⟩:∃ n,x.1=n+1:=⟨x.1-1,by omega⟩
   have fN:=KQ h0 hn hx
   have Sg:((x.1:Nat):Int)-1=(n:Int):=by omega
   rw[Sg,Int.toNat_natCast]
   have hm:=i_ h0 hx.2.1 hy
   have iH:=mK he (show n<a.length by omega)
   have PZ:=h0
   unfold an at PZ;unfold El at iH
   refine⟨⟨by omega,by omega⟩,by omega,_,fN,by show n<_;omega,?_,?_⟩
   ·rw[wrap_small (n:=x.2*y) (by omega),wrap_small (by omega),mD (by omega)]
   ·rw[wrap_small (by omega)]
set_option maxRecDepth 10000
set_option maxRecDepth 10000
theorem Bk(n:Int):∀ m:Nat,m<=10->0<=mT n m->∃ k:Nat,k<=9/\mT n m=(k:Int)/\n=2^k
 | 0,_,h=>by have:mT n 0 = -1:=rfl;omega
 | m+1,hm,h=>by
   unfold mT at h ⊢
   by_cases e:n=2^(9-m)
   ·rw[if_pos e];exact⟨9-m,by omega,rfl,e⟩
   ·rw[if_neg e] at h ⊢
    exact Bk n m (by omega) h
theorem HK{n:Nat}(h:0<=ax (n:Int)):ax (n:Int)<=9/\n=2^(ax (n:Int)).toNat:=by
 obtain⟨k,h1,h2,h3⟩:=Bk (n:Int) 10 (Nat.le_refl _) h
 have h4:ax (n:Int)=(k:Int):=h2
 rw[h4,Int.toNat_natCast]
 refine⟨by omega,?_⟩
 rw[show (2:Int)^k=((2^k:Nat):Int) from (Int.natCast_pow 2 k).symm] at h3
 exact Int.ofNat.inj h3
theorem zl(x:Nat):∀ j,rev x j<2^j
 | 0=>by simp[rev]
 | j+1=>by
   have:=zl x j
   simp only[rev,Nat.pow_succ]
   omega
theorem Jw:∀ k:Fin 10,∀ x:Fin 512,x.val<2^k.val->rev (rev x.val k.val) k.val=x.val:=by decide +kernel
theorem g_{k:Nat}(h:k<=9):2^k<=512:=Nat.pow_le_pow_right (n:=2) (by omega) h
theorem HV{k x:Nat}(hk:k<=9)(hx:x<2^k):rev (rev x k) k=x:=by
 have:=g_ hk
 exact Jw ⟨k,by omega⟩ ⟨x,by omega⟩ hx
theorem FW:∀ a:Fin 512,sM .i64 (a.val:Int) 1=((a.val%2:Nat):Int):=by decide +kernel
theorem xx(x i:Nat)(hi:i<=63):iB .i64 (x:Int) (i:Int)=((x/2^i:Nat):Int):=by
 unfold iB
 rw[Int.toNat_natCast,show min i i64.bits=i by show min i 64=i;omega,Int.fdiv_eq_ediv_of_nonneg _ (Int.le_of_lt (Int.pow_pos (by omega)))]
 rw[show ((2:Int)^i)=((2^i:Nat):Int) from (Int.natCast_pow 2 i).symm]
 rfl
theorem Nn(n:Nat):((n:Nat):Int).tmod 2=((n%2:Nat):Int):=rfl
theorem Ee(v:List Int)(n:Nat):(CD v n).length=n:=cU _ _
theorem I3(v:List Int):List.replicate v.length 0=oq v 0:=by
 unfold oq
 rw[show (fun i=>if rev i (ax v.length).toNat<0 then v.getD (rev i (ax v.length).toNat) 0 else 0)=fun _=>(0:Int) by funext i;rw[if_neg (by omega)],List.map_const',List.length_range]
theorem Fs :
 ∀(d:Int×Int),Ty.wf ah d.1/\Ty.wf ah d.2->((0:bU [ah])<=d.2/\d.2<=(9:bU [ah]))/\(0:Ty.den ah)<=d.1/\d.1<(2:Ty.den ah)^d.2.toNat->(↑(0:Nat):Int)<=d.2/\(d.1=(↑(d.1.toNat/(2:Nat)^(0:Nat)):Int)/\d.2=d.2/\ae (0:Int)/\(0:Int)=(↑(rev d.1.toNat (0:Nat)):Int)/\d.2=d.2/\(0:Int)=(↑(0:Nat):Int))/\∀(x:Nat),(x:Int)<=d.2->(decide ((x:Int)<d.2)=true->(0:Int)<=(1:Int)/\∃(x':Nat),(x':Int)<=d.2/\d.2.toNat-x'<d.2.toNat-x/\iB i64 (↑(d.1.toNat/(2:Nat)^x):Int) (1:Int)=(↑(d.1.toNat/(2:Nat)^x'):Int)/\d.2=d.2/\ae (0:Int)/\i64.wrap (i64.wrap ((2:Int)*(rev d.1.toNat x:Int))+sM i64 (↑(d.1.toNat/(2:Nat)^x):Int) (1:Int))=(rev d.1.toNat x':Int)/\d.2=d.2/\i64.wrap ((x:Int)+(1:Int))=(x':Int))/\(decide ((x:Int)<d.2)=false->(rev d.1.toNat x:Int)=(rev d.1.toNat d.2.toNat:Int)):=by
  intro (d:Int×Int) _ hp
  obtain⟨x,k⟩:=d
  replace hp:(0<=k/\k<=9)/\0<=x/\x<2^k.toNat:=hp
  obtain⟨hk,Bd,nf⟩:=hp
  obtain⟨n,rfl⟩:=Int.eq_ofNat_of_zero_le Bd
  obtain⟨m,rfl⟩:=Int.eq_ofNat_of_zero_le hk.1
  simp only[exists_const,forall_const,decide_eq_true_eq,decide_eq_false_iff_not,beq_iff_eq,sxS]
  rw[Int.toNat_natCast] at nf
  have Qv:(2:Int)^m=((2^m:Nat):Int):=(Int.natCast_pow 2 m).symm
  rw[Qv] at nf
  have IC:=g_ (k:=m) (by omega)
  refine⟨by omega,⟨by simp,rfl,rfl⟩,fun j hj=>⟨fun aK=>⟨by omega,j+1,by omega,by omega,?_,?_,aC (by omega)⟩,fun dU=>?_⟩⟩
  ·have:=xx (n/2^j) 1 (by omega)
   rw[show ((1:Nat):Int)=1 from rfl] at this
   rw[this,Nat.pow_one,Nat.div_div_eq_div_mul,Nat.pow_succ]
  ·have hle:n/2^j<=n:=Nat.div_le_self _ _
   have h1:sM .i64 ((n/2^j:Nat):Int) 1=((n/2^j%2:Nat):Int):=FW ⟨n/2^j,by omega⟩
   have r1:=zl n j
   have r2:=g_ (k:=j) (by omega)
   rw[h1,wrap_small (n:=2*((rev n j:Nat):Int)) (by omega),wrap_small (by omega),rev]
   omega
  ·have TG:j=m:=by omega
   subst TG;rfl
theorem Fq :
 ∀(d:List Int),Ty.wf ai d->(0:Int)<=ax (d.length:Int)->True/\(Ty.wf ah (ax (d.length:Int))->((0:Int)<=(d.length:Int)/\(d.length:Int)<=(d.length:Int)/\(d.length:Int)*(↑(8:Nat):Int)<=(140737488355328:Int))/\(0:Nat)<=d.length/\((d=d/\aQ/\ae (ax (d.length:Int))/\d=d/\ae (d.length:Int)/\(0:Int)=(↑(0:Nat):Int))/\List.replicate ((d.length:Int).toNat) (0:Int)=oq d (0:Nat))/\∀(x:Nat),x<=d.length->(decide ((x:Int)<(d.length:Int))=true->((0:Int)<=(x:Int)/\(x:Int)<(d.length:Int))/\(((0:bU [ah])<=ax (d.length:Int)/\ax (d.length:Int)<=(9:bU [ah]))/\(0:Ty.den ah)<=(x:Int)/\(x:Int)<(2:Ty.den ah)^Int.toNat (ax (d.length:Int)))/\(Ty.wf ah (↑(rev ((x:Int).toNat) (Int.toNat (ax (d.length:Int)))):Int)->((0:Int)<=(↑(rev ((x:Int).toNat) (Int.toNat (ax (d.length:Int)))):Int)/\(↑(rev ((x:Int).toNat) (Int.toNat (ax (d.length:Int)))):Int)<(↑(List.length (oq d x)):Int))/\∃(x':Nat),x'<=d.length/\d.length-x'<d.length-x/\(d=d/\aQ/\ae (ax (d.length:Int))/\d=d/\ae (d.length:Int)/\i64.wrap ((x:Int)+(1:Int))=(x':Int))/\List.set (oq d x) (Int.toNat (↑(rev ((x:Int).toNat) (Int.toNat (ax (d.length:Int)))):Int)) (d.getD ((x:Int).toNat) (0:Int))=oq d x'))/\(decide ((x:Int)<(d.length:Int))=false->oq d x=dA d)):=by
  intro (v:List Int) hw (hp:0<=ax v.length)
  have hl:v.length<=9223372036854775807:=hw.1
  simp only[exists_const,forall_const,decide_eq_true_eq,decide_eq_false_iff_not,beq_iff_eq,sxS]
  intro _
  obtain⟨h1,h2⟩:=HK (n:=v.length) hp
  have IC:=g_ (k:=(ax v.length).toNat) (by omega)
  have NY:∀ x,(oq v x).length=v.length:=fun x=>cU _ _
  refine⟨⟨by omega,by omega,by omega⟩,Nat.zero_le _,⟨rfl,I3 v⟩,fun x hx=>⟨fun aK=>?_,fun dU=>?_⟩⟩
  ·have jX:x<v.length:=by omega
   have hr:=zl x (ax v.length).toNat
   have Qv:(2:Int)^(ax v.length).toNat=((2^(ax v.length).toNat:Nat):Int):=(Int.natCast_pow 2 _).symm
   rw[Qv,NY]
   have kn:(0<=ax v.length/\ax v.length<=9)/\0<=(x:Int)/\(x:Int)<((2^(ax v.length).toNat:Nat):Int):=by omega
   refine⟨⟨by omega,by omega⟩,kn,fun _=>⟨⟨by omega,by omega⟩,x+1,by omega,by omega,aC (by omega),?_⟩⟩
   have hinv:=HV (k:=(ax v.length).toNat) (x:=x) (by omega) (by omega)
   refine Pc ?_ (fun b hb bo=>?_)
   ·rw[hinv,if_pos (by omega)]
   ·have UJ:rev b (ax v.length).toNat≠x:=fun e=>bo (by rw[<-e];exact (HV (by omega) (by omega)).symm)
    by_cases e:rev b (ax v.length).toNat<x
    ·rw[if_pos e,if_pos (by omega)]
    ·rw[if_neg e,if_neg (by omega)]
  ·have:x=v.length:=by omega
   subst this
   unfold dA;rw[if_pos hp]
   refine Ra (fun i _=>?_)
   have hr:=zl i (ax v.length).toNat
   rw[if_pos (by omega)]
set_option maxRecDepth 10000
def dp(h B:Nat):Nat:=B/h*(2*h)+B%h
theorem OY{h B:Nat}(hh:0<h):dp h B/(2*h)=B/h:=by
 have:=Nat.mod_lt B hh
 unfold dp
 rw[Nat.mul_comm,Nat.mul_add_div (by omega),show (B%h)/(2*h)=0 from Nat.div_eq_of_lt (by omega),Nat.add_zero]
theorem MW{h B:Nat}(hh:0<h):(dp h B+h)/(2*h)=B/h:=by
 have:=Nat.mod_lt B hh
 unfold dp
 rw[Nat.add_assoc,Nat.mul_comm,Nat.mul_add_div (by omega),show (B%h+h)/(2*h)=0 from Nat.div_eq_of_lt (by omega),Nat.add_zero]
theorem DN{h B:Nat}(hh:0<h):dp h B%(2*h)=B%h:=by
 have:=Nat.mod_lt B hh
 unfold dp
 rw[Nat.mul_comm,Nat.mul_add_mod,Nat.mod_eq_of_lt (by omega)]
theorem K3{h B:Nat}(hh:0<h):(dp h B+h)%(2*h)=B%h+h:=by
 have:=Nat.mod_lt B hh
 unfold dp
 rw[Nat.add_assoc,Nat.mul_comm,Nat.mul_add_mod,Nat.mod_eq_of_lt (by omega)]
theorem HM(h t:Nat)(hh:0<h):t%h=if t%(2*h)<h then t%(2*h) else t%(2*h)-h:=by
 have h1:t%(2*h)%h=t%h:=Nat.mod_mod_of_dvd t ⟨2,Nat.mul_comm 2 h⟩
 have h2:=Nat.mod_lt t (show 0<2*h by omega)
 rw[<-h1]
 split
 ·exact Nat.mod_eq_of_lt (by assumption)
 ·rw[Nat.mod_eq_sub_mod (by omega),Nat.mod_eq_of_lt (by omega)]
theorem zZ{h B:Nat}(hh:0<h):dp h B%h=B%h:=by
 have:=Nat.mod_lt B hh
 rw[HM h _ hh,DN hh,if_pos this]
theorem DM{h B:Nat}(hh:0<h):(dp h B+h)%h=B%h:=by
 rw[Nat.add_mod_right,zZ hh]
theorem jc(l:Nat):0<2^l:=Nat.pow_pos (by omega)
theorem Oy(l B:Nat):kQ l (dp (2^l) B)=B:=by
 have hh:=jc l
 unfold kQ
 rw[OY hh,zZ hh,Nat.mul_comm,Nat.div_add_mod]
theorem Ms(l B:Nat):kQ l (dp (2^l) B+2^l)=B:=by
 have hh:=jc l
 unfold kQ
 rw[MW hh,DM hh,Nat.mul_comm,Nat.div_add_mod]
theorem Ox(l t:Nat):kQ l t/2^l=t/(2*2^l)/\kQ l t%2^l=t%2^l:=by
 have hh:=jc l
 have hm:=Nat.mod_lt t hh
 unfold kQ
 rw[Nat.mul_comm (t/(2*2^l)),Nat.mul_add_div hh,Nat.div_eq_of_lt hm,Nat.add_zero,Nat.mul_add_mod,Nat.mod_mod]
 exact⟨rfl,rfl⟩
theorem Oz(l t:Nat):t=if t%(2*2^l)<2^l then dp (2^l) (kQ l t) else dp (2^l) (kQ l t)+2^l:=by
 have hh:=jc l
 obtain⟨h1,h2⟩:=Ox l t
 have h3:=HM (2^l) t hh
 have h4:=Nat.div_add_mod t (2*2^l)
 have h5:=Nat.mod_lt t (show 0<2*2^l by omega)
 unfold dp
 rw[h1,h2,Nat.mul_comm (t/(2*2^l))]
 split
 ·rename_i h;rw[if_pos h] at h3;omega
 ·rename_i h;rw[if_neg h] at h3;omega
theorem u9(d:Fd)(v:List Int)(l lo B:Nat):(u7 d v l lo B).length=v.length:=fP _ _
theorem Rh(d:Fd)(v:List Int)(l B:Nat):mZ d v l (dp (2^l) B)=c_ d.1 (v.getD (dp (2^l) B) 0) (mulM d.1 (v.getD (dp (2^l) B+2^l) 0) (qj d l (B%2^l))):=by
 have hh:=jc l
 unfold mZ
 rw[DN hh,if_pos (Nat.mod_lt B hh),zZ hh]
theorem Rg(d:Fd)(v:List Int)(l B:Nat):mZ d v l (dp (2^l) B+2^l)=bd d.1 (v.getD (dp (2^l) B) 0) (mulM d.1 (v.getD (dp (2^l) B+2^l) 0) (qj d l (B%2^l))):=by
 have hh:=jc l
 unfold mZ
 rw[K3 hh,if_neg (by omega),DM hh,Nat.add_sub_cancel]
theorem QO{h m B:Nat}(hh:0<h)(hB:B<h*m):dp h B+h<2*h*m:=by
 have h1:B/h<m:=(Nat.div_lt_iff_lt_mul hh).2 (by rw[Nat.mul_comm];exact hB)
 have h2:=Nat.mod_lt B hh
 have h3:(B/h+1)*(2*h)<=m*(2*h):=Nat.mul_le_mul_right _ h1
 rw[Nat.add_mul,Nat.one_mul,Nat.mul_comm m] at h3
 unfold dp
 omega
theorem Kc{l m t:Nat}(ht:t<2*2^l*m):kQ l t<2^l*m:=by
 have hh:=jc l
 have h1:t/(2*2^l)<m:=(Nat.div_lt_iff_lt_mul (by omega)).2 (by rw[Nat.mul_comm];exact ht)
 have h2:=Nat.mod_lt t hh
 have h3:(t/(2*2^l)+1)*2^l<=m*2^l:=Nat.mul_le_mul_right _ h1
 rw[Nat.add_mul,Nat.one_mul,Nat.mul_comm m] at h3
 unfold kQ
 omega
theorem Pb{d:Fd}{v:List Int}{l m t:Nat}(hn:v.length=2*2^l*m)(ht:t<v.length):(u7 d v l 0 (2^l*m)).getD t 0=mZ d v l t:=by
 unfold u7
 rw[lB,if_pos ht,if_pos ⟨Nat.zero_le _,Kc (by omega)⟩]
theorem O5(p a:Int)(x j:Nat):bq p (bq p a x) j=bq p a (x*j):=by
 unfold bq
 rw[pow_mod,Int.pow_mul]
theorem ME{f:Int}(h:¬(0<=f/\f<9)):bj f=0:=by unfold bj;rw[lq h]
theorem yA{f:Int}(h:ab f≠0):El (ab f) (bj f)/\bj f%ab f≠0:=by
 rcases eV (bu h).2 with rfl|rfl|rfl|rfl|rfl|rfl|rfl|rfl|rfl<;>exact⟨⟨by decide,by decide⟩,by decide⟩
theorem At{f:Int}(h:ab f≠0):∃ o:Nat,(ab f-1).toNat=2^(cE f).toNat*o:=by
 rcases eV (bu h).2 with rfl|rfl|rfl|rfl|rfl|rfl|rfl|rfl|rfl
 ·exact⟨1,by decide +kernel⟩
 ·exact⟨3,by decide +kernel⟩
 ·exact⟨3,by decide +kernel⟩
 ·exact⟨1,by decide +kernel⟩
 ·exact⟨15,by decide +kernel⟩
 ·exact⟨3,by decide +kernel⟩
 ·exact⟨119,by decide +kernel⟩
 ·exact⟨7,by decide +kernel⟩
 ·exact⟨479,by decide +kernel⟩
theorem cq{f:Int}{v:List Int}(h:aA f v=true):ab f≠0/\ak (ab f) v=true/\∃ K:Nat,ax v.length=(K:Int)/\K<=9/\v.length=2^K/\(K:Int)<=cE f:=by
 have h':=h
 unfold aA at h
 simp only[Bool.and_eq_true,decide_eq_true_eq] at h
 obtain⟨⟨h1,h2⟩,h3⟩:=h
 obtain⟨hm,he⟩:=fF h3
 obtain⟨k1,k2⟩:=HK h1
 obtain⟨K,hK⟩:=Int.eq_ofNat_of_zero_le h1
 rw[hK,Int.toNat_natCast] at k2
 exact⟨hm,he,K,hK,by omega,k2,by omega⟩
theorem Ib{f:Int}{v w:List Int}(h:aA f v=true)(hl:w.length=v.length)(he:ak (ab f) w=true):aA f w=true:=by
 obtain⟨hm,_,_⟩:=cq h
 unfold aA at h ⊢
 simp only[Bool.and_eq_true,decide_eq_true_eq] at h ⊢
 rw[hl]
 exact⟨h.1,fb hm he⟩
theorem kE{K l:Nat}(h:l<K):2^K=2*2^l*2^(K-l-1):=by
 rw[<-Nat.pow_add_one',<-Nat.pow_add]
 congr 1
 omega
theorem yD{K l:Nat}(h:l<K):2^K/2=2^l*2^(K-l-1):=by
 rw[kE h,Nat.mul_assoc,Nat.mul_div_cancel_left _ (by omega)]
theorem As(d:Fd)(hp:an d.1)(l j:Nat):bq d.1 (aO d ((l+1:Nat):Int)) j=qj d l j:=by
 unfold aO qj
 rw[O5,Int.toNat_natCast]
 congr 2
 have aJ:=hp
 unfold an at aJ
 obtain⟨n,hn⟩:=Int.eq_ofNat_of_zero_le (show 0<=d.1-1 by omega)
 rw[hn,show (2:Int)^(l+1)=((2^(l+1):Nat):Int) from (Int.natCast_pow 2 (l+1)).symm]
 rfl
theorem fS{f g:Nat->Int}:∀ n,(∀ j,j<n->f j=g j)->aS f n=aS g n
 | 0,_=>rfl
 | n+1,h=>by rw[aS,aS,fS n (fun j hj=>h j (by omega)),h n (Nat.lt_succ_self n)]
theorem fk{p:Int}{f g:Nat->Int}:∀ n,(∀ j,j<n->f j%p=g j%p)->aS f n%p=aS g n%p
 | 0,_=>rfl
 | n+1,h=>by
   rw[aS,aS,<-cV,<-dQ,fk n (fun j hj=>h j (by omega)),h n (Nat.lt_succ_self n),dQ,cV]
theorem xG(f g:Nat->Int):∀ n,aS (fun j=>f j+g j) n=aS f n+aS g n
 | 0=>rfl
 | n+1=>by rw[aS,aS,aS,xG f g n];omega
theorem hO(c:Int)(f:Nat->Int):∀ n,aS (fun j=>c*f j) n=c*aS f n
 | 0=>by rw[aS,aS,Int.mul_zero]
 | n+1=>by rw[aS,aS,hO c f n,Int.mul_add]
theorem xH(f:Nat->Int):∀ n,aS f (2*n)=aS (fun j=>f (2*j)) n+aS (fun j=>f (2*j+1)) n
 | 0=>rfl
 | n+1=>by
   rw[show 2*(n+1)=2*n+1+1 by omega,aS,aS,xH f n,aS,aS];omega
def Bt(p a:Nat):Nat->Nat->Nat
 | 0,_=>1%p
 | n+1,e=>if e%2=0 then Bt p a n (e/2)*Bt p a n (e/2)%p else Bt p a n (e/2)*Bt p a n (e/2)%p*a%p
theorem Et(p a:Nat):∀ n e,e<2^n->Bt p a n e=a^e%p
 | 0,e,h=>by rw[show e=0 by omega];rfl
 | n+1,e,h=>by
   have ih:=Et p a n (e/2) (by rw[Nat.pow_succ] at h;omega)
   rw[Bt,ih,<-Nat.mul_mod,<-Nat.pow_add]
   split
   ·rw[show e/2+e/2=e by omega]
   ·rw[Nat.mod_mul_mod,<-Nat.pow_succ,show (e/2+e/2).succ=e by omega]
theorem Ej(p a e:Nat):bq (p:Int) (a:Int) e=((a^e%p:Nat):Int):=by
 unfold bq
 rw[Int.natCast_emod,Int.natCast_pow]
theorem jx{p g n e:Nat}(h:Bt p g n e=p-1)(he:e<2^n)(hp:1<=p):bq (p:Int) (g:Int) e=(p:Int)-1:=by
 rw[Ej,<-Et p g n e he,h];omega
theorem xo{f:Int}(h:ab f≠0):bq (ab f) (bj f) ((ab f-1).toNat/2)=ab f-1:=by
 rcases eV (bu h).2 with e|e|e|e|e|e|e|e|e<;>subst e
 ·exact jx (p:=17) (g:=3) (n:=30) (by decide +kernel) (by decide +kernel) (by decide)
 ·exact jx (p:=97) (g:=5) (n:=30) (by decide +kernel) (by decide +kernel) (by decide)
 ·exact jx (p:=193) (g:=5) (n:=30) (by decide +kernel) (by decide +kernel) (by decide)
 ·exact jx (p:=257) (g:=3) (n:=30) (by decide +kernel) (by decide +kernel) (by decide)
 ·exact jx (p:=7681) (g:=17) (n:=30) (by decide +kernel) (by decide +kernel) (by decide)
 ·exact jx (p:=12289) (g:=11) (n:=30) (by decide +kernel) (by decide +kernel) (by decide)
 ·exact jx (p:=998244353) (g:=3) (n:=30) (by decide +kernel) (by decide +kernel) (by decide)
 ·exact jx (p:=469762049) (g:=3) (n:=30) (by decide +kernel) (by decide +kernel) (by decide)
 ·exact jx (p:=1004535809) (g:=3) (n:=30) (by decide +kernel) (by decide +kernel) (by decide)
theorem rN(b c:Nat)(hc:c<2):∀ m,rev (2*b+c) (m+1)=c*2^m+rev b m
 | 0=>by simp[rev];omega
 | m+1=>by
   have h:=rN b c hc m
   have hd:(2*b+c)/2^(m+1)=b/2^m:=by
    rw[Nat.pow_succ,Nat.mul_comm (2^m) 2,<-Nat.div_div_eq_div_mul,show (2*b+c)/2=b by omega]
   rw[rev,h,rev,hd,Nat.pow_succ,Nat.mul_add,<-Nat.mul_assoc,Nat.mul_comm 2 c,Nat.mul_assoc,Nat.mul_comm 2 (2^m)]
   omega
theorem PA{p x y X Y G:Int}(hx:x%p=X%p)(hy:y%p=Y%p):c_ p x (mulM p y (G%p))%p=(X+G*Y)%p:=by
 have e:y*(G%p)%p=G*Y%p:=by rw[bg,<-bp,hy,bp,Int.mul_comm]
 unfold c_ mulM
 rw[mod_mod,e,dQ,<-cV,hx,cV]
theorem PB{p x y X Y G:Int}(hx:x%p=X%p)(hy:y%p=Y%p):bd p x (mulM p y (G%p))%p=(X-G*Y)%p:=by
 have e:y*(G%p)%p=G*Y%p:=by rw[bg,<-bp,hy,bp,Int.mul_comm]
 unfold bd mulM
 rw[mod_mod,e,jg,<-kI,hx,kI]
theorem ny{p a b c d:Int}(h1:a%p=c%p)(h2:b%p=d%p):(a+b)%p=(c+d)%p:=by
 rw[<-cV,h1,cV,<-dQ,h2,dQ]
theorem eZ{p a b:Int}(h:a%p=1%p):a*b%p=b%p:=by
 rw[<-bp,h,bp,Int.one_mul]
theorem dI{p a:Int}(h:a%p=1%p):∀ n:Nat,a^n%p=1%p
 | 0=>by rw[Int.pow_zero]
 | n+1=>by rw[Int.pow_succ,Int.mul_comm,eZ h,dI h n]
def uL(v:List Int)(g:Int)(N K l t:Nat):Int:=aS (fun j=>v.getD (rev (t/2^l) (K-l)+2^(K-l)*j) 0*g^(N/2^l*(t%2^l)*j)) (2^l)
theorem NI{h t:Nat}(hh:0<h):t/h=2*(t/(2*h))+(if t%(2*h)<h then 0 else 1)/\t%h=(if t%(2*h)<h then t%(2*h) else t%(2*h)-h):=by
 have h1:t=2*h*(t/(2*h))+t%(2*h):=(Nat.div_add_mod t (2*h)).symm
 have h2:t%(2*h)<2*h:=Nat.mod_lt _ (by omega)
 generalize t/(2*h)=b at *
 generalize t%(2*h)=r at *
 subst h1
 have h3:2*h*b+r=h*(2*b)+r:=by rw[Nat.mul_comm 2 h,Nat.mul_assoc]
 rw[h3]
 split
 ·rename_i hr
  rw[Nat.mul_add_div hh,Nat.div_eq_of_lt hr,Nat.mul_add_mod,Nat.mod_eq_of_lt hr]
  exact⟨rfl,rfl⟩
 ·rename_i hr
  rw[Nat.mul_add_div hh,Nat.mul_add_mod,Nat.mod_eq_sub_mod (by omega),Nat.mod_eq_of_lt (by omega)]
  refine⟨?_,rfl⟩
  congr 1
  rw[Nat.div_eq_sub_div hh (by omega),Nat.div_eq_of_lt (by omega)]
theorem QW{v:List Int}{g:Int}{N K l t:Nat}(hl:l<K)(e:Nat)(hN:N=2*2^l*e)(ht:t%(2*2^l)<2^l) :
 uL v g N K (l+1) t=uL v g N K l t+g^(e*(t%2^l))*uL v g N K l (t+2^l):=by
 have hh:0<2^l:=Nat.pow_pos (by omega)
 obtain⟨m,rfl⟩:∃ m,K=l+1+m:=⟨K-l-1,by omega⟩
 obtain⟨d1,d2⟩:=NI (t:=t) hh
 rw[if_pos ht] at d1 d2
 have d3:(t+2^l)/2^l=2*(t/(2*2^l))+1:=by rw[Nat.add_div_right _ hh,d1]
 have d4:(t+2^l)%2^l=t%2^l:=Nat.add_mod_right _ _
 have n1:N/2^l=2*e:=by rw[hN,Nat.mul_comm 2,Nat.mul_assoc,Nat.mul_div_cancel_left _ hh]
 have ie:2^(l+1)=2*2^l:=Nat.pow_add_one'
 have n2:N/(2*2^l)=e:=by rw[hN,Nat.mul_div_cancel_left _ (by omega)]
 unfold uL
 rw[d3,d4,n1,ie,n2,d1,show l+1+m-(l+1)=m by omega,show l+1+m-l=m+1 by omega,xH,rN _ 0 (by omega),rN _ 1 (by omega),<-hO,d2,Nat.zero_mul,Nat.zero_add,Nat.one_mul]
 congr 1
 ·refine fS _ fun j _=>?_
  rw[Nat.pow_add_one',show 2*2^m*j=2^m*(2*j) by ac_rfl]
  congr 2
  ac_rfl
 ·refine fS _ fun j _=>?_
  rw[Nat.pow_add_one',show rev (t/(2*2^l)) m+2^m*(2*j+1)=2^m+rev (t/(2*2^l)) m+2*2^m*j by rw[Nat.mul_add,Nat.mul_one,show 2*2^m*j=2^m*(2*j) by ac_rfl];omega]
  rw[Nat.mul_add,Nat.mul_one,Int.pow_add,show e*(t%(2*2^l))*(2*j)=2*e*(t%(2*2^l))*j by ac_rfl]
  ac_rfl
theorem QV{p:Int}{v:List Int}{g:Int}{N K l t:Nat}(hl:l<K)(e:Nat)(hN:N=2*2^l*e)(hg:g^(2^l*e)%p=(-1)%p)(ht:¬t%(2*2^l)<2^l) :
 uL v g N K (l+1) t%p=(uL v g N K l (t-2^l)-g^(e*(t%2^l))*uL v g N K l t)%p:=by
 have hh:0<2^l:=Nat.pow_pos (by omega)
 obtain⟨m,rfl⟩:∃ m,K=l+1+m:=⟨K-l-1,by omega⟩
 have lT:2^l<=t:=Nat.le_trans (by omega) (Nat.mod_le t (2*2^l))
 obtain⟨d1,d2⟩:=NI (t:=t) hh
 rw[if_neg ht] at d1 d2
 have d3:(t-2^l)/2^l=2*(t/(2*2^l))+0:=by
  have:=Nat.add_div_right (t-2^l) hh
  rw[Nat.sub_add_cancel lT,d1] at this
  omega
 have d4:(t-2^l)%2^l=t%2^l:=by
  have:=Nat.add_mod_right (t-2^l) (2^l)
  rw[Nat.sub_add_cancel lT] at this
  exact this.symm
 have n1:N/2^l=2*e:=by rw[hN,Nat.mul_comm 2,Nat.mul_assoc,Nat.mul_div_cancel_left _ hh]
 have ie:2^(l+1)=2*2^l:=Nat.pow_add_one'
 have n2:N/(2*2^l)=e:=by rw[hN,Nat.mul_div_cancel_left _ (by omega)]
 have Hw:g^(2*2^l*e)%p=1%p:=by
  rw[show 2*2^l*e=2^l*e+2^l*e by rw[Nat.mul_assoc];omega,Int.pow_add,<-bp,hg,bp,<-bg,hg,bg]
  rfl
 have hr:t%(2*2^l)=2^l+t%2^l:=by rw[d2];omega
 unfold uL
 rw[d3,d4,n1,ie,n2,d1,show l+1+m-(l+1)=m by omega,show l+1+m-l=m+1 by omega,xH,rN _ 0 (by omega),rN _ 1 (by omega),<-hO,Nat.zero_mul,Nat.zero_add,Nat.one_mul,hr,Int.sub_eq_add_neg,<-Int.neg_one_mul,<-hO]
 generalize t%2^l=r
 refine ny ?_ ?_
 ·refine fk _ fun j _=>?_
  rw[Nat.pow_add_one',show 2*2^m*j=2^m*(2*j) by ac_rfl]
  rw[show e*(2^l+r)*(2*j)=(2*2^l*e)*j+2*e*r*j by rw[Nat.mul_add,Nat.add_mul];congr 1<;>ac_rfl,Int.pow_add,Int.pow_mul]
  rw[<-bg,eZ (dI Hw j),bg]
 ·refine fk _ fun j _=>?_
  rw[Nat.pow_add_one',show rev (t/(2*2^l)) m+2^m*(2*j+1)=2^m+rev (t/(2*2^l)) m+2*2^m*j by rw[Nat.mul_add,Nat.mul_one,show 2*2^m*j=2^m*(2*j) by ac_rfl];omega]
  rw[show e*(2^l+r)*(2*j+1)=(2*2^l*e)*j+(2^l*e+(e*r+2*e*r*j)) by
   rw[Nat.mul_add,Nat.mul_one,Nat.mul_add,Nat.add_mul,show e*2^l*(2*j)=2*2^l*e*j by ac_rfl,show e*r*(2*j)=2*e*r*j by ac_rfl,show e*2^l=2^l*e by ac_rfl];omega]
  rw[Int.pow_add,Int.pow_mul,Int.pow_add,Int.pow_add,<-bg,eZ (dI Hw j),bg,Int.mul_left_comm,<-bp,hg,bp]
  congr 2
  ac_rfl
theorem rC{p g T:Int}{v:List Int}{K N:Nat}(DC:(ax v.length).toNat=K)(hlen:v.length=2^K)(wD:0<=ax v.length)(hN:∀ l,l<K->∃ e,N=2*2^l*e)(hd:(p-1).toNat=N)(hg:0<K->g^(N/2)%p=(-1)%p) :
 ∀ l t,l<=K->t<2^K->n5 (p,g,T) (dA v) l t%p=uL v g N K l t%p
 | 0,t,_,ht=>by
   unfold n5 uL dA
   rw[if_pos wD]
   unfold CD
   rw[DC]
   have e:((List.range v.length).map (fun i=>v.getD (rev i K) 0)).getD t 0=v.getD (rev t K) 0:=by
    simp[List.getD_eq_getElem?_getD,show t<v.length by omega]
   rw[e]
   simp[aS]
 | l+1,t,hl,ht=>by
   obtain⟨e,he⟩:=hN l (by omega)
   have hh:0<2^l:=Nat.pow_pos (by omega)
   have IK:2^K=2*2^l*2^(K-l-1):=kE (by omega)
   have N7:qj (p,g,T) l (t%2^l)=g^(e*(t%2^l))%p:=by
    unfold qj bq
    rw[hd,he,Nat.pow_add_one',Nat.mul_div_cancel_left _ (by omega)]
   have KH:g^(2^l*e)%p=(-1)%p:=by
    have:=hg (by omega)
    rw[he,Nat.mul_assoc,Nat.mul_div_cancel_left _ (by omega)] at this
    exact this
   rw[n5]
   split
   ·rename_i hr
    have hr:t%(2*2^l)<2^l:=hr
    rw[QW (by omega) e he hr,N7]
    have KV:t+2^l<2^K:=by
     rw[IK]
     have h1:t=2*2^l*(t/(2*2^l))+t%(2*2^l):=(Nat.div_add_mod t _).symm
     have h2:t/(2*2^l)<2^(K-l-1):=Nat.div_lt_of_lt_mul (by rw[<-IK];exact ht)
     have h3:2*2^l*(t/(2*2^l)+1)<=2*2^l*2^(K-l-1):=Nat.mul_le_mul_left _ h2
     rw[Nat.mul_add,Nat.mul_one] at h3
     omega
    exact PA (rC DC hlen wD hN hd hg l t (by omega) ht) (rC DC hlen wD hN hd hg l _ (by omega) KV)
   ·rename_i hr
    have hr:¬t%(2*2^l)<2^l:=hr
    rw[QV (by omega) e he KH hr,N7]
    exact PB (rC DC hlen wD hN hd hg l _ (by omega) (by omega)) (rC DC hlen wD hN hd hg l t (by omega) ht)
theorem Lg{p g T:Int}(hp:an p){u:List Int}(hu:∀ t,El p (u.getD t 0)):∀ l t,El p (n5 (p,g,T) u l t)
 | 0,t=>hu t
 | l+1,t=>by
   rw[n5]
   split
   ·exact rf hp _ _
   ·exact iq hp _ _
theorem dm{p:Int}(hp:an p){v:List Int}(h:ak p v=true)(t:Nat):El p (v.getD t 0):=by
 unfold ak at h
 have h:=of_decide_eq_true h
 rw[List.getD_eq_getElem?_getD]
 cases e:v[t]? with
 | none=>exact ep hp
 | some x =>
   have:=h x (List.mem_of_getElem? e)
   exact⟨this.1,by show x<p;omega⟩
theorem Bp{p:Int}(hp:an p){v:List Int}(h:ak p v=true)(t:Nat):El p ((dA v).getD t 0):=by
 unfold dA
 split
 ·unfold CD
  rw[List.getD_eq_getElem?_getD,List.getElem?_map]
  cases e:(List.range v.length)[t]? with
  | none=>exact ep hp
  | some x=>exact dm hp h _
 ·exact ep hp
theorem O1{f:Int}{v:List Int}(h:aA f v=true){t:Nat}(ht:t<v.length):n5 (al f).1 (dA v) (ax v.length).toNat t=ef (ab f) v (bt f (ax v.length)) t:=by
 obtain⟨hm,he,K,hK,po,hlen,eW⟩:=cq h
 obtain⟨hp,hf⟩:=bu hm
 have aJ:=hp
 unfold an at aJ
 obtain⟨o,ho⟩:=At hm
 obtain⟨Tz,Hw⟩:=yA hm
 obtain⟨a,ha⟩:∃ a:Nat,(ab f-1).toNat=2^K*a:=⟨2^((cE f).toNat-K)*o,by rw[ho,<-Nat.mul_assoc,<-Nat.pow_add];congr 2;omega⟩
 have hN:∀ l,l<K->∃ e,(ab f-1).toNat=2*2^l*e:=fun l hl=>⟨2^(K-l-1)*a,by rw[ha,kE hl,Nat.mul_assoc]⟩
 have Hx:bj f^((ab f-1).toNat/2)%ab f=(-1)%ab f:=by
  have:=xo hm
  unfold bq at this
  rw[this]
  rw[show (-1:Int)%ab f=(ab f-1)%ab f from sS (k := -1) (by omega),Int.emod_eq_of_lt (by omega) (by omega)]
 have hs:=rC (p:=ab f) (g:=bj f) (T:=(al f).1.2.2) (v:=v) (K:=K) (N:=(ab f-1).toNat) (by rw[hK];rfl) hlen (by omega) hN rfl (fun _=>Hx) K t (Nat.le_refl _) (by omega)
 have hd:(al f).1=(ab f,bj f,(al f).1.2.2):=rfl
 have iH:=Lg (g:=bj f) (T:=(al f).1.2.2) hp (Bp hp he) K t
 rw[hK,Int.toNat_natCast,hd,<-eo iH,hs]
 unfold ef uL
 rw[hlen,Nat.div_eq_of_lt (by omega),Nat.mod_eq_of_lt (by omega),ha,Nat.mul_div_cancel_left _ (Nat.pow_pos (by omega)),Nat.sub_self]
 refine fk _ fun j hj=>?_
 unfold kT
 rw[hlen,rev,Nat.zero_add,Nat.pow_zero,Nat.one_mul]
 rcases Nat.eq_zero_or_pos K with hk|hk
 ·subst hk
  have TZ:t=0:=by rw[hlen] at ht;simpa using ht
  subst TZ
  simp
 ·have UT:0<2^K:=Nat.pow_pos (by omega)
  have P3:2<=2^K:=by
   have:=Nat.pow_le_pow_right (n:=2) (by omega) (show 1<=K by omega)
   omega
  have hz:ab f-1=((2^K*a:Nat):Int):=by omega
  have Tr:0<a:=by
   rcases Nat.eq_zero_or_pos a with e|e
   ·rw[e,Nat.mul_zero] at hz;omega
   ·exact e
  have KA:(ab f-1)/2^K=(a:Int):=by
   rw[hz,Int.natCast_mul,Int.natCast_pow]
   exact Int.mul_ediv_cancel_left _ (Int.ne_of_gt (Int.pow_pos (by omega)))
  have hR:bt f (K:Int)=bq (ab f) (bj f) a:=by
   unfold bt
   rw[if_pos ⟨hm,by omega,eW⟩,Int.toNat_natCast,KA]
   unfold lE
   rw[if_neg Hw,Int.emod_eq_of_lt (by omega),Int.toNat_natCast]
   rw[hz]
   have h1:a*2<=a*2^K:=Nat.mul_le_mul_left a P3
   rw[Nat.mul_comm] at h1
   rw[Nat.mul_comm (2^K)]
   omega
  have Rw:bj f^(2^K*a)%ab f=1%ab f:=by
   have e:(ab f-1).toNat=(ab f-1).toNat/2+(ab f-1).toNat/2:=by
    obtain⟨e,he⟩:=hN 0 hk
    omega
   rw[<-ha,e,Int.pow_add,<-bp,Hx,bp,<-bg,Hx,bg]
   rfl
  rw[hR]
  unfold bq
  rw[<-bg _ (v.getD j 0),<-bg _ (v.getD j 0) ((bj f^a%ab f)^(t*j%2^K)),pow_mod,<-Int.pow_mul]
  congr 2
  have TN:a*t*j=2^K*a*(t*j/2^K)+a*(t*j%2^K):=by
   have h1:t*j=2^K*(t*j/2^K)+t*j%2^K:=(Nat.div_add_mod _ _).symm
   conv=>lhs;rw[Nat.mul_assoc,h1]
   rw[Nat.mul_add]
   congr 1
   ac_rfl
  rw[TN,Int.pow_add,Int.pow_mul,eZ (dI Rw _)]
theorem Ei(p w:Int)(n:Nat):(jb p w n).length=n:=cU _ _
theorem dW(p:Int)(v:List Int)(w:Int)(n:Nat):(aZ p v w n).length=n:=cU _ _
theorem LB(p w:Int)(n:Nat):jb p w n++[w^n%p]=jb p w (n+1):=by simp[jb,List.range_succ]
theorem Ki(p:Int)(v:List Int)(w:Int)(n:Nat):aZ p v w n++[ef p v w n]=aZ p v w (n+1):=by simp[aZ,List.range_succ]
theorem M9(p w:Int){n m:Nat}(h:m<n):(jb p w n).getD m 0=w^m%p:=by simp[jb,List.getD_eq_getElem?_getD,h]
theorem J0 :
 ∀(d:Int×List Int×Int),Ty.wf ah d.1/\Ty.wf ai d.2.1/\Ty.wf ah d.2.2->aA d.1 d.2.1=true/\El (ab d.1) d.2.2->True/\(Ty.wf ah (ab d.1)->(0:Nat)<=d.2.1.length/\((d.1=d.1/\ae d.2.1/\ae d.2.2/\aQ/\ae (ab d.1)/\ae (d.2.1.length:Int)/\(1:Int)=d.2.2^(0:Nat)%ab d.1/\(0:Int)=(↑(0:Nat):Int))/\[]=jb (ab d.1) d.2.2 (0:Nat))/\∀(x:Nat),x<=d.2.1.length->(decide ((x:Int)<(d.2.1.length:Int))=true->(List.length (jb (ab d.1) d.2.2 x)+List.length [d.2.2^x%ab d.1])*(8:Nat)<=(140737488355328:Nat)/\ab d.1≠(0:Int)/\∃(x':Nat),x'<=d.2.1.length/\d.2.1.length-x'<d.2.1.length-x/\(d.1=d.1/\ae d.2.1/\ae d.2.2/\aQ/\ae (ab d.1)/\ae (d.2.1.length:Int)/\Int.tmod (i64.wrap (d.2.2^x%ab d.1*d.2.2)) (ab d.1)=d.2.2^x'%ab d.1/\i64.wrap ((x:Int)+(1:Int))=(x':Int))/\jb (ab d.1) d.2.2 x++[d.2.2^x%ab d.1]=jb (ab d.1) d.2.2 x')/\(decide ((x:Int)<(d.2.1.length:Int))=false->(0:Nat)<=d.2.1.length/\((d.1=d.1/\ae d.2.1/\ae d.2.2/\aQ/\ae (ab d.1)/\ae (d.2.1.length:Int)/\(0:Int)=(↑(0:Nat):Int))/\ae (jb (ab d.1) d.2.2 x)/\[]=aZ (ab d.1) d.2.1 d.2.2 (0:Nat))/\∀(x_1:Nat),x_1<=d.2.1.length->(decide ((x_1:Int)<(d.2.1.length:Int))=true->(0:Nat)<=d.2.1.length/\((d.1=d.1/\ae d.2.1/\ae d.2.2/\aQ/\ae (ab d.1)/\ae (d.2.1.length:Int)/\ae (x_1:Int)/\(0:Int)=aS (kT d.2.1 d.2.2 x_1) (0:Nat)%ab d.1/\(0:Int)=(↑(0:Nat):Int))/\ae (jb (ab d.1) d.2.2 x)/\ae (aZ (ab d.1) d.2.1 d.2.2 x_1))/\∀(x_2:Nat),x_2<=d.2.1.length->(decide ((x_2:Int)<(d.2.1.length:Int))=true->((0:Int)<=(x_2:Int)/\(x_2:Int)<(d.2.1.length:Int))/\(d.2.1.length:Int)≠(0:Int)/\((0:Int)<=Int.tmod (i64.wrap ((x_1:Int)*(x_2:Int))) (d.2.1.length:Int)/\Int.tmod (i64.wrap ((x_1:Int)*(x_2:Int))) (d.2.1.length:Int)<(↑(List.length (jb (ab d.1) d.2.2 x)):Int))/\ab d.1≠(0:Int)/\∃(x':Nat),x'<=d.2.1.length/\d.2.1.length-x'<d.2.1.length-x_2/\(d.1=d.1/\ae d.2.1/\ae d.2.2/\aQ/\ae (ab d.1)/\ae (d.2.1.length:Int)/\ae (x_1:Int)/\Int.tmod (i64.wrap (aS (kT d.2.1 d.2.2 x_1) x_2%ab d.1+i64.wrap (d.2.1.getD ((x_2:Int).toNat) (0:Int)*List.getD (jb (ab d.1) d.2.2 x) (Int.toNat (Int.tmod (i64.wrap ((x_1:Int)*(x_2:Int))) (d.2.1.length:Int))) (0:Int)))) (ab d.1)=aS (kT d.2.1 d.2.2 x_1) x'%ab d.1/\i64.wrap ((x_2:Int)+(1:Int))=(x':Int))/\ae (jb (ab d.1) d.2.2 x)/\ae (aZ (ab d.1) d.2.1 d.2.2 x_1))/\(decide ((x_2:Int)<(d.2.1.length:Int))=false->(List.length (aZ (ab d.1) d.2.1 d.2.2 x_1)+List.length [aS (kT d.2.1 d.2.2 x_1) x_2%ab d.1])*(8:Nat)<=(140737488355328:Nat)/\∃(x':Nat),x'<=d.2.1.length/\d.2.1.length-x'<d.2.1.length-x_1/\(d.1=d.1/\ae d.2.1/\ae d.2.2/\aQ/\ae (ab d.1)/\ae (d.2.1.length:Int)/\i64.wrap ((x_1:Int)+(1:Int))=(x':Int))/\ae (jb (ab d.1) d.2.2 x)/\aZ (ab d.1) d.2.1 d.2.2 x_1++[aS (kT d.2.1 d.2.2 x_1) x_2%ab d.1]=aZ (ab d.1) d.2.1 d.2.2 x'))/\(decide ((x_1:Int)<(d.2.1.length:Int))=false->aZ (ab d.1) d.2.1 d.2.2 x_1=aZ (ab d.1) d.2.1 d.2.2 d.2.1.length))):=by
  intro d hw hp
  obtain⟨f,v,wt⟩:=d
  obtain⟨hv,iH⟩:=hp
  replace hv:aA f v=true:=hv
  replace iH:El (ab f) wt:=iH
  obtain⟨hm,he,K,hK,po,hlen,eW⟩:=cq hv
  obtain⟨hp,hf⟩:=bu hm
  have aJ:=hp
  unfold an at aJ
  have IC:=g_ po
  have hn:v.length<=512:=by omega
  have TQ:0<v.length:=by rw[hlen];exact Nat.pow_pos (by omega)
  simp only[exists_const,forall_const,decide_eq_true_eq,decide_eq_false_iff_not,beq_iff_eq,sxS]
  refine fun _=>⟨Nat.zero_le _,⟨⟨?_,rfl⟩,rfl⟩,fun x hx=>⟨fun aK=>⟨?_,hm,x+1,by omega,by omega,⟨?_,?_⟩,LB _ _ _⟩,fun dU=>⟨Nat.zero_le _,⟨rfl,rfl⟩,fun i hi=>⟨fun zW=>⟨Nat.zero_le _,⟨?_,rfl⟩,fun j hj=>⟨fun Qh=>?_,fun UH=>⟨?_,i+1,by omega,by omega,?_,?_⟩⟩⟩,fun UG=>?_⟩⟩⟩⟩
  ·rw[Int.pow_zero,Int.emod_eq_of_lt (by omega) (by omega)]
  ·rw[Ei,List.length_singleton];omega
  ·have e:=nh hp (cN (p:=ab f) (by omega) (wt^x)) iH
   rw[e]
   unfold mulM
   rw[bp,<-Int.pow_succ]
  ·rw[wrap_small (by omega)];rfl
  ·show (0:Int)=0%ab f
   rw[Int.zero_emod]
  ·have jX:x=v.length:=by omega
   have Sa:i*j<=512*512:=Nat.mul_le_mul (by omega) (by omega)
   have yJ:(i64.wrap ((i:Int)*(j:Int))).tmod (v.length:Int)=((i*j%v.length:Nat):Int):=by
    rw[<-Int.natCast_mul,wrap_small (by omega),Int.tmod_eq_emod_of_nonneg (by omega)]
    rfl
   have SU:i*j%v.length<v.length:=Nat.mod_lt _ TQ
   rw[yJ,Int.toNat_natCast,Ei,jX,M9 _ _ SU]
   refine⟨⟨by omega,Qh⟩,by omega,⟨by omega,by omega⟩,hm,j+1,by omega,by omega,?_,?_⟩
   ·have e1:=dm hp he j
    have e2:=cN (p:=ab f) (by omega) (wt^(i*j%v.length))
    have e3:=i_ hp e1 e2
    have e4:=cN (p:=ab f) (by omega) (aS (kT v wt i) j)
    unfold El at e4
    rw[wrap_small (n:=v.getD j 0*(wt^(i*j%v.length)%ab f)) (by omega),wrap_small (by omega),Int.tmod_eq_emod_of_nonneg (by omega),aS]
    refine ny (mod_mod _ _) ?_
    unfold kT
    rw[bg]
   ·rw[wrap_small (by omega)];rfl
  ·rw[dW,List.length_singleton];omega
  ·rw[wrap_small (by omega)];rfl
  ·have nX:j=v.length:=by omega
   rw[nX]
   exact Ki _ _ _ _
  ·have dY:i=v.length:=by omega
   rw[dY]
theorem Pd{f:Int}{v:List Int}(h:aA f v=true):El (ab f) (bt f (ax v.length)):=by
 obtain⟨hm,he,K,hK,po,hlen,eW⟩:=cq h
 obtain⟨hp,hf⟩:=bu hm
 unfold bt
 rw[hK,if_pos ⟨hm,by omega,eW⟩]
 unfold lE
 split
 ·exact absurd ‹_› (yA hm).2
 ·exact vC hp _ _
theorem GY :
 ∀(d:Int×List Int),Ty.wf ah d.1/\Ty.wf ai d.2->True->True/\((!aA d.1 d.2)=true->[]=iS d.1 d.2)/\((!aA d.1 d.2)=false->True/\(Ty.wf ah (ax (d.2.length:Int))->True/\(Ty.wf ah (bt d.1 (ax (d.2.length:Int)))->(aA d.1 d.2=true/\El (ab d.1) (bt d.1 (ax (d.2.length:Int))))/\(Ty.wf ai (aZ (ab d.1) d.2 (bt d.1 (ax (d.2.length:Int))) d.2.length)->aZ (ab d.1) d.2 (bt d.1 (ax (d.2.length:Int))) d.2.length=iS d.1 d.2)))):=by
  intro d hw hp
  obtain⟨f,v⟩:=d
  simp only[exists_const,forall_const,decide_eq_true_eq,decide_eq_false_iff_not,beq_iff_eq,sxS]
  refine⟨fun h=>?_,fun h _ _=>⟨⟨h,Pd h⟩,fun _=>?_⟩⟩
  ·unfold iS;rw[if_neg (by rw[h];simp)]
  ·unfold iS;rw[if_pos h]
theorem vg:∀ n,aS (fun _=>0) n=0
 | 0=>rfl
 | n+1=>by rw[aS,vg n];rfl
theorem zm(c:Int):∀ n:Nat,aS (fun _=>c) n=n*c
 | 0=>by rw[aS];simp
 | n+1=>by rw[aS,zm c n];push_cast;rw[Int.add_mul,Int.one_mul]
theorem vf(f:Nat->Nat->Int)(m:Nat):∀ n,aS (fun i=>aS (fun j=>f i j) m) n=aS (fun j=>aS (fun i=>f i j) n) m
 | 0=>by simp only[aS];exact (vg m).symm
 | n+1=>by
   rw[aS,vf f m n,<-xG]
   rfl
theorem H2{c:Nat->Int}{t0:Nat}:∀ n,aS (fun t=>if t=t0 then c t else 0) n=if t0<n then c t0 else 0
 | 0=>by simp[aS]
 | n+1=>by
   rw[aS,H2 n]
   by_cases h:n=t0
   ·subst h;simp
   ·rw[if_neg h]
    by_cases h2:t0<n
    ·rw[if_pos h2,if_pos (by omega)];omega
    ·rw[if_neg h2,if_neg (by omega)];rfl
theorem ka{p a b c d:Int}(h1:a%p=c%p)(h2:b%p=d%p):a*b%p=c*d%p:=by
 rw[<-bp,h1,bp,<-bg,h2,bg]
theorem BR{p a b:Int}(h:a%p=b%p)(n:Nat):a^n%p=b^n%p:=by rw[<-pow_mod,h,pow_mod]
structure Nx (p w:Int) (K:Nat):Prop where
 pr:Ih p
 Us:(2:Int)%p≠0
 full:w^2^K%p=1%p
 half:0<K->w^2^(K-1)%p=(-1)%p
theorem R1(a:Int):∀ n:Nat,(a-1)*aS (fun i=>a^i) n=a^n-1
 | 0=>by simp[aS]
 | n+1=>by
   rw[aS,Int.mul_add,R1 a n,Int.pow_succ,Int.sub_mul,Int.one_mul,Int.mul_comm a (a^n)]
   omega
theorem RO {p w : Int} {K : Nat} (h : Nx p w K) : ∀ d, 0 < d → d < 2 ^ K → w ^ d % p ≠ 1 % p := by
  intro d h0 hd he
  -- raise to 2-powers until the half is met
  have key : ∀ s d : Nat, s ≤ K → 0 < d → d < 2 ^ s → w ^ (d * 2 ^ (K - s)) % p ≠ 1 % p := by
    intro s
    induction s with
    | zero => intro d _ h1 h2; omega
    | succ s ih =>
      intro d hs h1 h2 he
      rcases Nat.mod_two_eq_zero_or_one d with hm | hm
      · refine ih (d / 2) (by omega) (by omega) (by rw [Nat.pow_succ] at h2; omega) ?_
        have e : d / 2 * 2 ^ (K - s) = d * 2 ^ (K - (s + 1)) := by
          rw [show K - s = K - (s + 1) + 1 by omega, Nat.pow_succ, Nat.mul_comm _ 2, ← Nat.mul_assoc, show d / 2 * 2 = d by omega]
        rw [e]; exact he
      · -- odd: square up to the half
        have e : d * 2 ^ (K - (s + 1)) * 2 ^ s = 2 ^ (K - 1) * d := by
          rw [Nat.mul_assoc, ← Nat.pow_add, show K - (s + 1) + s = K - 1 by omega, Nat.mul_comm]
        have h3 : w ^ (d * 2 ^ (K - (s + 1)) * 2 ^ s) % p = 1 % p := by rw [Int.pow_mul]; exact dI he _
        rw [e, Int.pow_mul] at h3
        have h4 : (w ^ 2 ^ (K - 1)) ^ d % p = (-1) ^ d % p := BR (h.half (by omega)) d
        have h5 : (-1 : Int) ^ d = -1 := by
          have : d = 2 * (d / 2) + 1 := by omega
          rw [this, Int.pow_succ, Int.pow_mul]
          have : ((-1 : Int) ^ 2) = 1 := by decide
          rw [this, Int.one_pow]; rfl
        rw [h5] at h4
        rw [h4] at h3
        have : (2 : Int) % p = 0 := by
          have h6 : (1 - (-1) : Int) % p = 0 := by rw [Int.sub_emod, h3, Int.sub_self, Int.zero_emod]
          exact h6
        exact h.Us this
  refine key K d (Nat.le_refl _) h0 hd ?_
  rw [Nat.sub_self, Nat.pow_zero, Nat.mul_one]
  exact he
theorem RJ{p w:Int}{K:Nat}(h:Nx p w K)(d:Nat):aS (fun i=>w^(i*d)) (2^K)%p=(if d%2^K=0 then ((2^K:Nat):Int) else 0)%p:=by
 split
 ·rename_i hd
  have:aS (fun i=>w^(i*d)) (2^K)%p=aS (fun _=>1) (2^K)%p:=fk _ fun i _=>by
   have e:i*d=2^K*(d/2^K*i):=by
    have:=Nat.div_add_mod d (2^K)
    rw[hd,Nat.add_zero] at this
    rw[<-Nat.mul_assoc,this,Nat.mul_comm]
   rw[e,Int.pow_mul]
   exact dI h.full _
  rw[this,zm,Int.mul_one]
 ·rename_i hd
  have h0:0<2^K:=Nat.pow_pos (by omega)
  have bo:w^(d%2^K)%p≠1%p:=RO h _ (by omega) (Nat.mod_lt _ h0)
  have hw:w^d%p=w^(d%2^K)%p:=by
   have e:d=2^K*(d/2^K)+d%2^K:=(Nat.div_add_mod _ _).symm
   conv=>lhs;rw[e]
   rw[Int.pow_add,Int.pow_mul,eZ (dI h.full _)]
  have hg:=R1 (w^d) (2^K)
  have hz:(w^d-1)*aS (fun i=>(w^d)^i) (2^K)%p=0:=by
   rw[hg,<-Int.pow_mul,Nat.mul_comm,Int.pow_mul,Int.sub_emod,dI h.full,Int.sub_self,Int.zero_emod]
  rcases h.pr.pr _ _ hz with h1|h1
  ·exfalso
   apply bo
   rw[<-hw]
   have:w^d%p=((w^d-1)+1)%p:=by rw[Int.sub_add_cancel]
   rw[this,<-cV,h1,Int.zero_add]
  ·rw[Int.zero_emod,<-h1]
   congr 1
   refine fS _ fun i _=>?_
   rw[<-Int.pow_mul,Nat.mul_comm]
theorem No{f:Int}(h:ab f≠0):bq (ab f) 2 (ab f-1).toNat=1:=by
 have lD:∀ {p e:Nat},Bt p 2 30 e=1->e<2^30->bq (p:Int) 2 e=1:=fun {p e} h he=>by
  have:=Ej p 2 e
  rw[<-Et p 2 30 e he,h] at this
  exact this
 rcases eV (bu h).2 with e|e|e|e|e|e|e|e|e<;>subst e
 ·exact lD (p:=17) (by decide +kernel) (by decide +kernel)
 ·exact lD (p:=97) (by decide +kernel) (by decide +kernel)
 ·exact lD (p:=193) (by decide +kernel) (by decide +kernel)
 ·exact lD (p:=257) (by decide +kernel) (by decide +kernel)
 ·exact lD (p:=7681) (by decide +kernel) (by decide +kernel)
 ·exact lD (p:=12289) (by decide +kernel) (by decide +kernel)
 ·exact lD (p:=998244353) (by decide +kernel) (by decide +kernel)
 ·exact lD (p:=469762049) (by decide +kernel) (by decide +kernel)
 ·exact lD (p:=1004535809) (by decide +kernel) (by decide +kernel)
theorem xC{f:Int}{K:Nat}(hm:ab f≠0)(eW:(K:Int)<=cE f):∃ a:Nat,(ab f-1).toNat=2^K*a/\∃ b:Nat,bt f (K:Int)=bj f^b%ab f/\(0<K->b=a)/\(K=0->b=0):=by
 obtain⟨hp,hf⟩:=bu hm
 have aJ:=hp
 unfold an at aJ
 obtain⟨o,ho⟩:=At hm
 obtain⟨Tz,Hw⟩:=yA hm
 obtain⟨a,ha⟩:∃ a:Nat,(ab f-1).toNat=2^K*a:=⟨2^((cE f).toNat-K)*o,by rw[ho,<-Nat.mul_assoc,<-Nat.pow_add];congr 2;omega⟩
 have hz:ab f-1=((2^K*a:Nat):Int):=by omega
 have Tr:0<a:=by
  rcases Nat.eq_zero_or_pos a with e|e
  ·rw[e,Nat.mul_zero] at hz;omega
  ·exact e
 have KA:(ab f-1)/2^K=(a:Int):=by
  rw[hz,Int.natCast_mul,Int.natCast_pow]
  exact Int.mul_ediv_cancel_left _ (Int.ne_of_gt (Int.pow_pos (by omega)))
 refine⟨a,ha,?_⟩
 unfold bt
 rw[if_pos ⟨hm,by omega,eW⟩,Int.toNat_natCast,KA]
 unfold lE bq
 rw[if_neg Hw]
 refine⟨_,rfl,fun hk=>?_,fun hk=>?_⟩
 ·have P3:2<=2^K:=by
   have:=Nat.pow_le_pow_right (n:=2) (by omega) (show 1<=K by omega)
   omega
  have h1:a*2<=a*2^K:=Nat.mul_le_mul_left a P3
  rw[Nat.mul_comm] at h1
  rw[Int.emod_eq_of_lt (by omega) (by rw[hz,Nat.mul_comm (2^K)];omega),Int.toNat_natCast]
 ·subst hk
  rw[Nat.pow_zero,Nat.one_mul] at hz
  rw[hz,Int.emod_self];rfl
theorem xn{f:Int}(hm:ab f≠0):bj f^(ab f-1).toNat%ab f=1%ab f:=by
 have hp:=(bu hm).1
 unfold an at hp
 obtain⟨o,ho⟩:=At hm
 have h4:=(gL (bu hm).2).2.2.1
 have he:(ab f-1).toNat=(ab f-1).toNat/2+(ab f-1).toNat/2:=by
  obtain⟨t,ht⟩:∃ t,(cE f).toNat=t+1:=⟨(cE f).toNat-1,by omega⟩
  rw[ho,ht,Nat.pow_succ,Nat.mul_comm _ 2,Nat.mul_assoc]
  omega
 have Hx:bj f^((ab f-1).toNat/2)%ab f=(-1)%ab f:=by
  have:=xo hm
  unfold bq at this
  rw[this,show (-1:Int)%ab f=(ab f-1)%ab f from sS (k := -1) (by omega),Int.emod_eq_of_lt (by omega) (by omega)]
 rw[he,Int.pow_add,<-bp,Hx,bp,<-bg,Hx,bg]
 rfl
theorem LU{f:Int}{K:Nat}(hm:ab f≠0)(eW:(K:Int)<=cE f):bt f (K:Int)^(ab f-1).toNat%ab f=1%ab f:=by
 obtain⟨a,ha,b,hb,_⟩:=xC hm eW
 rw[hb,pow_mod,<-Int.pow_mul,Nat.mul_comm,Int.pow_mul]
 exact dI (xn hm) _
theorem Og{f:Int}{K:Nat}(hm:ab f≠0)(eW:(K:Int)<=cE f):Nx (ab f) (bt f (K:Int)) K:=by
 have hp:=(bu hm).1
 unfold an at hp
 obtain⟨a,ha,b,hb,iF,uA⟩:=xC hm eW
 refine⟨lA hm,by rw[Int.emod_eq_of_lt (by omega) (by omega)];decide,?_,fun hk=>?_⟩
 ·rw[hb,pow_mod,<-Int.pow_mul]
  rcases Nat.eq_zero_or_pos K with h0|h0
  ·rw[uA h0,Nat.zero_mul,Int.pow_zero]
  ·rw[iF h0,Nat.mul_comm,<-ha]
   exact xn hm
 ·rw[hb,iF hk,pow_mod,<-Int.pow_mul]
  have e:a*2^(K-1)=(ab f-1).toNat/2:=by
   obtain⟨k,rfl⟩:∃ k,K=k+1:=⟨K-1,by omega⟩
   rw[ha,Nat.pow_succ,Nat.add_sub_cancel,Nat.mul_comm _ 2,Nat.mul_assoc,Nat.mul_div_cancel_left _ (by omega),Nat.mul_comm]
  have:=xo hm
  unfold bq at this
  rw[e,this,show (-1:Int)%ab f=(ab f-1)%ab f from sS (k := -1) (by omega),Int.emod_eq_of_lt (by omega) (by omega)]
theorem E3{f:Int}{K:Nat}(hm:ab f≠0)(eW:(K:Int)<=cE f):bt f (K:Int)*aR (ab f) (bt f (K:Int))%ab f=1%ab f:=by
 have hp:=(bu hm).1
 unfold an at hp
 unfold aR bq
 rw[bg,Int.mul_comm,<-Int.pow_succ,show (ab f-2).toNat.succ=(ab f-1).toNat by omega]
 exact LU hm eW
theorem H6{f:Int}(hm:ab f≠0)(K:Nat):((2^K:Nat):Int)*aR (ab f) ((2^K:Nat):Int)%ab f=1%ab f:=by
 have hp:=(bu hm).1
 unfold an at hp
 unfold aR bq
 rw[bg,Int.mul_comm,<-Int.pow_succ,show (ab f-2).toNat.succ=(ab f-1).toNat by omega,Int.natCast_pow,<-Int.pow_mul,Nat.mul_comm,Int.pow_mul]
 have h2:=No hm
 unfold bq at h2
 refine dI ?_ K
 show (2:Int)^(ab f-1).toNat%ab f=1%ab f
 rw[h2,Int.emod_eq_of_lt (by omega) (by omega)]
theorem z8{p w:Int}{n:Nat}(h:w^n%p=1%p)(m:Nat):w^(m%n)%p=w^m%p:=by
 have e:m=n*(m/n)+m%n:=(Nat.div_add_mod _ _).symm
 conv=>rhs;rw[e]
 rw[Int.pow_add,Int.pow_mul,eZ (dI h _)]
theorem O4{n i j:Nat}(hn:0<n)(hi:i<n):(n-i)%n*j%n=(n-i*j%n)%n:=by
 have h1:((n-i)%n*j+i*j)%n=0:=by
  rw[Nat.add_mod,Nat.mod_mul_mod,<-Nat.add_mod,<-Nat.add_mul,Nat.sub_add_cancel (Nat.le_of_lt hi),Nat.mul_mod_right]
 have h2:((n-i)%n*j%n+i*j%n)%n=0:=by rw[<-Nat.add_mod];exact h1
 have ha:(n-i)%n*j%n<n:=Nat.mod_lt _ hn
 have hb:i*j%n<n:=Nat.mod_lt _ hn
 generalize (n-i)%n*j%n=A at *
 generalize i*j%n=B at *
 rcases Nat.eq_zero_or_pos B with h0|h0
 ·subst h0
  rw[Nat.add_zero,Nat.mod_eq_of_lt ha] at h2
  rw[Nat.sub_zero,Nat.mod_self,h2]
 ·rw[Nat.mod_eq_of_lt (by omega:n-B<n)]
  have h3:A+B=n:=by
   have h4:n ∣ A+B:=Nat.dvd_of_mod_eq_zero h2
   obtain⟨q,hq⟩:=h4
   have:q=1:=by
    rcases q with _|_|q
    ·rw[Nat.mul_zero] at hq;omega
    ·rfl
    ·rw[show n*(q+1+1)=n*q+n+n by rw[Nat.mul_add,Nat.mul_add,Nat.mul_one]] at hq;omega
   rw[this,Nat.mul_one] at hq;exact hq
  omega
theorem OK{p w wi:Int}{v:List Int}(hn:0<v.length)(hf:w^v.length%p=1%p)(hi:w*wi%p=1%p){k:Nat}(hk:k<v.length):ef p v wi k=ef p v w ((v.length-k)%v.length):=by
 unfold ef
 refine fk _ fun j _=>?_
 unfold kT
 rw[O4 hn hk]
 refine ka rfl ?_
 have hm:k*j%v.length<v.length:=Nat.mod_lt _ hn
 generalize k*j%v.length=m at *
 rw[z8 hf]
 have h1:w^(v.length-m)*(w^m*wi^m)%p=wi^m%p:=by
  rw[<-Int.mul_assoc,<-Int.pow_add,Nat.sub_add_cancel (Nat.le_of_lt hm),eZ hf]
 rw[<-h1,<-Int.mul_pow,Int.mul_comm,eZ (dI hi m)]
theorem Hi{n s t k:Nat}(hs:s<n)(ht:t<n)(hk:k<n):(s+t+(n-k))%n=0↔t=(k+n-s)%n:=by
 have e:(k+n-s)%n=if s<=k then k-s else k+n-s:=by
  split
  ·rw[show k+n-s=(k-s)+n by omega,Nat.add_mod_right,Nat.mod_eq_of_lt (by omega)]
  ·rw[Nat.mod_eq_of_lt (by omega)]
 rw[e]
 constructor
 ·intro h
  obtain⟨q,hq⟩:=Nat.dvd_of_mod_eq_zero h
  rcases q with _|_|_|q
  ·rw[Nat.mul_zero] at hq;omega
  ·rw[show n*(0+1)=n by omega] at hq;split<;>omega
  ·rw[show n*(0+1+1)=n+n by omega] at hq;split<;>omega
  ·rw[show n*(q+1+1+1)=n*q+n+n+n by rw[Nat.mul_add,Nat.mul_add,Nat.mul_add,Nat.mul_one]] at hq;omega
 ·intro h
  subst h
  split
  ·rw[show s+(k-s)+(n-k)=n by omega,Nat.mod_self]
  ·rw[show s+(k+n-s)+(n-k)=n+n by omega,Nat.add_mod_right,Nat.mod_self]
theorem OJ {p w : Int} {K : Nat} (h : Nx p w K) {a b : List Int} (ha : a.length = 2 ^ K) (hb : b.length = 2 ^ K) {jJ : Int} (KE : ((2 ^ K : Nat) : Int) * jJ % p = 1 % p) {k : Nat} (hk : k < 2 ^ K) :
    mulM p (ef p (ig p (aZ p a w (2 ^ K)) (aZ p b w (2 ^ K))) w ((2 ^ K - k) % 2 ^ K)) jJ = vz p a b k := by
  have h0 : 0 < 2 ^ K := Nat.pow_pos (by omega)
  have nY : (ig p (aZ p a w (2 ^ K)) (aZ p b w (2 ^ K))).length = 2 ^ K := by unfold ig; rw [cU, dW]
  -- the transform of the pointwise product
  have e1 : ef p (ig p (aZ p a w (2 ^ K)) (aZ p b w (2 ^ K))) w ((2 ^ K - k) % 2 ^ K) = aS (fun i => aS (fun s => aS (fun t => a.getD s 0 * b.getD t 0 * w ^ (i * (s + t + (2 ^ K - k)))) (2 ^ K)) (2 ^ K)) (2 ^ K) % p := by
    unfold ef
    rw [nY]
    refine fk _ fun i hi => ?_
    unfold kT
    rw [nY]
    have g1 : (ig p (aZ p a w (2 ^ K)) (aZ p b w (2 ^ K))).getD i 0 = mulM p (ef p a w i) (ef p b w i) := by
      unfold ig
      rw [dW]
      simp [List.getD_eq_getElem?_getD, hi, aZ]
    have gS : ∀ v : List Int, v.length = 2 ^ K → ef p v w i % p = aS (fun s => v.getD s 0 * w ^ (i * s)) (2 ^ K) % p := fun v hv => by
      unfold ef
      rw [mod_mod, hv]
      refine fk _ fun s _ => ?_
      unfold kT
      rw [hv]
      exact ka rfl (z8 h.full _)
    rw [g1]
    have g2 : mulM p (ef p a w i) (ef p b w i) % p = aS (fun s => a.getD s 0 * w ^ (i * s)) (2 ^ K) * aS (fun t => b.getD t 0 * w ^ (i * t)) (2 ^ K) % p := by
      unfold mulM
      rw [mod_mod]
      exact ka (gS a ha) (gS b hb)
    have g3 : w ^ ((2 ^ K - k) % 2 ^ K * i % 2 ^ K) % p = w ^ (i * (2 ^ K - k)) % p := by
      rw [Nat.mod_mul_mod, z8 h.full, Nat.mul_comm]
    rw [ka g2 g3]
    congr 1
    generalize Tp : aS (fun t => b.getD t 0 * w ^ (i * t)) (2 ^ K) = SB
    have q1 : ∀ s, aS (fun t => a.getD s 0 * b.getD t 0 * w ^ (i * (s + t + (2 ^ K - k)))) (2 ^ K) = (SB * w ^ (i * (2 ^ K - k))) * (a.getD s 0 * w ^ (i * s)) := by
      intro s
      rw [show (SB * w ^ (i * (2 ^ K - k))) * (a.getD s 0 * w ^ (i * s)) = (w ^ (i * (2 ^ K - k)) * (a.getD s 0 * w ^ (i * s))) * SB by ac_rfl, ← Tp, ← hO]
      refine fS _ fun t _ => ?_
      rw [Nat.mul_add, Nat.mul_add, Int.pow_add, Int.pow_add]
      ac_rfl
    rw [fS _ (fun s _ => q1 s), hO]
    ac_rfl
  have e2 : ef p (ig p (aZ p a w (2 ^ K)) (aZ p b w (2 ^ K))) w ((2 ^ K - k) % 2 ^ K) % p = ((2 ^ K : Nat) : Int) * aS (fun s => a.getD s 0 * b.getD ((k + 2 ^ K - s) % 2 ^ K) 0) (2 ^ K) % p := by
    rw [e1, mod_mod, vf, ← hO]
    refine fk _ fun s hs => ?_
    rw [vf]
    have hd : aS (fun t => aS (fun i => a.getD s 0 * b.getD t 0 * w ^ (i * (s + t + (2 ^ K - k)))) (2 ^ K)) (2 ^ K) % p = aS (fun t => if t = (k + 2 ^ K - s) % 2 ^ K then ((2 ^ K : Nat) : Int) * (a.getD s 0 * b.getD t 0) else 0) (2 ^ K) % p := by
      refine fk _ fun t ht => ?_
      rw [hO, ← bg, RJ h, bg]
      by_cases hc : t = (k + 2 ^ K - s) % 2 ^ K
      · rw [if_pos ((Hi hs ht hk).2 hc), if_pos hc, Int.mul_comm]
      · rw [if_neg (fun h => hc ((Hi hs ht hk).1 h)), if_neg hc, Int.mul_zero]
    rw [hd, H2, if_pos (Nat.mod_lt _ h0)]
  unfold mulM vz
  rw [ha, ← bp, e2, bp, Int.mul_comm ((2 ^ K : Nat) : Int), Int.mul_assoc, ← bg, KE, bg, Int.mul_one]
theorem gb(d:Fd)(u:List Int)(l:Nat):(eJ d u l).length=u.length:=cU _ _
theorem sP(d:Fd)(u:List Int)(l:Nat){t:Nat}(h:t<u.length):(eJ d u l).getD t 0=n5 d u l t:=by simp[eJ,List.getD_eq_getElem?_getD,h]
theorem Lf(d:Fd)(u:List Int):eJ d u 0=u:=by
 refine List.ext_getElem (gb _ _ _) fun t h1 h2=>?_
 simp[eJ,n5,List.getD_eq_getElem?_getD,h2]
theorem Le{d:Fd}{u:List Int}{K l:Nat}(hu:u.length=2^K)(hl:l<K):u7 d (eJ d u l) l 0 (u.length/2)=eJ d u (l+1):=by
 have hlen:(eJ d u l).length=2*2^l*2^(K-l-1):=by rw[gb,hu,kE hl]
 rw[show u.length/2=2^l*2^(K-l-1) by rw[hu,yD hl]]
 refine List.ext_getElem (by rw[u9,gb,gb]) fun t h1 h2=>?_
 rw[u9] at h1
 have h3:=Pb (d:=d) hlen h1
 have e1:(u7 d (eJ d u l) l 0 (2^l*2^(K-l-1)))[t]'(by rw[u9];exact h1)=(u7 d (eJ d u l) l 0 (2^l*2^(K-l-1))).getD t 0:=by simp[List.getD_eq_getElem?_getD,h1,u9]
 rw[e1,h3]
 have ht:t<u.length:=by rw[gb] at h1;exact h1
 have e2:(eJ d u (l+1))[t]=n5 d u (l+1) t:=by simp[eJ]
 rw[e2]
 unfold mZ
 rw[n5]
 split
 ·rename_i hr
  have IK:u.length=2*2^l*2^(K-l-1):=by rw[hu,kE hl]
  have h4:t+2^l<u.length:=by
   have g1:t=2*2^l*(t/(2*2^l))+t%(2*2^l):=(Nat.div_add_mod t _).symm
   have g2:t/(2*2^l)<2^(K-l-1):=Nat.div_lt_of_lt_mul (by rw[<-IK];exact ht)
   have g3:2*2^l*(t/(2*2^l)+1)<=2*2^l*2^(K-l-1):=Nat.mul_le_mul_left _ g2
   rw[Nat.mul_add,Nat.mul_one] at g3
   omega
  rw[sP _ _ _ ht,sP _ _ _ h4]
 ·rw[sP _ _ _ ht,sP _ _ _ (Nat.lt_of_le_of_lt (Nat.sub_le _ _) ht)]
theorem qh{f:Int}{K:Nat}(hm:ab f≠0)(eW:(K:Int)<=cE f):aO (al f).1 (K:Int)=bt f (K:Int):=by
 have hp:=(bu hm).1
 unfold an at hp
 obtain⟨a,ha,b,hb,iF,uA⟩:=xC hm eW
 have yH:(al f).1.1=ab f:=rfl
 have P_:(al f).1.2.1=bj f:=rfl
 have hz:ab f-1=((2^K*a:Nat):Int):=by omega
 have KA:(ab f-1)/2^((K:Nat):Int).toNat=(a:Int):=by
  rw[Int.toNat_natCast,hz,Int.natCast_mul,Int.natCast_pow]
  exact Int.mul_ediv_cancel_left _ (Int.ne_of_gt (Int.pow_pos (by omega)))
 unfold aO bq
 rw[yH,P_,KA,Int.toNat_natCast,hb]
 rcases Nat.eq_zero_or_pos K with h0|h0
 ·rw[uA h0]
  subst h0
  rw[Nat.pow_zero,Nat.one_mul] at ha
  rw[<-ha,xn hm,Int.pow_zero]
 ·rw[iF h0]
theorem MD{f:Int}{v:List Int}(h:aA f v=true):eJ (al f).1 (dA v) (ax v.length).toNat=aZ (ab f) v (bt f (ax v.length)) v.length:=by
 have hl:(dA v).length=v.length:=by
  obtain⟨_,_,K,hK,_⟩:=cq h
  unfold dA;rw[if_pos (by omega)];exact Ee _ _
 refine List.ext_getElem (by rw[gb,dW,hl]) fun t h1 h2=>?_
 rw[gb,hl] at h1
 have:=O1 h h1
 simp only[eJ,aZ,List.getElem_map,List.getElem_range]
 exact this
theorem OA{f:Int}{v:List Int}(h:aA f v=true){k:Nat}(hk:k<v.length):ef (ab f) v (aR (ab f) (bt f (ax v.length))) k=ef (ab f) v (bt f (ax v.length)) ((v.length-k)%v.length):=by
 obtain⟨hm,he,K,hK,po,hlen,eW⟩:=cq h
 have KS:=Og hm eW
 have hi:=E3 hm eW
 rw[hK]
 exact OK (by omega) (by rw[hlen];exact KS.full) hi hk
theorem Mv{f:Int}{a b:List Int}(ha:aA f a=true)(ib:a.length=b.length){k:Nat}(hk:k<a.length) :
 zO (ab f) (bt f (ax a.length)) (aR (ab f) a.length) (ig (ab f) (aZ (ab f) a (bt f (ax a.length)) a.length) (aZ (ab f) b (bt f (ax b.length)) b.length)) k=vz (ab f) a b k:=by
 obtain⟨hm,he,K,hK,po,hlen,eW⟩:=cq ha
 have KS:=Og hm eW
 have nY:(ig (ab f) (aZ (ab f) a (bt f (ax a.length)) a.length) (aZ (ab f) b (bt f (ax b.length)) b.length)).length=a.length:=by unfold ig;rw[cU,dW]
 have:=OJ KS hlen (by omega:b.length=2^K) (H6 hm K) (k:=k) (by omega)
 unfold zO
 rw[nY,<-ib,hK,hlen]
 exact this
theorem zP(p wi r:Int)(v:List Int)(n:Nat):(wu p wi r v n).length=n:=cU _ _
theorem C9(p:Int)(v:List Int)(w:Int){n t:Nat}(h:t<n):(aZ p v w n).getD t 0=ef p v w t:=by simp[aZ,List.getD_eq_getElem?_getD,h]
theorem nu{f:Int}{v:List Int}(h:aA f v=true):0<v.length/\v.length<=512/\0<=ax v.length/\ax v.length<=9:=by
 obtain⟨_,_,K,hK,po,hlen,_⟩:=cq h
 have IC:=g_ po
 exact⟨by rw[hlen];exact Nat.pow_pos (by omega),by omega,by omega,by omega⟩
theorem vQ{f:Int}{a b:List Int}(h:c9 f a b=true):a.length=b.length/\aA f a=true/\aA f b=true:=by
 unfold c9 at h
 simp only[Bool.and_eq_true,decide_eq_true_eq] at h
 exact⟨h.1.1,h.1.2,h.2⟩
theorem PD{f:Int}{v:List Int}(h:aA f v=true):wu (ab f) (aR (ab f) (bt f (ax v.length))) (aR (ab f) v.length) v v.length=fo f v:=by
 unfold fo
 rw[if_pos h]
 refine List.ext_getElem (by rw[zP];unfold q8;rw[cU]) fun t h1 h2=>?_
 rw[zP] at h1
 simp only[wu,q8,List.getElem_map,List.getElem_range]
 unfold zO
 rw[OA h h1]
theorem vJ{f:Int}(hm:ab f≠0){a:Int}(ha:a%ab f≠0):a_ f a (-1)=aR (ab f) a:=by
 rw[rJ hm,Ek (bu hm).1 ha]
theorem Ly{f:Int}(hm:ab f≠0){a r:Int}(h:a*r%ab f=1%ab f):a%ab f≠0:=by
 intro h0
 have hp:=(bu hm).1
 unfold an at hp
 rw[<-bp,h0,Int.zero_mul,Int.zero_emod,Int.emod_eq_of_lt (by omega) (by omega)] at h
 exact absurd h (by decide)
theorem FA :
 ∀(d:Int×List Int),Ty.wf ah d.1/\Ty.wf ai d.2->True->True/\((!aA d.1 d.2)=true->[]=fo d.1 d.2)/\((!aA d.1 d.2)=false->True/\(Ty.wf ah (ax (d.2.length:Int))->True/\(Ty.wf ah (bt d.1 (ax (d.2.length:Int)))->True/\(Ty.wf ah (a_ d.1 (bt d.1 (ax (d.2.length:Int))) (-1:Int))->(aA d.1 d.2=true/\El (ab d.1) (a_ d.1 (bt d.1 (ax (d.2.length:Int))) (-1:Int)))/\(Ty.wf ai (aZ (ab d.1) d.2 (a_ d.1 (bt d.1 (ax (d.2.length:Int))) (-1:Int)) d.2.length)->True/\(Ty.wf ah (a_ d.1 (d.2.length:Int) (-1:Int))->(0:Nat)<=d.2.length/\((d.1=d.1/\d.2=d.2/\aQ/\ae (a_ d.1 (d.2.length:Int) (-1:Int))/\(0:Int)=(↑(0:Nat):Int))/\[]=wu (ab d.1) (a_ d.1 (bt d.1 (ax (d.2.length:Int))) (-1:Int)) (a_ d.1 (d.2.length:Int) (-1:Int)) d.2 (0:Nat)/\ae (aZ (ab d.1) d.2 (a_ d.1 (bt d.1 (ax (d.2.length:Int))) (-1:Int)) d.2.length))/\∀(x:Nat),x<=d.2.length->(decide ((x:Int)<(↑(List.length (aZ (ab d.1) d.2 (a_ d.1 (bt d.1 (ax (d.2.length:Int))) (-1:Int)) d.2.length)):Int))=true->((0:Int)<=(x:Int)/\(x:Int)<(↑(List.length (aZ (ab d.1) d.2 (a_ d.1 (bt d.1 (ax (d.2.length:Int))) (-1:Int)) d.2.length)):Int))/\True/\(Ty.wf ah (b7 d.1 (List.getD (aZ (ab d.1) d.2 (a_ d.1 (bt d.1 (ax (d.2.length:Int))) (-1:Int)) d.2.length) ((x:Int).toNat) (0:Int)) (a_ d.1 (d.2.length:Int) (-1:Int)))->(List.length (wu (ab d.1) (a_ d.1 (bt d.1 (ax (d.2.length:Int))) (-1:Int)) (a_ d.1 (d.2.length:Int) (-1:Int)) d.2 x)+List.length [b7 d.1 (List.getD (aZ (ab d.1) d.2 (a_ d.1 (bt d.1 (ax (d.2.length:Int))) (-1:Int)) d.2.length) ((x:Int).toNat) (0:Int)) (a_ d.1 (d.2.length:Int) (-1:Int))])*(8:Nat)<=(140737488355328:Nat)/\∃(x':Nat),x'<=d.2.length/\d.2.length-x'<d.2.length-x/\(d.1=d.1/\d.2=d.2/\aQ/\ae (a_ d.1 (d.2.length:Int) (-1:Int))/\i64.wrap ((x:Int)+(1:Int))=(x':Int))/\wu (ab d.1) (a_ d.1 (bt d.1 (ax (d.2.length:Int))) (-1:Int)) (a_ d.1 (d.2.length:Int) (-1:Int)) d.2 x++[b7 d.1 (List.getD (aZ (ab d.1) d.2 (a_ d.1 (bt d.1 (ax (d.2.length:Int))) (-1:Int)) d.2.length) ((x:Int).toNat) (0:Int)) (a_ d.1 (d.2.length:Int) (-1:Int))]=wu (ab d.1) (a_ d.1 (bt d.1 (ax (d.2.length:Int))) (-1:Int)) (a_ d.1 (d.2.length:Int) (-1:Int)) d.2 x'/\ae (aZ (ab d.1) d.2 (a_ d.1 (bt d.1 (ax (d.2.length:Int))) (-1:Int)) d.2.length)))/\(decide ((x:Int)<(↑(List.length (aZ (ab d.1) d.2 (a_ d.1 (bt d.1 (ax (d.2.length:Int))) (-1:Int)) d.2.length)):Int))=false->wu (ab d.1) (a_ d.1 (bt d.1 (ax (d.2.length:Int))) (-1:Int)) (a_ d.1 (d.2.length:Int) (-1:Int)) d.2 x=fo d.1 d.2))))))):=by
  intro d hw hp
  obtain⟨f,v⟩:=d
  simp only[exists_const,forall_const,decide_eq_true_eq,decide_eq_false_iff_not,beq_iff_eq,sxS]
  refine⟨fun h=>by unfold fo;rw[if_neg (by rw[h];simp)],fun h _ _ _=>?_⟩
  obtain⟨hm,he,K,hK,po,hlen,eW⟩:=cq h
  obtain⟨l1,l2,l3,l4⟩:=nu h
  have Bc:a_ f (bt f (ax v.length)) (-1)=aR (ab f) (bt f (ax v.length)):=by
   rw[hK]
   exact vJ hm (Ly hm (E3 hm eW))
  have TX:a_ f (v.length:Int) (-1)=aR (ab f) v.length:=by
   refine vJ hm (Ly hm (r:=aR (ab f) v.length) ?_)
   rw[hlen]
   exact H6 hm K
  rw[Bc,TX]
  refine⟨⟨h,oF (bu hm).1 _⟩,fun _ _=>⟨Nat.zero_le _,⟨rfl,rfl⟩,fun x hx=>⟨fun aK=>?_,fun dU=>?_⟩⟩⟩
  ·rw[dW] at aK ⊢
   rw[C9 _ _ _ (by omega),iv hm]
   refine⟨⟨by omega,aK⟩,fun _=>⟨by rw[zP,List.length_singleton];omega,x+1,by omega,by omega,?_,?_⟩⟩
   ·rw[wrap_small (by omega)];rfl
   ·simp[wu,List.range_succ]
  ·rw[dW] at dU
   rw[show x=v.length by omega]
   exact PD h
theorem J1 :
 ∀(d:Int×List Int×List Int),Ty.wf ah d.1/\Ty.wf ai d.2.1/\Ty.wf ai d.2.2->True->(decide ((d.2.1.length:Int)=(d.2.2.length:Int))=true->True/\(aA d.1 d.2.1=true->True/\aA d.1 d.2.2=c9 d.1 d.2.1 d.2.2)/\(aA d.1 d.2.1=false->false=c9 d.1 d.2.1 d.2.2))/\(decide ((d.2.1.length:Int)=(d.2.2.length:Int))=false->false=c9 d.1 d.2.1 d.2.2):=by
  intro d hw hp
  obtain⟨f,a,b⟩:=d
  simp only[exists_const,forall_const,decide_eq_true_eq,decide_eq_false_iff_not,beq_iff_eq,sxS]
  unfold c9
  refine⟨fun h=>⟨fun h1=>?_,fun h1=>?_⟩,fun h=>?_⟩
  ·rw[decide_eq_true (show a.length=b.length by omega),h1];rfl
  ·rw[h1,Bool.and_false];rfl
  ·rw[decide_eq_false (show ¬a.length=b.length by omega)];rfl
theorem JP :
 ∀(d:Int×List Int×List Int),Ty.wf ah d.1/\Ty.wf ai d.2.1/\Ty.wf ai d.2.2->True->True/\((!c9 d.1 d.2.1 d.2.2)=true->[]=jM d.1 d.2.1 d.2.2)/\((!c9 d.1 d.2.1 d.2.2)=false->True/\(Ty.wf ah (ab d.1)->(0:Nat)<=d.2.1.length/\((d.1=d.1/\ae d.2.1/\ae d.2.2/\aQ/\ae (ab d.1)/\ae (d.2.1.length:Int)/\(0:Int)=(↑(0:Nat):Int))/\[]=oU (ab d.1) d.2.1 d.2.2 (0:Nat))/\∀(x:Nat),x<=d.2.1.length->(decide ((x:Int)<(d.2.1.length:Int))=true->(0:Nat)<=d.2.1.length/\((d.1=d.1/\ae d.2.1/\ae d.2.2/\aQ/\ae (ab d.1)/\ae (d.2.1.length:Int)/\ae (x:Int)/\(0:Int)=aS (fun (j:Nat)=>d.2.1.getD j (0:Int)*d.2.2.getD ((x+d.2.1.length-j)%d.2.1.length) (0:Int)) (0:Nat)%ab d.1/\(0:Int)=(↑(0:Nat):Int))/\ae (oU (ab d.1) d.2.1 d.2.2 x))/\∀(x_1:Nat),x_1<=d.2.1.length->(decide ((x_1:Int)<(d.2.1.length:Int))=true->((0:Int)<=(x_1:Int)/\(x_1:Int)<(d.2.1.length:Int))/\(d.2.1.length:Int)≠(0:Int)/\((0:Int)<=Int.tmod (i64.wrap (i64.wrap ((x:Int)-(x_1:Int))+(d.2.1.length:Int))) (d.2.1.length:Int)/\Int.tmod (i64.wrap (i64.wrap ((x:Int)-(x_1:Int))+(d.2.1.length:Int))) (d.2.1.length:Int)<(d.2.2.length:Int))/\ab d.1≠(0:Int)/\∃(x':Nat),x'<=d.2.1.length/\d.2.1.length-x'<d.2.1.length-x_1/\(d.1=d.1/\ae d.2.1/\ae d.2.2/\aQ/\ae (ab d.1)/\ae (d.2.1.length:Int)/\ae (x:Int)/\Int.tmod (i64.wrap (aS (fun (j:Nat)=>d.2.1.getD j (0:Int)*d.2.2.getD ((x+d.2.1.length-j)%d.2.1.length) (0:Int)) x_1%ab d.1+i64.wrap (d.2.1.getD ((x_1:Int).toNat) (0:Int)*d.2.2.getD (Int.toNat (Int.tmod (i64.wrap (i64.wrap ((x:Int)-(x_1:Int))+(d.2.1.length:Int))) (d.2.1.length:Int))) (0:Int)))) (ab d.1)=aS (fun (j:Nat)=>d.2.1.getD j (0:Int)*d.2.2.getD ((x+d.2.1.length-j)%d.2.1.length) (0:Int)) x'%ab d.1/\i64.wrap ((x_1:Int)+(1:Int))=(x':Int))/\ae (oU (ab d.1) d.2.1 d.2.2 x))/\(decide ((x_1:Int)<(d.2.1.length:Int))=false->(List.length (oU (ab d.1) d.2.1 d.2.2 x)+List.length [aS (fun (j:Nat)=>d.2.1.getD j (0:Int)*d.2.2.getD ((x+d.2.1.length-j)%d.2.1.length) (0:Int)) x_1%ab d.1])*(8:Nat)<=(140737488355328:Nat)/\∃(x':Nat),x'<=d.2.1.length/\d.2.1.length-x'<d.2.1.length-x/\(d.1=d.1/\ae d.2.1/\ae d.2.2/\aQ/\ae (ab d.1)/\ae (d.2.1.length:Int)/\i64.wrap ((x:Int)+(1:Int))=(x':Int))/\oU (ab d.1) d.2.1 d.2.2 x++[aS (fun (j:Nat)=>d.2.1.getD j (0:Int)*d.2.2.getD ((x+d.2.1.length-j)%d.2.1.length) (0:Int)) x_1%ab d.1]=oU (ab d.1) d.2.1 d.2.2 x'))/\(decide ((x:Int)<(d.2.1.length:Int))=false->oU (ab d.1) d.2.1 d.2.2 x=jM d.1 d.2.1 d.2.2))):=by
  intro d hw hp
  obtain⟨f,a,b⟩:=d
  simp only[exists_const,forall_const,decide_eq_true_eq,decide_eq_false_iff_not,beq_iff_eq,sxS]
  refine⟨fun h=>by unfold jM;rw[if_neg (by rw[h];simp)],fun h _=>?_⟩
  obtain⟨ib,ha,hb⟩:=vQ h
  obtain⟨hm,lQ,_⟩:=cq ha
  obtain⟨_,ic,_⟩:=cq hb
  obtain⟨l1,l2,l3,l4⟩:=nu ha
  have nZ:=(bu hm).1
  have aJ:=nZ
  unfold an at aJ
  have jU:∀ n,(oU (ab f) a b n).length=n:=fun n=>cU _ _
  refine⟨Nat.zero_le _,⟨rfl,rfl⟩,fun i hi=>⟨fun KK=>⟨Nat.zero_le _,⟨?_,rfl⟩,fun j hj=>⟨fun HA=>?_,fun TH=>⟨?_,i+1,by omega,by omega,?_,?_⟩⟩⟩,fun TE=>?_⟩⟩
  ·show (0:Int)=0%ab f
   rw[Int.zero_emod]
  ·have uE:(i64.wrap (i64.wrap ((i:Int)-(j:Int))+(a.length:Int))).tmod (a.length:Int)=(((i+a.length-j)%a.length:Nat):Int):=by
    rw[wrap_small (n:=(i:Int)-j) (by omega),wrap_small (by omega),Int.tmod_eq_emod_of_nonneg (by omega)]
    have:(i:Int)-j+a.length=((i+a.length-j:Nat):Int):=by omega
    rw[this];rfl
   have aK:(i+a.length-j)%a.length<a.length:=Nat.mod_lt _ l1
   rw[uE,Int.toNat_natCast]
   refine⟨⟨by omega,HA⟩,by omega,⟨by omega,by omega⟩,hm,j+1,by omega,by omega,?_,?_⟩
   ·have e1:=i_ nZ (dm nZ lQ j) (dm nZ ic ((i+a.length-j)%a.length))
    have e4:=cN (p:=ab f) (by omega) (aS (fun j=>a.getD j 0*b.getD ((i+a.length-j)%a.length) 0) j)
    unfold El at e4
    rw[wrap_small (n:=a.getD j 0*b.getD ((i+a.length-j)%a.length) 0) (by omega),wrap_small (by omega),Int.tmod_eq_emod_of_nonneg (by omega),aS,cV]
   ·rw[wrap_small (by omega)];rfl
  ·rw[jU,List.length_singleton];omega
  ·rw[wrap_small (by omega)];rfl
  ·rw[show j=a.length by omega]
   simp[oU,List.range_succ,vz]
  ·rw[show i=a.length by omega]
   unfold jM oU
   rw[if_pos h]
theorem Fj :
 ∀(d:Int×List Int),Ty.wf ah d.1/\Ty.wf ai d.2->True->List.length [d.2]=(1:Nat)/\(Ty.wf bm (b_ d.1 (List.getD [d.2] (0:Nat) [])).1/\Ty.wf Ty.bool (b_ d.1 (List.getD [d.2] (0:Nat) [])).2->(b_ d.1 (List.getD [d.2] (0:Nat) [])).2=aA d.1 d.2):=by
  intro d hw hp
  obtain⟨f,v⟩:=d
  simp only[exists_const,forall_const,decide_eq_true_eq,decide_eq_false_iff_not,beq_iff_eq,sxS]
  refine⟨rfl,fun _=>?_⟩
  exact FM f v
theorem Gr :
 ∀(d:Int×List Int),Ty.wf ah d.1/\Ty.wf ai d.2->True->List.length [d.2]=(1:Nat)/\(Ty.wf bm (b_ d.1 (List.getD [d.2] (0:Nat) [])).1/\Ty.wf Ty.bool (b_ d.1 (List.getD [d.2] (0:Nat) [])).2->((!(b_ d.1 (List.getD [d.2] (0:Nat) [])).2)=true->[]=iS d.1 d.2)/\((!(b_ d.1 (List.getD [d.2] (0:Nat) [])).2)=false->kg (b_ d.1 (List.getD [d.2] (0:Nat) [])).1 d.2/\(Ty.wf ai (aZ (b_ d.1 (List.getD [d.2] (0:Nat) [])).1.1 d.2 (aO (b_ d.1 (List.getD [d.2] (0:Nat) [])).1 (ax (d.2.length:Int))) d.2.length)->aZ (b_ d.1 (List.getD [d.2] (0:Nat) [])).1.1 d.2 (aO (b_ d.1 (List.getD [d.2] (0:Nat) [])).1 (ax (d.2.length:Int))) d.2.length=iS d.1 d.2))):=by
  intro d hw hp
  obtain⟨f,v⟩:=d
  simp only[exists_const,forall_const,decide_eq_true_eq,decide_eq_false_iff_not,beq_iff_eq,sxS]
  refine⟨rfl,fun _=>?_⟩
  show ((b_ f v).2=false->_)/\((b_ f v).2=true->kg (b_ f v).1 v/\(_->aZ (b_ f v).1.1 v (aO (b_ f v).1 (ax v.length)) v.length=iS f v))
  rw[FM]
  refine⟨fun h=>by unfold iS;rw[if_neg (by rw[h];simp)],fun h=>?_⟩
  have e:b_ f v=((al f).1,true):=if_pos h
  obtain⟨hm,he,K,hK,po,hlen,eW⟩:=cq h
  rw[e]
  refine⟨⟨f,h,rfl⟩,fun _=>?_⟩
  unfold iS
  rw[if_pos h,hK]
  simp only
  rw[qh hm eW]
  rfl
theorem Fh :
 ∀(d:Int×List Int),Ty.wf ah d.1/\Ty.wf ai d.2->True->List.length [d.2]=(1:Nat)/\(Ty.wf bm (b_ d.1 (List.getD [d.2] (0:Nat) [])).1/\Ty.wf Ty.bool (b_ d.1 (List.getD [d.2] (0:Nat) [])).2->((!(b_ d.1 (List.getD [d.2] (0:Nat) [])).2)=true->[]=fo d.1 d.2)/\((!(b_ d.1 (List.getD [d.2] (0:Nat) [])).2)=false->kg (b_ d.1 (List.getD [d.2] (0:Nat) [])).1 d.2/\(Ty.wf ai (q8 (b_ d.1 (List.getD [d.2] (0:Nat) [])).1.1 (aO (b_ d.1 (List.getD [d.2] (0:Nat) [])).1 (ax (d.2.length:Int))) (aR (b_ d.1 (List.getD [d.2] (0:Nat) [])).1.1 (d.2.length:Int)) d.2)->q8 (b_ d.1 (List.getD [d.2] (0:Nat) [])).1.1 (aO (b_ d.1 (List.getD [d.2] (0:Nat) [])).1 (ax (d.2.length:Int))) (aR (b_ d.1 (List.getD [d.2] (0:Nat) [])).1.1 (d.2.length:Int)) d.2=fo d.1 d.2))):=by
  intro d hw hp
  obtain⟨f,v⟩:=d
  simp only[exists_const,forall_const,decide_eq_true_eq,decide_eq_false_iff_not,beq_iff_eq,sxS]
  refine⟨rfl,fun _=>?_⟩
  show ((b_ f v).2=false->_)/\((b_ f v).2=true->kg (b_ f v).1 v/\(_->q8 (b_ f v).1.1 (aO (b_ f v).1 (ax v.length)) (aR (b_ f v).1.1 v.length) v=fo f v))
  rw[FM]
  refine⟨fun h=>by unfold fo;rw[if_neg (by rw[h];simp)],fun h=>?_⟩
  have e:b_ f v=((al f).1,true):=if_pos h
  obtain⟨hm,he,K,hK,po,hlen,eW⟩:=cq h
  rw[e]
  refine⟨⟨f,h,rfl⟩,fun _=>?_⟩
  unfold fo
  rw[if_pos h,hK]
  simp only
  rw[qh hm eW]
  rfl
theorem tq{f:Int}{a b:List Int}:(aE f [a,b]).2=c9 f a b/\(c9 f a b=true->aE f [a,b]=((al f).1,true)):=by
 have hb:oC f [a,b]=c9 f a b:=by
  unfold oC c9
  by_cases h3:a.length=b.length
  ·by_cases h1:aA f a=true<;>by_cases h2:aA f b=true<;>simp[h1,h2,h3]
  ·have Kx:¬b.length=a.length:=fun e=>h3 e.symm
   by_cases h1:aA f a=true<;>by_cases h2:aA f b=true<;>simp[h1,h2,h3,Kx]
 unfold aE
 rw[hb]
 cases h:c9 f a b with
 | true=>exact⟨rfl,fun _=>rfl⟩
 | false=>exact⟨rfl,fun h=>by cases h⟩
theorem Gt :
 ∀(d:Int×List Int×List Int),Ty.wf ah d.1/\Ty.wf ai d.2.1/\Ty.wf ai d.2.2->True->List.length [d.2.1,d.2.2]=(2:Nat)/\(Ty.wf bm (aE d.1 [d.2.1,d.2.2]).1/\Ty.wf Ty.bool (aE d.1 [d.2.1,d.2.2]).2->((!(aE d.1 [d.2.1,d.2.2]).2)=true->[]=gq d.1 d.2.1 d.2.2)/\((!(aE d.1 [d.2.1,d.2.2]).2)=false->(an (aE d.1 [d.2.1,d.2.2]).1.1/\ak (aE d.1 [d.2.1,d.2.2]).1.1 d.2.1=true/\ak (aE d.1 [d.2.1,d.2.2]).1.1 d.2.2=true/\d.2.1.length=d.2.2.length/\d.2.1.length<=(512:Nat))/\(Ty.wf ai (List.map (fun (t:Nat)=>gl (Prod.fst (aE d.1 [d.2.1,d.2.2]),d.2).1.1 (Prod.fst (aE d.1 [d.2.1,d.2.2]),d.2).2.1 (Prod.fst (aE d.1 [d.2.1,d.2.2]),d.2).2.2 t (List.length (Prod.fst (aE d.1 [d.2.1,d.2.2]),d.2).2.1)) (List.range d.2.1.length))->List.map (fun (t:Nat)=>gl (Prod.fst (aE d.1 [d.2.1,d.2.2]),d.2).1.1 (Prod.fst (aE d.1 [d.2.1,d.2.2]),d.2).2.1 (Prod.fst (aE d.1 [d.2.1,d.2.2]),d.2).2.2 t (List.length (Prod.fst (aE d.1 [d.2.1,d.2.2]),d.2).2.1)) (List.range d.2.1.length)=gq d.1 d.2.1 d.2.2))):=by
  intro d hw hp
  obtain⟨f,a,b⟩:=d
  simp only[exists_const,forall_const,decide_eq_true_eq,decide_eq_false_iff_not,beq_iff_eq,sxS]
  refine⟨rfl,fun _=>?_⟩
  rw[tq.1]
  refine⟨fun h=>by unfold gq;rw[if_neg (by rw[h];simp)],fun h=>?_⟩
  obtain⟨ib,ha,hb⟩:=vQ h
  obtain⟨hm,lQ,_⟩:=cq ha
  obtain⟨_,ic,_⟩:=cq hb
  obtain⟨l1,l2,l3,l4⟩:=nu ha
  rw[tq.2 h]
  refine⟨⟨(bu hm).1,lQ,ic,ib,l2⟩,fun _=>?_⟩
  unfold gq
  rw[if_pos h]
  rfl
theorem Ce :
 ∀(d:(Int×Int×Int)×List Int×List Int),Ty.wf bm d.1/\Ty.wf ai d.2.1/\Ty.wf ai d.2.2->an d.1.1/\ak d.1.1 d.2.1=true/\ak d.1.1 d.2.2=true/\d.2.1.length=d.2.2.length/\d.2.1.length<=(1048576:Nat)->(0:Nat)<=d.2.1.length/\(((ae d.1.1/\ae d.1.2.1/\ae d.1.2.2)/\ae d.2.1/\ae d.2.2/\aQ/\ae d.2.1/\ae (d.2.1.length:Int)/\(0:Int)=(↑(0:Nat):Int))/\(ae d.1.1/\ae d.1.2.1/\ae d.1.2.2)/\[]=Bu d.1.1 d.2.1 d.2.2 (0:Nat))/\∀(x:Nat),x<=d.2.1.length->(decide ((x:Int)<(d.2.1.length:Int))=true->((0:Int)<=(x:Int)/\(x:Int)<(d.2.1.length:Int))/\((0:Int)<=(x:Int)/\(x:Int)<(d.2.2.length:Int))/\(an d.1.1/\El d.1.1 (d.2.1.getD ((x:Int).toNat) (0:Int))/\El d.1.1 (d.2.2.getD ((x:Int).toNat) (0:Int)))/\(Ty.wf ah (mulM d.1.1 (d.2.1.getD ((x:Int).toNat) (0:Int)) (d.2.2.getD ((x:Int).toNat) (0:Int)))->(List.length (Bu d.1.1 d.2.1 d.2.2 x)+List.length [mulM d.1.1 (d.2.1.getD ((x:Int).toNat) (0:Int)) (d.2.2.getD ((x:Int).toNat) (0:Int))])*(8:Nat)<=(140737488355328:Nat)/\∃(x':Nat),x'<=d.2.1.length/\d.2.1.length-x'<d.2.1.length-x/\((ae d.1.1/\ae d.1.2.1/\ae d.1.2.2)/\ae d.2.1/\ae d.2.2/\aQ/\ae d.2.1/\ae (d.2.1.length:Int)/\i64.wrap ((x:Int)+(1:Int))=(x':Int))/\(ae d.1.1/\ae d.1.2.1/\ae d.1.2.2)/\Bu d.1.1 d.2.1 d.2.2 x++[mulM d.1.1 (d.2.1.getD ((x:Int).toNat) (0:Int)) (d.2.2.getD ((x:Int).toNat) (0:Int))]=Bu d.1.1 d.2.1 d.2.2 x'))/\(decide ((x:Int)<(d.2.1.length:Int))=false->Bu d.1.1 d.2.1 d.2.2 x=ig d.1.1 d.2.1 d.2.2):=by
  intro d hw hp
  obtain⟨d,a,b⟩:=d
  obtain⟨p1,p2,p3,p4,p5⟩:=hp
  replace p1:an d.1:=p1
  replace p2:ak d.1 a=true:=p2
  replace p3:ak d.1 b=true:=p3
  replace p4:a.length=b.length:=p4
  replace p5:a.length<=1048576:=p5
  have jU:∀ n,(Bu d.1 a b n).length=n:=fun n=>cU _ _
  simp only[exists_const,forall_const,decide_eq_true_eq,decide_eq_false_iff_not,beq_iff_eq,sxS]
  refine⟨Nat.zero_le _,⟨rfl,rfl⟩,fun x hx=>⟨fun aK=>⟨⟨by omega,aK⟩,⟨by omega,by omega⟩,⟨p1,dm p1 p2 x,dm p1 p3 x⟩,fun _=>⟨?_,x+1,by omega,by omega,?_,?_⟩⟩,fun dU=>?_⟩⟩
  ·rw[jU,List.length_singleton];omega
  ·rw[wrap_small (by omega)];rfl
  ·simp[Bu,List.range_succ]
  ·rw[show x=a.length by omega];rfl
theorem Gy :
 ∀(d:(Int×Int×Int)×List Int),Ty.wf bm d.1/\Ty.wf ai d.2->kg d.1 d.2->(0:Int)<=ax (d.2.length:Int)/\(Ty.wf ai (dA d.2)->True/\(Ty.wf ah (ax (d.2.length:Int))->(↑(0:Nat):Int)<=ax (d.2.length:Int)/\(((ae d.1.1/\ae d.1.2.1/\ae d.1.2.2)/\d.2=d.2/\aQ/\ae (ax (d.2.length:Int))/\(0:Int)=(↑(0:Nat):Int))/\(ae d.1.1/\ae d.1.2.1/\ae d.1.2.2)/\dA d.2=eJ d.1 (dA d.2) (0:Nat))/\∀(x:Nat),(x:Int)<=ax (d.2.length:Int)->(decide ((x:Int)<ax (d.2.length:Int))=true->(kg d.1 (eJ d.1 (dA d.2) x)/\(0:bU [ah])<=(x:Int)/\(x:Int)<=ax (↑(List.length (eJ d.1 (dA d.2) x)):Int)-(1:bU [ah]))/\(Ty.wf ai (u7 d.1 (eJ d.1 (dA d.2) x) ((x:Int).toNat) (0:Nat) (List.length (eJ d.1 (dA d.2) x)/(2:Nat)))->∃(x':Nat),(x':Int)<=ax (d.2.length:Int)/\Int.toNat (ax (d.2.length:Int))-x'<Int.toNat (ax (d.2.length:Int))-x/\((ae d.1.1/\ae d.1.2.1/\ae d.1.2.2)/\d.2=d.2/\aQ/\ae (ax (d.2.length:Int))/\i64.wrap ((x:Int)+(1:Int))=(x':Int))/\(ae d.1.1/\ae d.1.2.1/\ae d.1.2.2)/\u7 d.1 (eJ d.1 (dA d.2) x) ((x:Int).toNat) (0:Nat) (List.length (eJ d.1 (dA d.2) x)/(2:Nat))=eJ d.1 (dA d.2) x'))/\(decide ((x:Int)<ax (d.2.length:Int))=false->eJ d.1 (dA d.2) x=aZ d.1.1 d.2 (aO d.1 (ax (d.2.length:Int))) d.2.length))):=by
  intro d hw hp
  obtain⟨d,v⟩:=d
  obtain⟨f,h,hd⟩:=hp
  replace h:aA f v=true:=h
  replace hd:d=(al f).1:=hd
  obtain⟨hm,he,K,hK,po,hlen,eW⟩:=cq h
  obtain⟨l1,l2,l3,l4⟩:=nu h
  have nY:(dA v).length=v.length:=by unfold dA;rw[if_pos l3];exact Ee _ _
  simp only[exists_const,forall_const,decide_eq_true_eq,decide_eq_false_iff_not,beq_iff_eq,sxS]
  refine⟨l3,fun _ _=>⟨by omega,⟨rfl,(Lf _ _).symm⟩,fun s hs=>⟨fun aK=>⟨⟨⟨f,?_,hd⟩,Int.natCast_nonneg s,?_⟩,fun _=>⟨s+1,by omega,by omega,?_,?_⟩⟩,fun dU=>?_⟩⟩⟩
  ·refine Ib h (by rw[gb,nY]) ?_
   subst hd
   unfold ak
   refine decide_eq_true fun x hx=>?_
   obtain⟨t,ht,rfl⟩:=List.getElem_of_mem hx
   have:=Lg (g:=bj f) (T:=(al f).1.2.2) (bu hm).1 (Bp (bu hm).1 he) s t
   simp only[eJ,List.getElem_map,List.getElem_range]
   have h2:El (ab f) (n5 (al f).1 (dA v) s t):=this
   exact⟨h2.1,Int.le_sub_one_of_lt h2.2⟩
  ·rw[gb,nY];omega
  ·rw[wrap_small (by omega)];rfl
  ·rw[gb]
   exact Le (K:=K) (by rw[nY];exact hlen) (by omega)
  ·have bw:s=(ax v.length).toNat:=by omega
   rw[bw,hd,MD h,hK,qh hm eW]
   rfl
def Ol(p:Int)(a b:List Int)(i:Nat):Nat->Int
 | 0=>0
 | j+1=>(Ol p a b i j+(if i<j then p-a.getD j 0*b.getD ((i+a.length-j)%a.length) 0%p else a.getD j 0*b.getD ((i+a.length-j)%a.length) 0%p))%p
theorem Ar{p:Int}{a b:List Int}{i:Nat}(hi:i<a.length):∀ j,j<=a.length->Ol p a b i j=gl p a b i j
 | 0,_=>rfl
 | j+1,hj=>by
   rw[Ol,gl,Ar hi j (by omega)]
   by_cases h:i<j
   ·rw[if_pos h,if_neg (by omega),Nat.mod_eq_of_lt (by omega)]
    unfold bd mulM
    generalize a.getD j 0*b.getD (i+a.length-j) 0%p=X
    rw[show gl p a b i j+(p-X)=gl p a b i j-X+p*1 by omega,Int.add_mul_emod_self_left]
   ·rw[if_neg h,if_pos (by omega),show i+a.length-j=(i-j)+a.length by omega,Nat.add_mod_right,Nat.mod_eq_of_lt (by omega)]
    rfl
theorem Om{p:Int}(hp:an p)(a b:List Int)(t:Nat):∀ x,El p (gl p a b t x)
 | 0=>ep hp
 | x+1=>by
   rw[gl]
   split
   ·exact rf hp _ _
   ·exact iq hp _ _
theorem Ma{n x y t:Nat}(hx:x<n)(hy:y<n)(ht:t<n):(t+n-x)%n=y↔(if x+y<n then t=x+y else t=x+y-n):=by
 rcases Nat.lt_or_ge t x with h|h
 ·rw[Nat.mod_eq_of_lt (by omega)]
  split<;>omega
 ·rw[show t+n-x=(t-x)+n by omega,Nat.add_mod_right,Nat.mod_eq_of_lt (by omega)]
  split<;>omega
theorem H0{p:Int}{a out:List Int}{i:Nat}(hi:i≠0):∀ j,gk p a out i j%p=bd p 0 (lW p a out i j)
 | 0=>by
   unfold gk lW bd
   rw[if_neg hi];rfl
 | j+1=>by
   have h:=H0 hi (p:=p) (a:=a) (out:=out) j
   rw[gk,lW]
   generalize mulM p (a.getD (j+1) 0) (out.getD (i-(j+1)) 0)=m at *
   unfold bd c_ at *
   rw[mod_mod,<-kI,h,kI,jg]
   congr 1
   omega
theorem Ap(p:Int)(a:List Int):∀ k,(bB p a k).length=k
 | 0=>rfl
 | k+1=>by rw[bB,List.length_append,Ap p a k];rfl
end Go.SF
