/- Jobs from their codes, from the code. No condition. -/
import Derived.Test.YtobmiihdfklmaaaGreatSxM2
import Derived.Test.YtobmiihdfklmaaaGreatSxC
import Derived.Test.YtobmiihdfklmaaaGreatSxM1
set_option linter.unusedVariables false
set_option linter.unusedSimpArgs false
open Go.IntKind (i64 u8)
namespace Go.SF
open Go.SX Go
theorem yk(b:List Int)(p:Nat):∀ k,bM b p k<128^k
 | 0=>by simp[bM]
 | k+1=>by
   have:=yk b p k
   have h2:(b.getD (p+k) 0).toNat%128*128^k<=127*128^k:=Nat.mul_le_mul_right _ (by omega)
   rw[bM,Nat.pow_succ]
   omega
theorem Q1(k:Nat):128^k=2^(7*k):=by rw[show (128:Nat)=2^7 from rfl,<-Nat.pow_mul]
theorem HR{k:Nat}(h:k<=6):128^k<=4398046511104:=Nat.pow_le_pow_right (by omega) h
theorem Ed{k:Nat}(h:k<=7):128^k<=562949953421312:=Nat.pow_le_pow_right (by omega) h
theorem LX{w k:Nat}(hw:w<128)(hk:k<=6):bb i64 (w:Int) ((7*k:Nat):Int)=((w*128^k:Nat):Int):=by
 unfold bb
 have hb:i64.bits=64:=rfl
 have h2:=HR hk
 have h3:w*128^k<=127*128^k:=Nat.mul_le_mul_right _ (by omega)
 rw[hb,Int.toNat_natCast,Nat.min_eq_left (by omega)]
 have e:(w:Int)*2^(7*k)=((w*128^k:Nat):Int):=by rw[Q1];push_cast;rfl
 rw[e,wrap_small (by omega)]
theorem RI{u w k:Nat}(hu:u<128^k)(hw:w<128)(hk:k<=6):gj i64 (u:Int) ((w*128^k:Nat):Int)=((u+w*128^k:Nat):Int):=by
 unfold gj
 have hb:i64.bits=64:=rfl
 have h2:=HR hk
 have h3:w*128^k<=127*128^k:=Nat.mul_le_mul_right _ (by omega)
 have e:(BitVec.ofInt 64 (u:Int) ||| BitVec.ofInt 64 ((w*128^k:Nat):Int)).toNat=u+w*128^k:=by
  rw[BitVec.toNat_or,BitVec.ofInt_natCast,BitVec.ofInt_natCast,BitVec.toNat_ofNat,BitVec.toNat_ofNat,Nat.mod_eq_of_lt (by omega),Nat.mod_eq_of_lt (by omega)]
  rw[Q1] at hu ⊢
  rw[Nat.or_comm,Nat.mul_comm,<-Nat.two_pow_add_eq_or_of_lt hu]
  omega
 rw[hb,e,wrap_small (by omega)]
theorem zq(b:List Int)(p f k:Nat):n6 b p (f+1) k=if p+k<b.length then (if 128<=b.getD (p+k) 0 then n6 b p f (k+1) else if (b.getD (p+k) 0=0/\0<k)\/¬ch (lX (bM b p (k+1))) then (0,0,false) else (lX (bM b p (k+1)),((p+k+1:Nat):Int),true)) else (0,0,false):=rfl
theorem zQ{b:List Int}(hw:Ty.wf bG b)(i:Nat):0<=b.getD i 0/\b.getD i 0<=255:=by
 by_cases h:i<b.length
 ·have:=hw.2 _ (MF h)
  exact this
 ·rw[show b.getD i 0=0 from by simp[List.getD_eq_getElem?_getD,List.getElem?_eq_none (Nat.not_lt.1 h)]];omega
theorem H9{u:Nat}(hu:u<=562949953421312)(h:(u:Int).tmod 2=1):i64.wrap ((i64.wrap (0-i64.wrap ((u:Int)+1))).tdiv 2)=lX u/\i64.wrap (i64.wrap (0-i64.wrap ((u:Int).tdiv 2))-1)=lX u:=by
 have QI:u%2=1:=by rw[Int.tmod_eq_emod_of_nonneg (by omega)] at h;omega
 have hd:(u:Int).tdiv 2=((u/2:Nat):Int):=by rw[Int.tdiv_eq_ediv_of_nonneg (by omega)];omega
 have e1:i64.wrap ((u:Int)+1)=(u:Int)+1:=wrap_small (by omega)
 have e2:i64.wrap (0-((u:Int)+1)) = -((u:Int)+1):=by rw[wrap_small (by omega)];omega
 have e3:(-((u:Int)+1)).tdiv 2 = -((u/2:Nat):Int)-1:=by rw[Int.neg_tdiv,Int.tdiv_eq_ediv_of_nonneg (by omega)];omega
 have e4:i64.wrap ((u/2:Nat):Int)=((u/2:Nat):Int):=wrap_small (by omega)
 have e5:i64.wrap (0-((u/2:Nat):Int))=0-((u/2:Nat):Int):=wrap_small (by omega)
 unfold lX
 rw[if_pos QI,e1,e2,e3,hd,e4,e5,wrap_small (by omega),wrap_small (by omega)]
 omega
theorem Ff{u:Nat}(hu:u<=562949953421312)(h:¬(u:Int).tmod 2=1):i64.wrap ((u:Int).tdiv 2)=lX u:=by
 have QI:¬u%2=1:=by rw[Int.tmod_eq_emod_of_nonneg (by omega)] at h;omega
 have hd:(u:Int).tdiv 2=((u/2:Nat):Int):=by rw[Int.tdiv_eq_ediv_of_nonneg (by omega)];omega
 unfold lX
 rw[if_neg QI,hd,wrap_small (by omega)]
theorem Az :
 ∀(d:List Int×Int),Ty.wf bG d.1/\Ty.wf ah d.2->jL d.1 d.2->(decide (d.2<(0:Int))=true->((0:Int),(0:Int),false)=aj d.1 d.2)/\(decide (d.2<(0:Int))=false->vU d (0:Nat)/\(d.1=d.1/\d.2=d.2/\(0:Int)=(↑(bM d.1 d.2.toNat (0:Nat)):Int)/\(0:Int)=(↑(0:Nat):Int))/\∀(x:Nat),vU d x->(decide ((x:Int)<(7:Int))=true->(decide (i64.wrap (d.2+(x:Int))<(d.1.length:Int))=true->((0:Int)<=i64.wrap (d.2+(x:Int))/\i64.wrap (d.2+(x:Int))<(d.1.length:Int))/\(128:Int)≠(0:Int)/\(0:Int)<=i64.wrap ((7:Int)*(x:Int))/\(decide ((128:Int)<=i64.wrap (d.1.getD (Int.toNat (i64.wrap (d.2+(x:Int)))) (0:Int)))=true->∃(x':Nat),vU d x'/\(7:Nat)-x'<(7:Nat)-x/\d.1=d.1/\d.2=d.2/\gj i64 (bM d.1 d.2.toNat x:Int) (bb i64 (Int.tmod (i64.wrap (d.1.getD (Int.toNat (i64.wrap (d.2+(x:Int)))) (0:Int))) (128:Int)) (i64.wrap ((7:Int)*(x:Int))))=(bM d.1 d.2.toNat x':Int)/\i64.wrap ((x:Int)+(1:Int))=(x':Int))/\(decide ((128:Int)<=i64.wrap (d.1.getD (Int.toNat (i64.wrap (d.2+(x:Int)))) (0:Int)))=false->(2:Int)≠(0:Int)/\(2:Int)≠(0:Int)/\(decide (Int.tmod (gj i64 (bM d.1 d.2.toNat x:Int) (bb i64 (Int.tmod (i64.wrap (d.1.getD (Int.toNat (i64.wrap (d.2+(x:Int)))) (0:Int))) (128:Int)) (i64.wrap ((7:Int)*(x:Int))))) (2:Int)=(1:Int))=true->(2:Int)≠(0:Int)/\(decide (i64.wrap (d.1.getD (Int.toNat (i64.wrap (d.2+(x:Int)))) (0:Int))=(0:Int))=true->(decide ((0:Int)<(x:Int))=true->((0:Int),(0:Int),false)=aj d.1 d.2)/\(decide ((0:Int)<(x:Int))=false->(decide (i64.wrap (Int.tdiv (i64.wrap ((0:Int)-i64.wrap (gj i64 (bM d.1 d.2.toNat x:Int) (bb i64 (Int.tmod (i64.wrap (d.1.getD (Int.toNat (i64.wrap (d.2+(x:Int)))) (0:Int))) (128:Int)) (i64.wrap ((7:Int)*(x:Int))))+(1:Int)))) (2:Int))<(-1099511627776:Int))=true->((0:Int),(0:Int),false)=aj d.1 d.2)/\(decide (i64.wrap (Int.tdiv (i64.wrap ((0:Int)-i64.wrap (gj i64 (bM d.1 d.2.toNat x:Int) (bb i64 (Int.tmod (i64.wrap (d.1.getD (Int.toNat (i64.wrap (d.2+(x:Int)))) (0:Int))) (128:Int)) (i64.wrap ((7:Int)*(x:Int))))+(1:Int)))) (2:Int))<(-1099511627776:Int))=false->(decide ((1099511627776:Int)<i64.wrap (Int.tdiv (i64.wrap ((0:Int)-i64.wrap (gj i64 (bM d.1 d.2.toNat x:Int) (bb i64 (Int.tmod (i64.wrap (d.1.getD (Int.toNat (i64.wrap (d.2+(x:Int)))) (0:Int))) (128:Int)) (i64.wrap ((7:Int)*(x:Int))))+(1:Int)))) (2:Int)))=true->((0:Int),(0:Int),false)=aj d.1 d.2)/\(decide ((1099511627776:Int)<i64.wrap (Int.tdiv (i64.wrap ((0:Int)-i64.wrap (gj i64 (bM d.1 d.2.toNat x:Int) (bb i64 (Int.tmod (i64.wrap (d.1.getD (Int.toNat (i64.wrap (d.2+(x:Int)))) (0:Int))) (128:Int)) (i64.wrap ((7:Int)*(x:Int))))+(1:Int)))) (2:Int)))=false->(i64.wrap (Int.tdiv (i64.wrap ((0:Int)-i64.wrap (gj i64 (bM d.1 d.2.toNat x:Int) (bb i64 (Int.tmod (i64.wrap (d.1.getD (Int.toNat (i64.wrap (d.2+(x:Int)))) (0:Int))) (128:Int)) (i64.wrap ((7:Int)*(x:Int))))+(1:Int)))) (2:Int)),i64.wrap (i64.wrap (d.2+(x:Int))+(1:Int)),true)=aj d.1 d.2))))/\(decide (i64.wrap (d.1.getD (Int.toNat (i64.wrap (d.2+(x:Int)))) (0:Int))=(0:Int))=false->(decide (i64.wrap (Int.tdiv (i64.wrap ((0:Int)-i64.wrap (gj i64 (bM d.1 d.2.toNat x:Int) (bb i64 (Int.tmod (i64.wrap (d.1.getD (Int.toNat (i64.wrap (d.2+(x:Int)))) (0:Int))) (128:Int)) (i64.wrap ((7:Int)*(x:Int))))+(1:Int)))) (2:Int))<(-1099511627776:Int))=true->((0:Int),(0:Int),false)=aj d.1 d.2)/\(decide (i64.wrap (Int.tdiv (i64.wrap ((0:Int)-i64.wrap (gj i64 (bM d.1 d.2.toNat x:Int) (bb i64 (Int.tmod (i64.wrap (d.1.getD (Int.toNat (i64.wrap (d.2+(x:Int)))) (0:Int))) (128:Int)) (i64.wrap ((7:Int)*(x:Int))))+(1:Int)))) (2:Int))<(-1099511627776:Int))=false->(decide ((1099511627776:Int)<i64.wrap (Int.tdiv (i64.wrap ((0:Int)-i64.wrap (gj i64 (bM d.1 d.2.toNat x:Int) (bb i64 (Int.tmod (i64.wrap (d.1.getD (Int.toNat (i64.wrap (d.2+(x:Int)))) (0:Int))) (128:Int)) (i64.wrap ((7:Int)*(x:Int))))+(1:Int)))) (2:Int)))=true->((0:Int),(0:Int),false)=aj d.1 d.2)/\(decide ((1099511627776:Int)<i64.wrap (Int.tdiv (i64.wrap ((0:Int)-i64.wrap (gj i64 (bM d.1 d.2.toNat x:Int) (bb i64 (Int.tmod (i64.wrap (d.1.getD (Int.toNat (i64.wrap (d.2+(x:Int)))) (0:Int))) (128:Int)) (i64.wrap ((7:Int)*(x:Int))))+(1:Int)))) (2:Int)))=false->(i64.wrap (Int.tdiv (i64.wrap ((0:Int)-i64.wrap (gj i64 (bM d.1 d.2.toNat x:Int) (bb i64 (Int.tmod (i64.wrap (d.1.getD (Int.toNat (i64.wrap (d.2+(x:Int)))) (0:Int))) (128:Int)) (i64.wrap ((7:Int)*(x:Int))))+(1:Int)))) (2:Int)),i64.wrap (i64.wrap (d.2+(x:Int))+(1:Int)),true)=aj d.1 d.2))))/\(decide (Int.tmod (gj i64 (bM d.1 d.2.toNat x:Int) (bb i64 (Int.tmod (i64.wrap (d.1.getD (Int.toNat (i64.wrap (d.2+(x:Int)))) (0:Int))) (128:Int)) (i64.wrap ((7:Int)*(x:Int))))) (2:Int)=(1:Int))=false->(decide (i64.wrap (d.1.getD (Int.toNat (i64.wrap (d.2+(x:Int)))) (0:Int))=(0:Int))=true->(decide ((0:Int)<(x:Int))=true->((0:Int),(0:Int),false)=aj d.1 d.2)/\(decide ((0:Int)<(x:Int))=false->(decide (i64.wrap (Int.tdiv (gj i64 (bM d.1 d.2.toNat x:Int) (bb i64 (Int.tmod (i64.wrap (d.1.getD (Int.toNat (i64.wrap (d.2+(x:Int)))) (0:Int))) (128:Int)) (i64.wrap ((7:Int)*(x:Int))))) (2:Int))<(-1099511627776:Int))=true->((0:Int),(0:Int),false)=aj d.1 d.2)/\(decide (i64.wrap (Int.tdiv (gj i64 (bM d.1 d.2.toNat x:Int) (bb i64 (Int.tmod (i64.wrap (d.1.getD (Int.toNat (i64.wrap (d.2+(x:Int)))) (0:Int))) (128:Int)) (i64.wrap ((7:Int)*(x:Int))))) (2:Int))<(-1099511627776:Int))=false->(decide ((1099511627776:Int)<i64.wrap (Int.tdiv (gj i64 (bM d.1 d.2.toNat x:Int) (bb i64 (Int.tmod (i64.wrap (d.1.getD (Int.toNat (i64.wrap (d.2+(x:Int)))) (0:Int))) (128:Int)) (i64.wrap ((7:Int)*(x:Int))))) (2:Int)))=true->((0:Int),(0:Int),false)=aj d.1 d.2)/\(decide ((1099511627776:Int)<i64.wrap (Int.tdiv (gj i64 (bM d.1 d.2.toNat x:Int) (bb i64 (Int.tmod (i64.wrap (d.1.getD (Int.toNat (i64.wrap (d.2+(x:Int)))) (0:Int))) (128:Int)) (i64.wrap ((7:Int)*(x:Int))))) (2:Int)))=false->(i64.wrap (Int.tdiv (gj i64 (bM d.1 d.2.toNat x:Int) (bb i64 (Int.tmod (i64.wrap (d.1.getD (Int.toNat (i64.wrap (d.2+(x:Int)))) (0:Int))) (128:Int)) (i64.wrap ((7:Int)*(x:Int))))) (2:Int)),i64.wrap (i64.wrap (d.2+(x:Int))+(1:Int)),true)=aj d.1 d.2))))/\(decide (i64.wrap (d.1.getD (Int.toNat (i64.wrap (d.2+(x:Int)))) (0:Int))=(0:Int))=false->(decide (i64.wrap (Int.tdiv (gj i64 (bM d.1 d.2.toNat x:Int) (bb i64 (Int.tmod (i64.wrap (d.1.getD (Int.toNat (i64.wrap (d.2+(x:Int)))) (0:Int))) (128:Int)) (i64.wrap ((7:Int)*(x:Int))))) (2:Int))<(-1099511627776:Int))=true->((0:Int),(0:Int),false)=aj d.1 d.2)/\(decide (i64.wrap (Int.tdiv (gj i64 (bM d.1 d.2.toNat x:Int) (bb i64 (Int.tmod (i64.wrap (d.1.getD (Int.toNat (i64.wrap (d.2+(x:Int)))) (0:Int))) (128:Int)) (i64.wrap ((7:Int)*(x:Int))))) (2:Int))<(-1099511627776:Int))=false->(decide ((1099511627776:Int)<i64.wrap (Int.tdiv (gj i64 (bM d.1 d.2.toNat x:Int) (bb i64 (Int.tmod (i64.wrap (d.1.getD (Int.toNat (i64.wrap (d.2+(x:Int)))) (0:Int))) (128:Int)) (i64.wrap ((7:Int)*(x:Int))))) (2:Int)))=true->((0:Int),(0:Int),false)=aj d.1 d.2)/\(decide ((1099511627776:Int)<i64.wrap (Int.tdiv (gj i64 (bM d.1 d.2.toNat x:Int) (bb i64 (Int.tmod (i64.wrap (d.1.getD (Int.toNat (i64.wrap (d.2+(x:Int)))) (0:Int))) (128:Int)) (i64.wrap ((7:Int)*(x:Int))))) (2:Int)))=false->(i64.wrap (Int.tdiv (gj i64 (bM d.1 d.2.toNat x:Int) (bb i64 (Int.tmod (i64.wrap (d.1.getD (Int.toNat (i64.wrap (d.2+(x:Int)))) (0:Int))) (128:Int)) (i64.wrap ((7:Int)*(x:Int))))) (2:Int)),i64.wrap (i64.wrap (d.2+(x:Int))+(1:Int)),true)=aj d.1 d.2))))))/\(decide (i64.wrap (d.2+(x:Int))<(d.1.length:Int))=false->((0:Int),(0:Int),false)=aj d.1 d.2))/\(decide ((x:Int)<(7:Int))=false->((0:Int),(0:Int),false)=aj d.1 d.2)):=by
  intro d hw hp
  obtain⟨ie,uG⟩:=hp
  simp only[exists_const,forall_const,decide_eq_true_eq,decide_eq_false_iff_not,beq_iff_eq,sxS]
  have MP:∀ h:d.2<0,(0,0,false)=aj d.1 d.2:=fun h=>by unfold aj;rw[if_pos h]
  refine⟨MP,fun hn=>⟨⟨by omega,by omega,rfl,fun j hj=>by omega⟩,⟨rfl,rfl⟩,fun x hx=>?_⟩⟩
  obtain⟨h0,h7,hg,kn⟩:=hx
  have hT:aj d.1 d.2=n6 d.1 d.2.toNat (7-x) x:=by unfold aj;rw[if_neg hn];exact hg.symm
  have e1:i64.wrap (d.2+(x:Int))=((d.2.toNat+x:Nat):Int):=by rw[wrap_small (by omega)];omega
  have KE:=zQ hw.1 (d.2.toNat+x)
  have e2:i64.wrap (d.1.getD (d.2.toNat+x) 0)=d.1.getD (d.2.toNat+x) 0:=wrap_small (by omega)
  have e4:i64.wrap ((x:Int)+1)=((x+1:Nat):Int):=by rw[wrap_small (by omega)];rfl
  have e5:i64.wrap (((d.2.toNat+x:Nat):Int)+1)=((d.2.toNat+x+1:Nat):Int):=by rw[wrap_small (by omega)];rfl
  rw[hT]
  simp only[e1,Int.toNat_natCast,e2,e4,e5]
  refine⟨fun aK=>?_,fun dU=>?_⟩
  ·obtain⟨q,hq⟩:∃ q,7-x=q+1:=⟨6-x,by omega⟩
   have Qx:7-(x+1)=q:=by omega
   have e7:i64.wrap (7*(x:Int))=((7*x:Nat):Int):=by rw[wrap_small (by omega)];omega
   have e8:(d.1.getD (d.2.toNat+x) 0).tmod 128=(((d.1.getD (d.2.toNat+x) 0).toNat%128:Nat):Int):=by rw[Int.tmod_eq_emod_of_nonneg KE.1];omega
   have e9:gj i64 (bM d.1 d.2.toNat x:Int) (bb i64 ((d.1.getD (d.2.toNat+x) 0).tmod 128) (i64.wrap (7*(x:Int))))=(bM d.1 d.2.toNat (x+1):Int):=by
    rw[e7,e8,LX (Nat.mod_lt _ (by omega)) (by omega),RI (yk _ _ _) (Nat.mod_lt _ (by omega)) (by omega)]
    rfl
   have hu:=yk d.1 d.2.toNat (x+1)
   have T3:=Ed (k:=x+1) (by omega)
   simp only[e9]
   have hS:=zq d.1 d.2.toNat q x
   rw[<-hq] at hS
   have ID:128<=d.1.getD (d.2.toNat+x) 0->d.2.toNat+x<d.1.length->vU d (x+1):=fun h1 h2=>by
    rw[if_pos h2,if_pos h1] at hS
    exact⟨h0,by omega,by rw[Qx,<-hS];exact hg,fun j hj=>by
     by_cases NU:j=x
     ·rw[NU];exact⟨h2,h1⟩
     ·exact kn j (by omega)⟩
   generalize Dx:bM d.1 d.2.toNat (x+1)=u at *
   generalize d.1.getD (d.2.toNat+x) 0=c at *
   have f1:d.2.toNat+x<d.1.length->¬128<=c->((c=0/\0<x)\/¬ch (lX u))->((0,0,false):CP)=n6 d.1 d.2.toNat (7-x) x:=fun h1 h2 h3=>by rw[hS,if_pos h1,if_neg h2,if_pos h3]
   have f2:d.2.toNat+x<d.1.length->¬128<=c->¬((c=0/\0<x)\/¬ch (lX u))->(lX u,((d.2.toNat+x+1:Nat):Int),true)=n6 d.1 d.2.toNat (7-x) x:=fun h1 h2 h3=>by rw[hS,if_pos h1,if_neg h2,if_neg h3]
   have f3:¬d.2.toNat+x<d.1.length->((0,0,false):CP)=n6 d.1 d.2.toNat (7-x) x:=fun h1=>by rw[hS,if_neg h1]
   refine⟨fun hlen=>⟨⟨by omega,hlen⟩,by omega,by rw[e7];omega,fun hc=>⟨x+1,ID hc (by omega),by omega,by rw[Dx],rfl⟩,fun hc=>⟨by omega,by omega,fun ho=>?_,fun he=>?_⟩⟩,fun hlen=>f3 (by omega)⟩
   ·rw[(H9 (by omega) ho).1]
    have hl:d.2.toNat+x<d.1.length:=by omega
    repeat' (first
     | exact f1 hl hc (by unfold ch;omega)
     | exact f2 hl hc (by unfold ch;omega)
     | omega
     | with_reducible apply And.intro
     | intro _)
   ·rw[Ff (by omega) he]
    have hl:d.2.toNat+x<d.1.length:=by omega
    repeat' (first
     | exact f1 hl hc (by unfold ch;omega)
     | exact f2 hl hc (by unfold ch;omega)
     | omega
     | with_reducible apply And.intro
     | intro _)
  ·have:7-x=0:=by omega
   rw[this];rfl
theorem Ro(u:Nat):lY (lX u)=u:=by
 unfold lX lY
 split<;>rename_i h<;>split<;>omega
theorem C_(b:List Int):∀(k p:Nat),bM b p (k+1)=(b.getD p 0).toNat%128+128*bM b (p+1) k
 | 0,p=>by simp[bM]
 | k+1,p=>by
   rw[bM,C_ b k p,bM,show p+1+k=p+(k+1) by omega,Nat.pow_succ,Nat.mul_add]
   generalize (b.getD (p+(k+1)) 0).toNat%128=q
   have:128*(q*128^k)=q*(128^k*128):=by rw[Nat.mul_left_comm,Nat.mul_comm 128]
   omega
theorem canon{b:List Int}(hb:∀ i,0<=b.getD i 0/\b.getD i 0<=255):∀(x p:Nat),p+x<b.length->(∀ j,j<x->128<=b.getD (p+j) 0)->¬128<=b.getD (p+x) 0->(b.getD (p+x) 0≠0\/x=0)->e7 (bM b p (x+1))=(b.drop p).take (x+1)
 | 0,p,hl,_,hc,_=>by
   have hc:¬128<=b.getD p 0:=hc
   have h1:=(hb p).1
   have e:bM b p (0+1)=(b.getD p 0).toNat:=by rw[C_,show bM b (p+1) 0=0 from rfl];omega
   rw[e,Ct (by omega),jv (by omega:p<b.length),List.take_succ_cons,List.take_zero]
   congr 1
   show ((b.getD p 0).toNat:Int)=b.getD p 0
   omega
 | x+1,p,hl,hj,hc,hz=>by
   have h0:=hj 0 (by omega)
   rw[Nat.add_zero] at h0
   have h1:=(hb p).2
   have hz:b.getD (p+(x+1)) 0≠0:=by rcases hz with hz|hz;exact hz;omega
   have ih:=canon hb x (p+1) (by omega) (fun j NU=>by rw[show p+1+j=p+(j+1) by omega];exact hj (j+1) (by omega)) (by rw[show p+1+x=p+(x+1) by omega];exact hc) (.inl (by rw[show p+1+x=p+(x+1) by omega];exact hz))
   have hu:1<=bM b (p+1) (x+1):=by
    rw[bM,show p+1+x=p+(x+1) by omega]
    have h2:=hb (p+(x+1))
    have h3:1<=(b.getD (p+(x+1)) 0).toNat%128:=by omega
    have:=Nat.mul_le_mul h3 (Nat.pow_pos (a:=128) (n:=x) (by omega))
    omega
   rw[C_ b (x+1) p,Iv (by omega),show ((b.getD p 0).toNat%128+128*bM b (p+1) (x+1))/128=bM b (p+1) (x+1) by omega,ih,jv (by omega:p<b.length),List.take_succ_cons]
   congr 1
   show ((((b.getD p 0).toNat%128+128*bM b (p+1) (x+1))%128+128:Nat):Int)=b.getD p 0
   omega
theorem Ke{b:List Int}(hb:∀ i,0<=b.getD i 0/\b.getD i 0<=255){x p:Nat}(hl:p+x<b.length)(hj:∀ j,j<x->128<=b.getD (p+j) 0)(hc:¬128<=b.getD (p+x) 0) :
 jO (lX (bM b p (x+1)))=(b.take (p+x+1)).drop p↔¬((b.getD (p+x) 0=0/\0<x)\/¬ch (lX (bM b p (x+1)))):=by
 have hlen:((b.drop p).take (x+1)).length=x+1:=by rw[List.length_take,List.length_drop];omega
 rw[List.drop_take,show p+x+1-p=x+1 by omega]
 unfold jO
 by_cases hW:ch (lX (bM b p (x+1)))
 ·rw[if_pos hW,Ro]
  constructor
  ·intro h hh
   rcases hh with ⟨hh,hx⟩|hh
   ·obtain⟨y,rfl⟩:∃ y,x=y+1:=⟨x-1,by omega⟩
    have hd:bM b p (y+1+1)<128^(y+1):=by
     have:=yk b p (y+1)
     rw[bM,hh]
     simpa using this
    have:=(Df y _ hd).2
    rw[h,hlen] at this
    omega
   ·exact hh hW
  ·intro h
   exact canon hb x p hl hj hc (by
    by_cases hx:x=0
    ·exact .inr hx
    ·exact .inl (fun e=>h (.inl ⟨e,by omega⟩)))
 ·rw[if_neg hW]
  constructor
  ·intro h;rw[<-h] at hlen;cases hlen
  ·intro h;exact absurd (.inr hW) h
theorem Pn{b:List Int}(hb:∀ i,0<=b.getD i 0/\b.getD i 0<=255)(p:Nat):n6 b p 1 6=(0,0,false):=by
 rw[zq]
 split
 ·split
  ·rfl
  ·rename_i hc
   rw[if_pos]
   by_cases h0:b.getD (p+6) 0=0
   ·exact .inl ⟨h0,by omega⟩
   ·refine .inr (fun hW=>?_)
    have h1:=(hb (p+6)).1
    have e:bM b p (6+1)=bM b p 6+(b.getD (p+6) 0).toNat%128*128^6:=rfl
    have h3:1*128^6<=(b.getD (p+6) 0).toNat%128*128^6:=Nat.mul_le_mul_right _ (by omega)
    unfold ch lX at hW
    split at hW<;>omega
 ·rfl
theorem AD :
 ∀(d:List Int×Int),Ty.wf bG d.1/\Ty.wf ah d.2->jL d.1 d.2->(decide (d.2<(0:Int))=true->((0:Int),(0:Int),false)=aj d.1 d.2)/\(decide (d.2<(0:Int))=false->(decide ((d.1.length:Int)<=d.2)=true->((0:Int),(0:Int),false)=aj d.1 d.2)/\(decide ((d.1.length:Int)<=d.2)=false->(vU d (0:Nat)/\(0:Nat)<=(6:Nat))/\(d.1=d.1/\d.2=d.2/\(0:Int)=(↑(bM d.1 d.2.toNat (0:Nat)):Int)/\(0:Int)=(↑(0:Nat):Int))/\∀(x:Nat),vU d x/\x<=(6:Nat)->(decide ((x:Int)<(6:Int))=true->(decide ((x:Int)<i64.wrap ((d.1.length:Int)-d.2))=true->((0:Int)<=i64.wrap (d.2+(x:Int))/\i64.wrap (d.2+(x:Int))<(d.1.length:Int))/\(128:Int)≠(0:Int)/\(0:Int)<=IntKind.wrap IntKind.u64 (i64.wrap ((7:Int)*(x:Int)))/\(decide ((128:Int)<=i64.wrap (d.1.getD (Int.toNat (i64.wrap (d.2+(x:Int)))) (0:Int)))=true->∃(x':Nat),(vU d x'/\x'<=(6:Nat))/\(7:Nat)-x'<(7:Nat)-x/\d.1=d.1/\d.2=d.2/\i64.wrap ((bM d.1 d.2.toNat x:Int)+bb i64 (Int.tmod (i64.wrap (d.1.getD (Int.toNat (i64.wrap (d.2+(x:Int)))) (0:Int))) (128:Int)) (IntKind.wrap IntKind.u64 (i64.wrap ((7:Int)*(x:Int)))))=(bM d.1 d.2.toNat x':Int)/\i64.wrap ((x:Int)+(1:Int))=(x':Int))/\(decide ((128:Int)<=i64.wrap (d.1.getD (Int.toNat (i64.wrap (d.2+(x:Int)))) (0:Int)))=false->(2:Int)≠(0:Int)/\(2:Int)≠(0:Int)/\(decide (Int.tmod (i64.wrap ((bM d.1 d.2.toNat x:Int)+bb i64 (Int.tmod (i64.wrap (d.1.getD (Int.toNat (i64.wrap (d.2+(x:Int)))) (0:Int))) (128:Int)) (IntKind.wrap IntKind.u64 (i64.wrap ((7:Int)*(x:Int)))))) (2:Int)=(1:Int))=true->True/\((0:Int)<=d.2/\d.2<=i64.wrap (i64.wrap (d.2+(x:Int))+(1:Int))/\i64.wrap (i64.wrap (d.2+(x:Int))+(1:Int))<=(d.1.length:Int))/\True/\(Ty.wf bG (jO (i64.wrap (i64.wrap ((0:Int)-i64.wrap (Int.tdiv (i64.wrap ((bM d.1 d.2.toNat x:Int)+bb i64 (Int.tmod (i64.wrap (d.1.getD (Int.toNat (i64.wrap (d.2+(x:Int)))) (0:Int))) (128:Int)) (IntKind.wrap IntKind.u64 (i64.wrap ((7:Int)*(x:Int)))))) (2:Int)))-(1:Int))))->((!decide (jO (i64.wrap (i64.wrap ((0:Int)-i64.wrap (Int.tdiv (i64.wrap ((bM d.1 d.2.toNat x:Int)+bb i64 (Int.tmod (i64.wrap (d.1.getD (Int.toNat (i64.wrap (d.2+(x:Int)))) (0:Int))) (128:Int)) (IntKind.wrap IntKind.u64 (i64.wrap ((7:Int)*(x:Int)))))) (2:Int)))-(1:Int)))=List.drop d.2.toNat (List.take (Int.toNat (i64.wrap (i64.wrap (d.2+(x:Int))+(1:Int)))) d.1)))=true->((0:Int),(0:Int),false)=aj d.1 d.2)/\((!decide (jO (i64.wrap (i64.wrap ((0:Int)-i64.wrap (Int.tdiv (i64.wrap ((bM d.1 d.2.toNat x:Int)+bb i64 (Int.tmod (i64.wrap (d.1.getD (Int.toNat (i64.wrap (d.2+(x:Int)))) (0:Int))) (128:Int)) (IntKind.wrap IntKind.u64 (i64.wrap ((7:Int)*(x:Int)))))) (2:Int)))-(1:Int)))=List.drop d.2.toNat (List.take (Int.toNat (i64.wrap (i64.wrap (d.2+(x:Int))+(1:Int)))) d.1)))=false->(i64.wrap (i64.wrap ((0:Int)-i64.wrap (Int.tdiv (i64.wrap ((bM d.1 d.2.toNat x:Int)+bb i64 (Int.tmod (i64.wrap (d.1.getD (Int.toNat (i64.wrap (d.2+(x:Int)))) (0:Int))) (128:Int)) (IntKind.wrap IntKind.u64 (i64.wrap ((7:Int)*(x:Int)))))) (2:Int)))-(1:Int)),i64.wrap (i64.wrap (d.2+(x:Int))+(1:Int)),true)=aj d.1 d.2)))/\(decide (Int.tmod (i64.wrap ((bM d.1 d.2.toNat x:Int)+bb i64 (Int.tmod (i64.wrap (d.1.getD (Int.toNat (i64.wrap (d.2+(x:Int)))) (0:Int))) (128:Int)) (IntKind.wrap IntKind.u64 (i64.wrap ((7:Int)*(x:Int)))))) (2:Int)=(1:Int))=false->True/\((0:Int)<=d.2/\d.2<=i64.wrap (i64.wrap (d.2+(x:Int))+(1:Int))/\i64.wrap (i64.wrap (d.2+(x:Int))+(1:Int))<=(d.1.length:Int))/\True/\(Ty.wf bG (jO (i64.wrap (Int.tdiv (i64.wrap ((bM d.1 d.2.toNat x:Int)+bb i64 (Int.tmod (i64.wrap (d.1.getD (Int.toNat (i64.wrap (d.2+(x:Int)))) (0:Int))) (128:Int)) (IntKind.wrap IntKind.u64 (i64.wrap ((7:Int)*(x:Int)))))) (2:Int))))->((!decide (jO (i64.wrap (Int.tdiv (i64.wrap ((bM d.1 d.2.toNat x:Int)+bb i64 (Int.tmod (i64.wrap (d.1.getD (Int.toNat (i64.wrap (d.2+(x:Int)))) (0:Int))) (128:Int)) (IntKind.wrap IntKind.u64 (i64.wrap ((7:Int)*(x:Int)))))) (2:Int)))=List.drop d.2.toNat (List.take (Int.toNat (i64.wrap (i64.wrap (d.2+(x:Int))+(1:Int)))) d.1)))=true->((0:Int),(0:Int),false)=aj d.1 d.2)/\((!decide (jO (i64.wrap (Int.tdiv (i64.wrap ((bM d.1 d.2.toNat x:Int)+bb i64 (Int.tmod (i64.wrap (d.1.getD (Int.toNat (i64.wrap (d.2+(x:Int)))) (0:Int))) (128:Int)) (IntKind.wrap IntKind.u64 (i64.wrap ((7:Int)*(x:Int)))))) (2:Int)))=List.drop d.2.toNat (List.take (Int.toNat (i64.wrap (i64.wrap (d.2+(x:Int))+(1:Int)))) d.1)))=false->(i64.wrap (Int.tdiv (i64.wrap ((bM d.1 d.2.toNat x:Int)+bb i64 (Int.tmod (i64.wrap (d.1.getD (Int.toNat (i64.wrap (d.2+(x:Int)))) (0:Int))) (128:Int)) (IntKind.wrap IntKind.u64 (i64.wrap ((7:Int)*(x:Int)))))) (2:Int)),i64.wrap (i64.wrap (d.2+(x:Int))+(1:Int)),true)=aj d.1 d.2)))))/\(decide ((x:Int)<i64.wrap ((d.1.length:Int)-d.2))=false->((0:Int),(0:Int),false)=aj d.1 d.2))/\(decide ((x:Int)<(6:Int))=false->((0:Int),(0:Int),false)=aj d.1 d.2))):=by
  intro d hw hp
  obtain⟨ie,uG⟩:=hp
  simp only[exists_const,forall_const,decide_eq_true_eq,decide_eq_false_iff_not,beq_iff_eq,sxS]
  have hb:=zQ hw.1
  have MP:∀ h:d.2<0,(0,0,false)=aj d.1 d.2:=fun h=>by unfold aj;rw[if_pos h]
  have S1:∀ h:(d.1.length:Int)<=d.2,(0,0,false)=aj d.1 d.2:=fun h=>by
   unfold aj
   rw[if_neg (by omega),zq,if_neg (by omega)]
  refine⟨MP,fun hn=>⟨S1,fun Hy=>⟨⟨⟨by omega,by omega,rfl,fun j hj=>by omega⟩,by omega⟩,⟨rfl,rfl⟩,fun x hx=>?_⟩⟩⟩
  obtain⟨⟨h0,h7,hg,kn⟩,h6⟩:=hx
  have hT:aj d.1 d.2=n6 d.1 d.2.toNat (7-x) x:=by unfold aj;rw[if_neg hn];exact hg.symm
  have e0:i64.wrap ((d.1.length:Int)-d.2)=((d.1.length-d.2.toNat:Nat):Int):=by rw[wrap_small (by omega)];omega
  have e1:i64.wrap (d.2+(x:Int))=((d.2.toNat+x:Nat):Int):=by rw[wrap_small (by omega)];omega
  have KE:=hb (d.2.toNat+x)
  have e2:i64.wrap (d.1.getD (d.2.toNat+x) 0)=d.1.getD (d.2.toNat+x) 0:=wrap_small (by omega)
  have e4:i64.wrap ((x:Int)+1)=((x+1:Nat):Int):=by rw[wrap_small (by omega)];rfl
  have e5:i64.wrap (((d.2.toNat+x:Nat):Int)+1)=((d.2.toNat+x+1:Nat):Int):=by rw[wrap_small (by omega)];rfl
  rw[hT]
  simp only[e0,e1,Int.toNat_natCast,e2,e4,e5]
  obtain⟨q,hq⟩:∃ q,7-x=q+1:=⟨6-x,by omega⟩
  have Qx:7-(x+1)=q:=by omega
  have hS:=zq d.1 d.2.toNat q x
  rw[<-hq] at hS
  have f3:¬d.2.toNat+x<d.1.length->((0,0,false):CP)=n6 d.1 d.2.toNat (7-x) x:=fun h1=>by rw[hS,if_neg h1]
  refine⟨fun aK=>⟨fun hlen=>?_,fun hlen=>f3 (by omega)⟩,fun dU=>?_⟩
  ·have hl:d.2.toNat+x<d.1.length:=by omega
   have e7:IntKind.u64.wrap (i64.wrap (7*(x:Int)))=((7*x:Nat):Int):=by
    rw[show i64.wrap (7*(x:Int))=((7*x:Nat):Int) by rw[wrap_small (by omega)];omega]
    unfold IntKind.wrap
    simp[IntKind.signed,IntKind.bits]
    omega
   have e8:(d.1.getD (d.2.toNat+x) 0).tmod 128=(((d.1.getD (d.2.toNat+x) 0).toNat%128:Nat):Int):=by rw[Int.tmod_eq_emod_of_nonneg KE.1];omega
   have hu:=yk d.1 d.2.toNat (x+1)
   have T3:=Ed (k:=x+1) (by omega)
   have e9:i64.wrap ((bM d.1 d.2.toNat x:Int)+bb i64 ((d.1.getD (d.2.toNat+x) 0).tmod 128) (IntKind.u64.wrap (i64.wrap (7*(x:Int)))))=(bM d.1 d.2.toNat (x+1):Int):=by
    rw[e7,e8,LX (Nat.mod_lt _ (by omega)) (by omega)]
    have:(bM d.1 d.2.toNat x:Int)+(((d.1.getD (d.2.toNat+x) 0).toNat%128*128^x:Nat):Int)=(bM d.1 d.2.toNat (x+1):Int):=by rw[bM];omega
    rw[this,wrap_small (by omega)]
   simp only[e9]
   have ID:128<=d.1.getD (d.2.toNat+x) 0->vU d (x+1):=fun h1=>by
    rw[if_pos hl,if_pos h1] at hS
    exact⟨h0,by omega,by rw[Qx,<-hS];exact hg,fun j hj=>by
     by_cases NU:j=x
     ·rw[NU];exact⟨hl,h1⟩
     ·exact kn j (by omega)⟩
   have uB:=Ke hb hl (fun j hj=>(kn j hj).2)
   refine⟨⟨by omega,by omega⟩,by omega,by rw[e7];omega,fun hc=>⟨x+1,⟨ID hc,by omega⟩,by omega,rfl,rfl⟩,fun hc=>⟨by omega,by omega,fun ho=>?_,fun he=>?_⟩⟩
   ·rw[(H9 (by omega) ho).2]
    have uB:=uB hc
    refine⟨⟨h0,by omega,by omega⟩,fun _=>⟨fun bo=>?_,fun heq=>?_⟩⟩
    ·have:=Classical.not_not.1 (fun h=>bo (uB.2 h))
     rw[hS,if_pos hl,if_neg hc,if_pos this]
    ·have:=uB.1 heq
     rw[hS,if_pos hl,if_neg hc,if_neg this]
   ·rw[Ff (by omega) he]
    have uB:=uB hc
    refine⟨⟨h0,by omega,by omega⟩,fun _=>⟨fun bo=>?_,fun heq=>?_⟩⟩
    ·have:=Classical.not_not.1 (fun h=>bo (uB.2 h))
     rw[hS,if_pos hl,if_neg hc,if_pos this]
    ·have:=uB.1 heq
     rw[hS,if_pos hl,if_neg hc,if_neg this]
  ·have:x=6:=by omega
   subst this
   exact (Pn hb _).symm
theorem L6(b:List Int)(p:Nat):∀ f k,(n6 b p f k).2.1<=b.length/\0<=(n6 b p f k).2.1
 | 0,k=>by simp[n6]
 | f+1,k=>by
   rw[zq]
   split
   ·split
    ·exact L6 b p f (k+1)
    ·split
     ·simp
     ·simp only;omega
   ·simp
theorem kJ(b:List Int)(p:Int):(aj b p).2.1<=b.length/\0<=(aj b p).2.1:=by
 unfold aj
 split
 ·simp
 ·exact L6 b _ _ _
theorem CL(b:List Int)(n:Nat)(p:Int):ji b (n+1) p=if (aj b p).2.2=true then (if (ji b n (aj b p).2.1).2.2=true then ((aj b p).1::(ji b n (aj b p).2.1).1,(ji b n (aj b p).2.1).2.1,true) else ([],0,false)) else ([],0,false):=rfl
theorem L8(b:List Int):∀(n:Nat) (p:Int),p<=b.length->(ji b n p).2.1<=b.length
 | 0,p,h=>h
 | n+1,p,h=>by
   rw[CL]
   split
   ·split
    ·exact L8 b n _ (kJ b p).1
    ·simp
   ·simp
theorem Rj(b:List Int)(p:Int):(bO b p).2.1<=b.length:=by
 unfold bO
 split
 ·exact L8 b _ _ (kJ b p).1
 ·simp
theorem xy{m:CP}:fO m=true↔m.2.2=true/\0<=m.1/\m.1<=400:=by
 unfold fO
 simp only[Bool.and_eq_true,decide_eq_true_eq]
theorem Fb{b:List Int}{p:Int}(h:fO (aj b p)=false):bO b p=([],0,false):=by unfold bO;rw[if_neg (by rw[h];decide)]
theorem L7{b:List Int}{p:Int}(h:fO (aj b p)=true):bO b p=ji b (aj b p).1.toNat (aj b p).2.1:=by unfold bO;rw[if_pos h]
theorem CX(r:J5)(h:r.2.2=false->r=([],0,false)):kP [] r=r:=by
 unfold kP
 split
 ·rename_i e;obtain⟨a,c,d⟩:=r;simp only at e;rw[e];rfl
 ·rename_i e;exact (h (by simpa using e)).symm
theorem L9(b:List Int):∀(n:Nat) (p:Int),(ji b n p).2.2=false->ji b n p=([],0,false)
 | 0,p,h=>by cases h
 | n+1,p,h=>by
   rw[CL] at h ⊢
   split at h
   ·rename_i e
    rw[if_pos e]
    split at h
    ·cases h
    ·rename_i e2;rw[if_neg e2]
   ·rename_i e;rw[if_neg e]
theorem J_{b:List Int}{l:List Int}{n:Nat}{p:Int}(h:(aj b p).2.2=true):kP (l++[(aj b p).1]) (ji b n (aj b p).2.1)=kP l (ji b (n+1) p):=by
 rw[CL,if_pos h]
 unfold kP
 by_cases e:(ji b n (aj b p).2.1).2.2=true
 ·rw[if_pos e,if_pos e,if_pos rfl];simp
 ·rw[if_neg e,if_neg e,if_neg (by decide)]
theorem J9{b:List Int}{l:List Int}{n:Nat}{p:Int}(h:(aj b p).2.2=false):kP l (ji b (n+1) p)=([],0,false):=by
 rw[CL,if_neg (by rw[h];decide)]
 unfold kP
 rw[if_neg (by decide)]
theorem zG :
 ∀(d:List Int×Int),Ty.wf bG d.1/\Ty.wf ah d.2->jL d.1 d.2->jL d.1 d.2/\(Ty.wf ah (aj d.1 d.2).1/\Ty.wf ah (aj d.1 d.2).2.1/\Ty.wf Ty.bool (aj d.1 d.2).2.2->((!(aj d.1 d.2).2.2)=true->([],(0:Int),false)=bO d.1 d.2)/\((!(aj d.1 d.2).2.2)=false->True/\((!(decide ((0:Int)<=(aj d.1 d.2).1)&&decide (Prod.fst (aj d.1 d.2)<=(400:Int))))=true->([],(0:Int),false)=bO d.1 d.2)/\((!(decide ((0:Int)<=(aj d.1 d.2).1)&&decide (Prod.fst (aj d.1 d.2)<=(400:Int))))=false->Ny d ((0:Nat),(aj d.1 d.2).2.1,[])/\((d.1=d.1/\ae ((aj d.1 d.2).2.1)/\ae ((aj d.1 d.2).1)/\(0:Int)=(↑(0:Nat):Int))/\([]:List Int)=[])/\∀(x:Nat×Int×List Int),Ny d x->(decide ((x.1:Int)<(aj d.1 d.2).1)=true->jL d.1 x.2.1/\(Ty.wf ah (aj d.1 x.2.1).1/\Ty.wf ah (aj d.1 x.2.1).2.1/\Ty.wf Ty.bool (aj d.1 x.2.1).2.2->((!(aj d.1 x.2.1).2.2)=true->([],(0:Int),false)=bO d.1 d.2)/\((!(aj d.1 x.2.1).2.2)=false->(x.2.2.length+List.length [(aj d.1 x.2.1).1])*(8:Nat)<=(140737488355328:Nat)/\∃(x':Nat×Int×List Int),Ny d x'/\Int.toNat (aj d.1 d.2).1-x'.1<Int.toNat (aj d.1 d.2).1-x.1/\(d.1=d.1/\(aj d.1 x.2.1).2.1=x'.2.1/\ae ((aj d.1 d.2).1)/\i64.wrap ((x.1:Int)+(1:Int))=(x'.1:Int))/\x.2.2++[(aj d.1 x.2.1).1]=x'.2.2)))/\(decide ((x.1:Int)<(aj d.1 d.2).1)=false->(x.2.2,x.2.1,true)=bO d.1 d.2)))):=by
  intro d hw hp
  obtain⟨ie,uG⟩:=hp
  simp only[exists_const,forall_const,decide_eq_true_eq,decide_eq_false_iff_not,beq_iff_eq,sxS]
  refine⟨⟨ie,uG⟩,fun _=>⟨fun h=>?_,fun h=>⟨fun h1=>?_,fun h1=>?_⟩⟩⟩
  ·rw[Fb];unfold fO;rw[h];rfl
  ·rw[Fb]
   unfold fO
   rw[h,Bool.true_and,decide_eq_false_iff_not]
   intro h2
   simp[h2] at h1
  ·simp only[Bool.and_eq_true,decide_eq_true_eq] at h1
   have hm:fO (aj d.1 d.2)=true:=xy.2 ⟨h,h1⟩
   have hl:=kJ d.1 d.2
   refine⟨⟨hm,by simp;omega,rfl,by show (aj d.1 d.2).2.1<=_;omega,?_⟩,rfl,fun x hx=>⟨fun aK=>?_,fun dU=>?_⟩⟩
   ·rw[L7 hm,Nat.sub_zero]
    exact CX _ (L9 _ _ _)
   ·obtain⟨x1,x2,x3,x4,x5⟩:=hx
    have na:=kJ d.1 x.2.1
    obtain⟨q,hq⟩:∃ q,(aj d.1 d.2).1.toNat-x.1=q+1:=⟨(aj d.1 d.2).1.toNat-x.1-1,by omega⟩
    rw[hq] at x5
    refine⟨⟨ie,by omega⟩,fun _=>⟨fun h2=>?_,fun h2=>⟨by rw[List.length_singleton];omega,(x.1+1,(aj d.1 x.2.1).2.1,x.2.2++[(aj d.1 x.2.1).1]),⟨hm,?_,?_,?_,?_⟩,?_,⟨rfl,?_⟩,rfl⟩⟩⟩
    ·rw[<-x5,J9 h2]
    ·show ((x.1+1:Nat):Int)<=_;omega
    ·show (x.2.2++[_]).length=x.1+1;rw[List.length_append,List.length_singleton,x3]
    ·show (aj d.1 x.2.1).2.1<=_;omega
    ·show kP (x.2.2++[(aj d.1 x.2.1).1]) (ji d.1 ((aj d.1 d.2).1.toNat-(x.1+1)) (aj d.1 x.2.1).2.1)=_
     rw[show (aj d.1 d.2).1.toNat-(x.1+1)=q by omega,J_ h2];exact x5
    ·show (aj d.1 d.2).1.toNat-(x.1+1)<_;omega
    ·show i64.wrap ((x.1:Int)+1)=((x.1+1:Nat):Int);rw[wrap_small (by omega)];rfl
   ·obtain⟨x1,x2,x3,x4,x5⟩:=hx
    rw[show (aj d.1 d.2).1.toNat-x.1=0 by omega] at x5
    rw[<-x5]
    simp[kP,ji]
theorem pM{b:List Int}(hw:Ty.wf bG b)(i:Nat):i64.wrap (b.getD i 0)=b.getD i 0:=by
 have:=zQ hw i
 exact wrap_small (by omega)
theorem It{b:List Int}(h:b.length<2\/(aj b 2).2.2=false):bZ b=(wH,false):=by unfold bZ;rw[if_pos h]
theorem PN{b:List Int}(h:¬(b.length<2\/(aj b 2).2.2=false))(h1:(bO b (aj b 2).2.1).2.2=false):bZ b=(wH,false):=by unfold bZ;rw[if_neg h,if_pos h1]
theorem PO{b:List Int}(h:¬(b.length<2\/(aj b 2).2.2=false))(h1:¬(bO b (aj b 2).2.1).2.2=false)(h2:(bO b (bO b (aj b 2).2.1).2.1).2.2=false):bZ b=(wH,false):=by unfold bZ;rw[if_neg h,if_neg h1,if_pos h2]
theorem PQ{b:List Int}(h:¬(b.length<2\/(aj b 2).2.2=false))(h1:¬(bO b (aj b 2).2.1).2.2=false)(h2:¬(bO b (bO b (aj b 2).2.1).2.1).2.2=false):bZ b=if (bO b (bO b (aj b 2).2.1).2.1).2.1=(b.length:Int)/\aF (Bg b (bO b (aj b 2).2.1).1 (bO b (bO b (aj b 2).2.1).2.1).1)=true then (Bg b (bO b (aj b 2).2.1).1 (bO b (bO b (aj b 2).2.1).2.1).1,true) else (wH,false):=by unfold bZ;rw[if_neg h,if_neg h1,if_neg h2]
theorem Cj :
 ∀(d:List Int),Ty.wf bG d->d.length<=(1048576:Nat)->(decide ((d.length:Int)<(2:Int))=true->(((0:Int),(0:Int),[],[],(0:Int)),false)=bZ d)/\(decide ((d.length:Int)<(2:Int))=false->((0:Int)<=(0:Int)/\(0:Int)<(d.length:Int))/\((0:Int)<=(1:Int)/\(1:Int)<(d.length:Int))/\jL d (2:Int)/\(Ty.wf ah (aj d (2:Int)).1/\Ty.wf ah (aj d (2:Int)).2.1/\Ty.wf Ty.bool (aj d (2:Int)).2.2->((!(aj d (2:Int)).2.2)=true->(((0:Int),(0:Int),[],[],(0:Int)),false)=bZ d)/\((!(aj d (2:Int)).2.2)=false->jL d (aj d (2:Int)).2.1/\(Ty.wf ai (bO d (aj d (2:Int)).2.1).1/\Ty.wf ah (bO d (aj d (2:Int)).2.1).2.1/\Ty.wf Ty.bool (bO d (aj d (2:Int)).2.1).2.2->((!(bO d (aj d (2:Int)).2.1).2.2)=true->(((0:Int),(0:Int),[],[],(0:Int)),false)=bZ d)/\((!(bO d (aj d (2:Int)).2.1).2.2)=false->jL d (bO d (aj d (2:Int)).2.1).2.1/\(Ty.wf ai (bO d (bO d (aj d (2:Int)).2.1).2.1).1/\Ty.wf ah (bO d (bO d (aj d (2:Int)).2.1).2.1).2.1/\Ty.wf Ty.bool (bO d (bO d (aj d (2:Int)).2.1).2.1).2.2->((!(bO d (bO d (aj d (2:Int)).2.1).2.1).2.2)=true->(((0:Int),(0:Int),[],[],(0:Int)),false)=bZ d)/\((!(bO d (bO d (aj d (2:Int)).2.1).2.1).2.2)=false->((!decide (Prod.fst (bO d (bO d (aj d (2:Int)).2.1).2.1).2=(d.length:Int)))=true->(((0:Int),(0:Int),[],[],(0:Int)),false)=bZ d)/\((!decide (Prod.fst (bO d (bO d (aj d (2:Int)).2.1).2.1).2=(d.length:Int)))=false->True/\((!aF (i64.wrap (d.getD ((0:Int).toNat) (0:Int)),i64.wrap (d.getD ((1:Int).toNat) (0:Int)),(bO d (aj d (2:Int)).2.1).1,(bO d (bO d (aj d (2:Int)).2.1).2.1).1,(aj d (2:Int)).1))=true->(((0:Int),(0:Int),[],[],(0:Int)),false)=bZ d)/\((!aF (i64.wrap (d.getD ((0:Int).toNat) (0:Int)),i64.wrap (d.getD ((1:Int).toNat) (0:Int)),(bO d (aj d (2:Int)).2.1).1,(bO d (bO d (aj d (2:Int)).2.1).2.1).1,(aj d (2:Int)).1))=false->((i64.wrap (d.getD ((0:Int).toNat) (0:Int)),i64.wrap (d.getD ((1:Int).toNat) (0:Int)),(bO d (aj d (2:Int)).2.1).1,(bO d (bO d (aj d (2:Int)).2.1).2.1).1,(aj d (2:Int)).1),true)=bZ d))))))))):=by
  intro d hw hp
  have hp:d.length<=1048576:=hp
  simp only[exists_const,forall_const,decide_eq_true_eq,decide_eq_false_iff_not,beq_iff_eq,sxS]
  have w0:=pM hw 0
  have w1:=pM hw 1
  have l1:=kJ d 2
  have l2:=Rj d (aj d 2).2.1
  rw[show Int.toNat 0=0 from rfl,show Int.toNat 1=1 from rfl,w0,w1]
  refine⟨fun h=>(It (.inl (by omega))).symm,fun h=>⟨by omega,by omega,⟨hp,by omega⟩,fun _=>⟨fun h1=>(It (.inr h1)).symm,fun h1=>⟨⟨hp,by omega⟩,fun _=>?_⟩⟩⟩⟩
  have g1:¬(d.length<2\/(aj d 2).2.2=false):=by rw[h1];simp;omega
  refine⟨fun h2=>(PN g1 h2).symm,fun h2=>⟨⟨hp,by omega⟩,fun _=>⟨fun h3=>(PO g1 (by rw[h2];decide) h3).symm,fun h3=>?_⟩⟩⟩
  rw[PQ g1 (by rw[h2];decide) (by rw[h3];decide)]
  refine⟨fun h4=>?_,fun h4=>⟨fun h5=>?_,fun h5=>?_⟩⟩
  ·rw[if_neg (fun h=>h4 h.1)];rfl
  ·rw[if_neg]
   ·rfl
   ·intro h
    have:=h.2
    unfold Bg at this
    rw[h5] at this;cases this
  ·rw[if_pos ⟨h4,h5⟩];rfl
theorem vI{b:List Int}{y:lP}:fR b y=true↔y.2.2.1=true/\fO (aj b y.2.1)=true:=by unfold fR;rw[Bool.and_eq_true]
theorem OL{b:List Int}{y:lP}(h:tv b y)(hk:y.1<2)(hf:fR b y=false\/(bO b y.2.1).2.2=false):bZ b=(wH,false):=by
 obtain⟨h1,h2,h3,h4,h5,h6⟩:=h
 by_cases hlen:b.length<2\/(aj b 2).2.2=false
 ·exact It hlen
 have fv:y.2.2.1=true:=by
  by_cases h0:y.1=0
  ·rw[(h4 h0).2.1]
   cases e:(aj b 2).2.2
   ·exact absurd (.inr e) hlen
   ·rfl
  ·exact (h5 (by omega)).1
 have hT:(bO b y.2.1).2.2=false:=by
  rcases hf with hf|hf
  ·have:fO (aj b y.2.1)=false:=by
    unfold fR at hf
    rw[fv,Bool.true_and] at hf
    exact hf
   rw[Fb this]
  ·exact hf
 by_cases h0:y.1=0
 ·rw[(h4 h0).1] at hT
  exact PN hlen hT
 ·obtain⟨_,_,k3,_⟩:=h5 (by omega)
  refine PO hlen (by rw[k3];exact fun e=>Bool.noConfusion e) ?_
  rw[k3];exact hT
theorem Da{b:List Int}{y:lP}(h:tv b y)(hb:b.length<=1048576)(hk:y.1<2):fH b y (0,(aj b y.2.1).2.1,fR b y,[]):=by
 have hl:=kJ b y.2.1
 refine⟨h,hk,rfl,by simp,by show (aj b y.2.1).2.1<=_;omega,fun _=>rfl,fun ho=>⟨ho,?_,?_⟩,fun ho=>.inl ho⟩
 ·have:=(xy.1 (vI.1 ho).2).2.1
  show ((0:Nat):Int)<=_
  omega
 ·show kP [] (ji b ((aj b y.2.1).1.toNat-0) (aj b y.2.1).2.1)=_
  rw[Nat.sub_zero,L7 (vI.1 ho).2]
  exact CX _ (L9 _ _ _)
theorem Kj{b:List Int}{y:lP}(h:tv b y)(hk:y.1<2):y.2.2.2.1=hG y.1 y.2.2.2.1 []/\y.2.2.2.2=hH y.1 y.2.2.2.2 []:=by
 obtain⟨h1,h2,h3,h4,h5,h6⟩:=h
 unfold hG hH
 by_cases h0:y.1=0
 ·rw[if_pos h0,if_pos h0];exact⟨(h4 h0).2.2.1,rfl⟩
 ·rw[if_neg h0,if_neg h0];exact⟨rfl,(h5 (by omega)).2.2.2⟩
theorem Hm{b:List Int}{y:lP}{z:vS}(h:fH b y z)(hb:b.length<=1048576)(ho:z.2.2.1=true)(aK:(z.1:Int)<(aj b y.2.1).1) :
 z.1+1<=401/\fH b y (z.1+1,(aj b z.2.1).2.1,(aj b z.2.1).2.2,z.2.2.2++[(aj b z.2.1).1]):=by
 obtain⟨h1,h2,h3,h4,h5,h6,h7,h8⟩:=h
 obtain⟨k1,k2,k3⟩:=h7 ho
 have hm:=xy.1 (vI.1 k1).2
 have hl:=kJ b z.2.1
 obtain⟨q,hq⟩:∃ q,(aj b y.2.1).1.toNat-z.1=q+1:=⟨(aj b y.2.1).1.toNat-z.1-1,by omega⟩
 rw[hq] at k3
 refine⟨by omega,h1,h2,?_,?_,?_,?_,fun e=>⟨k1,?_,?_⟩,fun e=>.inr ?_⟩
 ·show (z.2.2.2++[_]).length=z.1+1;rw[List.length_append,List.length_singleton,h3]
 ·show z.1+1<=401;omega
 ·show (aj b z.2.1).2.1<=_;omega
 ·intro e;exact absurd e (by show z.1+1≠0;omega)
 ·show ((z.1+1:Nat):Int)<=_;omega
 ·show kP (z.2.2.2++[(aj b z.2.1).1]) (ji b ((aj b y.2.1).1.toNat-(z.1+1)) (aj b z.2.1).2.1)=_
  rw[show (aj b y.2.1).1.toNat-(z.1+1)=q by omega,J_ e]
  exact k3
 ·have e:(aj b z.2.1).2.2=false:=e
  rw[<-k3,J9 e]
theorem OM{b:List Int}{y:lP}{z:vS}(h:fH b y z)(ho:z.2.2.1=true)(dU:¬(z.1:Int)<(aj b y.2.1).1):tv b (y.1+1,z.2.1,z.2.2.1,hG y.1 y.2.2.2.1 z.2.2.2,hH y.1 y.2.2.2.2 z.2.2.2):=by
 obtain⟨⟨g1,g2,g3,g4,g5,g6⟩,h2,h3,h4,h5,h6,h7,h8⟩:=h
 obtain⟨k1,k2,k3⟩:=h7 ho
 have hT:bO b y.2.1=(z.2.2.2,z.2.1,true):=by
  rw[<-k3,show (aj b y.2.1).1.toNat-z.1=0 by omega]
  simp[kP,ji]
 refine⟨g1,by show y.1+1<=2;omega,h5,fun e=>absurd e (by show y.1+1≠0;omega),fun e=>?_,fun e=>?_⟩
 ·have h0:y.1=0:=by have e:y.1+1=1:=e;omega
  obtain⟨q1,q2,q3,q4⟩:=g4 h0
  refine⟨ho,?_,?_,?_⟩
  ·rw[<-q2];exact (vI.1 k1).1
  ·show _=(hG y.1 y.2.2.2.1 z.2.2.2,z.2.1,true)
   unfold hG
   rw[if_pos h0,<-q1,hT]
  ·show hH y.1 y.2.2.2.2 z.2.2.2=[]
   unfold hH
   rw[if_pos h0,q4]
 ·have h0:y.1=1:=by have e:y.1+1=2:=e;omega
  obtain⟨q1,q2,q3,q4⟩:=g5 h0
  refine⟨ho,q2,y.2.1,?_,?_⟩
  ·show _=(hG y.1 y.2.2.2.1 z.2.2.2,y.2.1,true)
   unfold hG
   rw[if_neg (by omega),q3]
  ·show _=(hH y.1 y.2.2.2.2 z.2.2.2,z.2.1,true)
   unfold hH
   rw[if_neg (by omega),hT]
theorem PR{b:List Int}{y:lP}(h:tv b y)(hk:¬y.1<2):bZ b=if y.2.1=(b.length:Int)/\aF (Bg b y.2.2.2.1 y.2.2.2.2)=true then (Bg b y.2.2.2.1 y.2.2.2.2,true) else (wH,false):=by
 obtain⟨h1,h2,h3,h4,h5,h6⟩:=h
 obtain⟨q1,q2,a,q3,q4⟩:=h6 (by omega)
 rw[PQ (by rw[q2];simp;omega) (by rw[q3];exact fun e=>Bool.noConfusion e) (by rw[q3];simp only[q4];exact fun e=>Bool.noConfusion e),q3]
 simp only[q4]
def kV(d:List Int)(x:Nat×Int×Bool×List Int×List Int)(x_1:Nat×Int×Bool×List Int):Prop :=
 ((!x_1.2.2.1)=false->∃(x':Nat×Int×Bool×List Int×List Int),tv d x'/\(2:Nat)-x'.1<(2:Nat)-x.1/\(d=d/\x_1.2.1=x'.2.1/\x_1.2.2.1=x'.2.2.1/\(↑(2:Nat):Int)=(↑(2:Nat):Int) ∧
 IntKind.wrap i64 ((↑x.1:Int)+(1:Int))=(↑x'.1:Int))/\((0:Int)=(0:Int)/\(0:Int)=(0:Int)/\Value.slice none (0:Nat) (0:Nat)=Value.slice none (0:Nat) (0:Nat)/\Value.slice none (0
 : Nat) (0:Nat)=Value.slice none (0:Nat) (0:Nat)/\(0:Int)=(0:Int))/\(List.getD d (0:Nat) (0:Int)=List.getD d (0:Nat) (0:Int)/\List.getD d (1:Nat) (0:Int)=List.getD d (1:Nat) (0:Int)
 ∧ Prod.fst (aj d (2:Int))=Prod.fst (aj d (2:Int)))/\hG x.1 x.2.2.2.1 x_1.2.2.2=x'.2.2.2.1/\hH x.1 x.2.2.2.2 x_1.2.2.2=x'.2.2.2.2)
def xd(d:List Int)(x:Nat×Int×Bool×List Int×List Int)(x_1:Nat×Int×Bool×List Int):Prop :=
 (x_1.2.2.1=true->(decide ((↑x_1.1:Int)<Prod.fst (aj d x.2.1))=true->jL d x_1.2.1/\(Ty.wf ah (Prod.fst (aj d x_1.2.1))/\Ty.wf ah (Prod.fst (Prod.snd (aj d x_1.2.1)))/\Ty.wf Ty.bool (Prod.snd
 (Prod.snd (aj d x_1.2.1)))->(List.length (hG x.1 x.2.2.2.1 x_1.2.2.2)+List.length [Prod.fst (aj d x_1.2.1)])*(8:Nat)<=(140737488355328:Nat)/\∃(x':Nat×Int×Bool×List Int),fH d x x'/\(401 :
 Nat)-x'.1<(401:Nat)-x_1.1/\(d=d/\Prod.fst (Prod.snd (aj d x_1.2.1))=x'.2.1/\Prod.snd (Prod.snd (aj d x_1.2.1))=x'.2.2.1/\Prod.fst (aj d x.2.1)=Prod.fst (aj d x.2.1)/\IntKind.wrap
 i64 ((↑x_1.1:Int)+(1:Int))=(↑x'.1:Int)/\(↑(2:Nat):Int)=(↑(2:Nat):Int)/\(↑x.1:Int)=(↑x.1:Int))/\((0:Int)=(0:Int)/\(0:Int)=(0:Int)/\Value.slice none (0:Nat) (0:Nat)
 = Value.slice none (0:Nat) (0:Nat)/\Value.slice none (0:Nat) (0:Nat)=Value.slice none (0:Nat) (0:Nat)/\(0:Int)=(0:Int))/\(List.getD d (0:Nat) (0:Int)=List.getD d (0:Nat) (0:Int) ∧
 List.getD d (1:Nat) (0:Int)=List.getD d (1:Nat) (0:Int)/\Prod.fst (aj d (2:Int))=Prod.fst (aj d (2:Int)))/\hG x.1 x.2.2.2.1 x_1.2.2.2++[Prod.fst (aj d x_1.2.1)]=hG x.1 x.2.2.2.1
 x'.2.2.2/\hH x.1 x.2.2.2.2 x_1.2.2.2=hH x.1 x.2.2.2.2 x'.2.2.2))/\(decide ((↑x_1.1:Int)<Prod.fst (aj d x.2.1))=false->((!x_1.2.2.1)=true->(((0:Int),(0:Int),[],[],(0:Int)),false)=bZ
 d)/\(kV d x x_1)))
def xe(d:List Int)(x:Nat×Int×Bool×List Int×List Int)(x_1:Nat×Int×Bool×List Int):Prop :=
 (x_1.2.2.1=true->(decide ((↑x_1.1:Int)<Prod.fst (aj d x.2.1))=true->jL d x_1.2.1/\(Ty.wf ah (Prod.fst (aj d x_1.2.1))/\Ty.wf ah (Prod.fst (Prod.snd (aj d x_1.2.1)))/\Ty.wf Ty.bool (Prod.snd
 (Prod.snd (aj d x_1.2.1)))->(List.length (hH x.1 x.2.2.2.2 x_1.2.2.2)+List.length [Prod.fst (aj d x_1.2.1)])*(8:Nat)<=(140737488355328:Nat)/\∃(x':Nat×Int×Bool×List Int),fH d x x'/\(401 :
 Nat)-x'.1<(401:Nat)-x_1.1/\(d=d/\Prod.fst (Prod.snd (aj d x_1.2.1))=x'.2.1/\Prod.snd (Prod.snd (aj d x_1.2.1))=x'.2.2.1/\Prod.fst (aj d x.2.1)=Prod.fst (aj d x.2.1)/\IntKind.wrap
 i64 ((↑x_1.1:Int)+(1:Int))=(↑x'.1:Int)/\(↑(2:Nat):Int)=(↑(2:Nat):Int)/\(↑x.1:Int)=(↑x.1:Int))/\((0:Int)=(0:Int)/\(0:Int)=(0:Int)/\Value.slice none (0:Nat) (0:Nat)
 = Value.slice none (0:Nat) (0:Nat)/\Value.slice none (0:Nat) (0:Nat)=Value.slice none (0:Nat) (0:Nat)/\(0:Int)=(0:Int))/\(List.getD d (0:Nat) (0:Int)=List.getD d (0:Nat) (0:Int) ∧
 List.getD d (1:Nat) (0:Int)=List.getD d (1:Nat) (0:Int)/\Prod.fst (aj d (2:Int))=Prod.fst (aj d (2:Int)))/\hG x.1 x.2.2.2.1 x_1.2.2.2=hG x.1 x.2.2.2.1 x'.2.2.2/\hH x.1 x.2.2.2.2
 x_1.2.2.2++[Prod.fst (aj d x_1.2.1)]=hH x.1 x.2.2.2.2 x'.2.2.2))/\(decide ((↑x_1.1:Int)<Prod.fst (aj d x.2.1))=false->((!x_1.2.2.1)=true->(((0:Int),(0:Int),[],[],(0:Int)),false)=bZ
 d)/\(kV d x x_1)))
def qm(d:List Int)(x:Nat×Int×Bool×List Int×List Int):Prop :=
 ((d=d/\Prod.fst (Prod.snd (aj d x.2.1))=Prod.fst (Prod.snd (aj d x.2.1))/\fR d x=false/\Prod.fst (aj d x.2.1)=Prod.fst (aj d x.2.1)/\(0:Int)=(↑(0:Nat):Int)/\(↑(2:Nat):Int)=(↑(2 :
 Nat):Int)/\(↑x.1:Int)=(↑x.1:Int))/\((0:Int)=(0:Int)/\(0:Int)=(0:Int)/\Value.slice none (0:Nat) (0:Nat)=Value.slice none (0:Nat) (0:Nat)/\Value.slice none (0:Nat) (0:Nat) =
 Value.slice none (0:Nat) (0:Nat)/\(0:Int)=(0:Int))/\(List.getD d (0:Nat) (0:Int)=List.getD d (0:Nat) (0:Int)/\List.getD d (1:Nat) (0:Int)=List.getD d (1:Nat) (0:Int)/\Prod.fst (aj d
 (2:Int))=Prod.fst (aj d (2:Int)))/\x.2.2.2.1=hG x.1 x.2.2.2.1 []/\x.2.2.2.2=hH x.1 x.2.2.2.2 [])
def Iu(d:List Int)(x:Nat×Int×Bool×List Int×List Int):Prop :=
 ((d=d/\Prod.fst (Prod.snd (aj d x.2.1))=Prod.fst (Prod.snd (aj d x.2.1))/\decide (Prod.fst (aj d x.2.1)<=(400:Int))=fR d x/\Prod.fst (aj d x.2.1)=Prod.fst (aj d x.2.1)/\(0:Int)=(↑(0 :
 Nat):Int)/\(↑(2:Nat):Int)=(↑(2:Nat):Int)/\(↑x.1:Int)=(↑x.1:Int))/\((0:Int)=(0:Int)/\(0:Int)=(0:Int)/\Value.slice none (0:Nat) (0:Nat)=Value.slice none (0:Nat) (0:Nat) ∧
 Value.slice none (0:Nat) (0:Nat)=Value.slice none (0:Nat) (0:Nat)/\(0:Int)=(0:Int))/\(List.getD d (0:Nat) (0:Int)=List.getD d (0:Nat) (0:Int)/\List.getD d (1:Nat) (0:Int)=List.getD d
 (1:Nat) (0:Int)/\Prod.fst (aj d (2:Int))=Prod.fst (aj d (2:Int)))/\x.2.2.2.1=hG x.1 x.2.2.2.1 []/\x.2.2.2.2=hH x.1 x.2.2.2.2 [])
theorem Ho{d:List Int}{x:lP}(hx:tv d x)(hk:x.1<2)(ho:fR d x=false):qm d x:=by
 unfold qm
 have h:=Kj hx hk
 exact⟨⟨rfl,rfl,ho,rfl,rfl,rfl,rfl⟩,⟨rfl,rfl,rfl,rfl,rfl⟩,⟨rfl,rfl,rfl⟩,h.1,h.2⟩
theorem Hp{d:List Int}{x:lP}(hx:tv d x)(hk:x.1<2)(h1:x.2.2.1=true)(h2:(aj d x.2.1).2.2=true)(h3:0<=(aj d x.2.1).1):Iu d x:=by
 unfold Iu
 have h:=Kj hx hk
 refine⟨⟨rfl,rfl,?_,rfl,rfl,rfl,rfl⟩,⟨rfl,rfl,rfl,rfl,rfl⟩,⟨rfl,rfl,rfl⟩,h.1,h.2⟩
 unfold fR fO
 rw[h1,h2,Bool.true_and,Bool.true_and,decide_eq_decide]
 exact⟨fun h=>⟨h3,h⟩,fun h=>h.2⟩
theorem vA{d:List Int}{x:lP}{z:vS}(hz:fH d x z)(he:z.2.2.1=true->¬(z.1:Int)<(aj d x.2.1).1):kV d x z:=by
 unfold kV
 intro ho
 have ho:z.2.2.1=true:=by simpa using ho
 refine⟨_,OM hz ho (he ho),?_,⟨rfl,rfl,rfl,rfl,?_⟩,⟨rfl,rfl,rfl,rfl,rfl⟩,⟨rfl,rfl,rfl⟩,rfl,rfl⟩
 ·have:=hz.2.1;show 2-(x.1+1)<2-x.1;omega
 ·have:=hz.2.1;show i64.wrap ((x.1:Int)+1)=((x.1+1:Nat):Int);rw[wrap_small (by omega)];rfl
theorem yn{d:List Int}{x:lP}{z:vS}(hz:fH d x z)(h:(!z.2.2.1)=true):(((0:Int),(0:Int),([]:List Int),([]:List Int),(0:Int)),false)=bZ d:=by
 have ho:z.2.2.1=false:=by simpa using h
 rw[OL hz.1 hz.2.1 (hz.2.2.2.2.2.2.2 ho)];rfl
theorem ON{d:List Int}{x:lP}{z:vS}(hb:d.length<=1048576)(hk:x.1=0)(hz:fH d x z):xd d x z:=by
 unfold xd
 have h3:=hz.2.2.1
 have h4:=hz.2.2.2.1
 have h5:=hz.2.2.2.2.1
 refine fun ho=>⟨fun aK=>⟨⟨hb,by omega⟩,fun _=>?_⟩,fun dU=>⟨yn hz,vA hz (fun _=>by simpa using dU)⟩⟩
 have aK:(z.1:Int)<(aj d x.2.1).1:=by simpa using aK
 obtain⟨s1,s2⟩:=Hm hz hb ho aK
 refine⟨?_,_,s2,?_,⟨rfl,rfl,rfl,rfl,?_,rfl,rfl⟩,⟨rfl,rfl,rfl,rfl,rfl⟩,⟨rfl,rfl,rfl⟩,?_,?_⟩
 ·unfold hG;rw[if_pos hk,List.length_singleton];omega
 ·show 401-(z.1+1)<401-z.1;omega
 ·show i64.wrap ((z.1:Int)+1)=((z.1+1:Nat):Int);rw[wrap_small (by omega)];rfl
 ·unfold hG;rw[if_pos hk,if_pos hk]
 ·unfold hH;rw[if_pos hk,if_pos hk]
theorem OO{d:List Int}{x:lP}{z:vS}(hb:d.length<=1048576)(hk:x.1=1)(hz:fH d x z):xe d x z:=by
 unfold xe
 have h3:=hz.2.2.1
 have h4:=hz.2.2.2.1
 have h5:=hz.2.2.2.2.1
 refine fun ho=>⟨fun aK=>⟨⟨hb,by omega⟩,fun _=>?_⟩,fun dU=>⟨yn hz,vA hz (fun _=>by simpa using dU)⟩⟩
 have aK:(z.1:Int)<(aj d x.2.1).1:=by simpa using aK
 obtain⟨s1,s2⟩:=Hm hz hb ho aK
 refine⟨?_,_,s2,?_,⟨rfl,rfl,rfl,rfl,?_,rfl,rfl⟩,⟨rfl,rfl,rfl,rfl,rfl⟩,⟨rfl,rfl,rfl⟩,?_,?_⟩
 ·unfold hH;rw[if_neg (by omega),List.length_singleton];omega
 ·show 401-(z.1+1)<401-z.1;omega
 ·show i64.wrap ((z.1:Int)+1)=((z.1+1:Nat):Int);rw[wrap_small (by omega)];rfl
 ·unfold hG;rw[if_neg (by omega),if_neg (by omega)]
 ·unfold hH;rw[if_neg (by omega),if_neg (by omega)]
theorem Cb :
 ∀(d:List Int),Ty.wf bG d->d.length<=(1048576:Nat)->(decide ((d.length:Int)<(2:Int))=true->(((0:Int),(0:Int),[],[],(0:Int)),false)=bZ d)/\(decide ((d.length:Int)<(2:Int))=false->((0:Int)<=(0:Int)/\(0:Int)<(d.length:Int))/\((0:Int)<=(1:Int)/\(1:Int)<(d.length:Int))/\jL d (2:Int)/\(Ty.wf ah (aj d (2:Int)).1/\Ty.wf ah (aj d (2:Int)).2.1/\Ty.wf Ty.bool (aj d (2:Int)).2.2->tv d ((0:Nat),(aj d (2:Int)).2.1,(aj d (2:Int)).2.2,[],[])/\((d=d/\ae ((aj d (2:Int)).2.1)/\ae ((aj d (2:Int)).2.2)/\ae (↑(2:Nat):Int)/\(0:Int)=(↑(0:Nat):Int))/\(ae (0:Int)/\ae (0:Int)/\aQ/\aQ/\ae (0:Int))/\(i64.wrap (d.getD ((0:Int).toNat) (0:Int))=d.getD (0:Nat) (0:Int)/\i64.wrap (d.getD ((1:Int).toNat) (0:Int))=d.getD (1:Nat) (0:Int)/\ae ((aj d (2:Int)).1))/\([]:List Int)=[]/\([]:List Int)=[])/\∀(x:Nat×Int×Bool×List Int×List Int),tv d x->(decide ((x.1:Int)<(↑(2:Nat):Int))=true->((0:Int)<=(x.1:Int)/\(x.1:Int)<(↑(2:Nat):Int))/\((x.1:Int)=(↑(0:Nat):Int)->jL d x.2.1/\(Ty.wf ah (aj d x.2.1).1/\Ty.wf ah (aj d x.2.1).2.1/\Ty.wf Ty.bool (aj d x.2.1).2.2->(x.2.2.1=true->(Prod.snd (aj d x.2.1).2=true->(decide ((0:Int)<=(aj d x.2.1).1)=true->fH d x ((0:Nat),(aj d x.2.1).2.1,fR d x,[])/\(Iu d x)/\∀(x_1:Nat×Int×Bool×List Int),fH d x x_1->(xd d x x_1)/\(x_1.2.2.1=false->((!x_1.2.2.1)=true->(((0:Int),(0:Int),[],[],(0:Int)),false)=bZ d)/\(kV d x x_1)))/\(decide ((0:Int)<=(aj d x.2.1).1)=false->fH d x ((0:Nat),(aj d x.2.1).2.1,fR d x,[])/\(qm d x)/\∀(x_1:Nat×Int×Bool×List Int),fH d x x_1->(xd d x x_1)/\(x_1.2.2.1=false->((!x_1.2.2.1)=true->(((0:Int),(0:Int),[],[],(0:Int)),false)=bZ d)/\(kV d x x_1))))/\(Prod.snd (aj d x.2.1).2=false->fH d x ((0:Nat),(aj d x.2.1).2.1,fR d x,[])/\(qm d x)/\∀(x_1:Nat×Int×Bool×List Int),fH d x x_1->(xd d x x_1)/\(x_1.2.2.1=false->((!x_1.2.2.1)=true->(((0:Int),(0:Int),[],[],(0:Int)),false)=bZ d)/\(kV d x x_1))))/\(x.2.2.1=false->fH d x ((0:Nat),(aj d x.2.1).2.1,fR d x,[])/\(qm d x)/\∀(x_1:Nat×Int×Bool×List Int),fH d x x_1->(xd d x x_1)/\(x_1.2.2.1=false->((!x_1.2.2.1)=true->(((0:Int),(0:Int),[],[],(0:Int)),false)=bZ d)/\(kV d x x_1)))))/\((x.1:Int)=(↑(1:Nat):Int)->jL d x.2.1/\(Ty.wf ah (aj d x.2.1).1/\Ty.wf ah (aj d x.2.1).2.1/\Ty.wf Ty.bool (aj d x.2.1).2.2->(x.2.2.1=true->(Prod.snd (aj d x.2.1).2=true->(decide ((0:Int)<=(aj d x.2.1).1)=true->fH d x ((0:Nat),(aj d x.2.1).2.1,fR d x,[])/\(Iu d x)/\∀(x_1:Nat×Int×Bool×List Int),fH d x x_1->(xe d x x_1)/\(x_1.2.2.1=false->((!x_1.2.2.1)=true->(((0:Int),(0:Int),[],[],(0:Int)),false)=bZ d)/\(kV d x x_1)))/\(decide ((0:Int)<=(aj d x.2.1).1)=false->fH d x ((0:Nat),(aj d x.2.1).2.1,fR d x,[])/\(qm d x)/\∀(x_1:Nat×Int×Bool×List Int),fH d x x_1->(xe d x x_1)/\(x_1.2.2.1=false->((!x_1.2.2.1)=true->(((0:Int),(0:Int),[],[],(0:Int)),false)=bZ d)/\(kV d x x_1))))/\(Prod.snd (aj d x.2.1).2=false->fH d x ((0:Nat),(aj d x.2.1).2.1,fR d x,[])/\(qm d x)/\∀(x_1:Nat×Int×Bool×List Int),fH d x x_1->(xe d x x_1)/\(x_1.2.2.1=false->((!x_1.2.2.1)=true->(((0:Int),(0:Int),[],[],(0:Int)),false)=bZ d)/\(kV d x x_1))))/\(x.2.2.1=false->fH d x ((0:Nat),(aj d x.2.1).2.1,fR d x,[])/\(qm d x)/\∀(x_1:Nat×Int×Bool×List Int),fH d x x_1->(xe d x x_1)/\(x_1.2.2.1=false->((!x_1.2.2.1)=true->(((0:Int),(0:Int),[],[],(0:Int)),false)=bZ d)/\(kV d x x_1))))))/\(decide ((x.1:Int)<(↑(2:Nat):Int))=false->((!decide (x.2.1=(d.length:Int)))=true->(((0:Int),(0:Int),[],[],(0:Int)),false)=bZ d)/\((!decide (x.2.1=(d.length:Int)))=false->True/\((!aF (d.getD (0:Nat) (0:Int),d.getD (1:Nat) (0:Int),x.2.2.2.1,x.2.2.2.2,(aj d (2:Int)).1))=true->(((0:Int),(0:Int),[],[],(0:Int)),false)=bZ d)/\((!aF (d.getD (0:Nat) (0:Int),d.getD (1:Nat) (0:Int),x.2.2.2.1,x.2.2.2.2,(aj d (2:Int)).1))=false->((d.getD (0:Nat) (0:Int),d.getD (1:Nat) (0:Int),x.2.2.2.1,x.2.2.2.2,(aj d (2:Int)).1),true)=bZ d))))):=by
  intro d hw hp
  have hp:d.length<=1048576:=hp
  simp only[exists_const,forall_const,decide_eq_true_eq,decide_eq_false_iff_not,beq_iff_eq,sxS]
  have w0:=pM hw 0
  have w1:=pM hw 1
  have l1:=kJ d 2
  refine⟨fun h=>by rw[It (.inl (by omega))];rfl,fun h=>⟨by omega,by omega,⟨hp,by omega⟩,fun _=>⟨?_,⟨rfl,w0,w1⟩,fun x hx=>⟨fun aK=>⟨by omega,fun hk=>⟨⟨hp,by have:=hx.2.2.1;omega⟩,fun _=>?_⟩,fun hk=>⟨⟨hp,by have:=hx.2.2.1;omega⟩,fun _=>?_⟩⟩,fun dU=>?_⟩⟩⟩⟩
  ·exact⟨by omega,by simp,by show (aj d 2).2.1<=_;omega,fun _=>⟨rfl,rfl,rfl,rfl⟩,(fun e=>absurd e (by show (0:Nat)≠1;omega)),(fun e=>absurd e (by show (0:Nat)≠2;omega))⟩
  ·have wD:x.1=0:=by omega
   have fN:=Da hx hp (by omega)
   have no:fR d x=false->qm d x:=Ho hx (by omega)
   have body:∀ z:vS,fH d x z->xd d x z/\(z.2.2.1=false->(z.2.2.1=false->(((0:Int),(0:Int),([]:List Int),([]:List Int),(0:Int)),false)=bZ d)/\kV d x z):=fun z hz=>⟨ON hp wD hz,fun ho=>⟨fun h=>yn hz (by rw[h];rfl),vA hz (fun h=>by rw[ho] at h;cases h)⟩⟩
   refine⟨fun h1=>⟨fun h2=>⟨fun h3=>⟨fN,Hp hx (by omega) h1 h2 h3,body⟩,fun h3=>⟨fN,no ?_,body⟩⟩,fun h2=>⟨fN,no ?_,body⟩⟩,fun h1=>⟨fN,no ?_,body⟩⟩
   ·unfold fR fO;rw[show decide (0<=(aj d x.2.1).1/\(aj d x.2.1).1<=400)=false from decide_eq_false (fun h=>h3 h.1)];simp
   ·unfold fR fO;rw[h2];simp
   ·unfold fR;rw[h1];rfl
  ·have NV:x.1=1:=by omega
   have fN:=Da hx hp (by omega)
   have no:fR d x=false->qm d x:=Ho hx (by omega)
   have body:∀ z:vS,fH d x z->xe d x z/\(z.2.2.1=false->(z.2.2.1=false->(((0:Int),(0:Int),([]:List Int),([]:List Int),(0:Int)),false)=bZ d)/\kV d x z):=fun z hz=>⟨OO hp NV hz,fun ho=>⟨fun h=>yn hz (by rw[h];rfl),vA hz (fun h=>by rw[ho] at h;cases h)⟩⟩
   refine⟨fun h1=>⟨fun h2=>⟨fun h3=>⟨fN,Hp hx (by omega) h1 h2 h3,body⟩,fun h3=>⟨fN,no ?_,body⟩⟩,fun h2=>⟨fN,no ?_,body⟩⟩,fun h1=>⟨fN,no ?_,body⟩⟩
   ·unfold fR fO;rw[show decide (0<=(aj d x.2.1).1/\(aj d x.2.1).1<=400)=false from decide_eq_false (fun h=>h3 h.1)];simp
   ·unfold fR fO;rw[h2];simp
   ·unfold fR;rw[h1];rfl
  ·rw[PR hx (by omega)]
   refine⟨fun h4=>?_,fun h4=>⟨fun h5=>?_,fun h5=>?_⟩⟩
   ·rw[if_neg (fun h=>h4 h.1)];rfl
   ·rw[if_neg (fun h=>by have:=h.2;unfold Bg at this;rw[h5] at this;cases this)];rfl
   ·rw[if_pos ⟨h4,h5⟩];rfl
theorem SE{α:Type}{a b:List α}{z:α}{x:Nat}(hx:x<a.length)(hl:a.length=b.length)(ht:a.take x=b.take x)(he:a.getD x z=b.getD x z):a.take (x+1)=b.take (x+1):=by
 rw[Ok (z:=z) hx,Ok (z:=z) (by omega),ht,he]
theorem xj{a b:Rs}:dL a b=true↔a=b:=by unfold dL;exact @decide_eq_true_iff _ (C8 a b)
theorem Hs{a b:Rs}(h:a≠b):false=dL a b:=by
 cases e:dL a b
 ·rfl
 ·exact absurd (xj.1 e) h
theorem zH :
 ∀(d:List Int×List Int),Ty.wf ai d.1/\Ty.wf ai d.2->True->((!decide ((d.1.length:Int)=(d.2.length:Int)))=true->false=decide (d.1=d.2))/\((!decide ((d.1.length:Int)=(d.2.length:Int)))=false->((0:Nat)<=d.1.length/\d.1.length=d.2.length/\List.take (0:Nat) d.1=List.take (0:Nat) d.2)/\(d.1=d.1/\d.2=d.2/\(0:Int)=(↑(0:Nat):Int))/\∀(x:Nat),x<=d.1.length/\d.1.length=d.2.length/\List.take x d.1=List.take x d.2->(decide ((x:Int)<(d.1.length:Int))=true->((0:Int)<=(x:Int)/\(x:Int)<(d.1.length:Int))/\((0:Int)<=(x:Int)/\(x:Int)<(d.2.length:Int))/\((!decide (d.1.getD ((x:Int).toNat) (0:Int)=d.2.getD ((x:Int).toNat) (0:Int)))=true->false=decide (d.1=d.2))/\((!decide (d.1.getD ((x:Int).toNat) (0:Int)=d.2.getD ((x:Int).toNat) (0:Int)))=false->∃(x':Nat),(x'<=d.1.length/\d.1.length=d.2.length/\List.take x' d.1=List.take x' d.2)/\d.1.length-x'<d.1.length-x/\d.1=d.1/\d.2=d.2/\i64.wrap ((x:Int)+(1:Int))=(x':Int)))/\(decide ((x:Int)<(d.1.length:Int))=false->true=decide (d.1=d.2))):=by
  intro d hw hp
  have hl:d.1.length<=9223372036854775807:=hw.1.1
  simp only[exists_const,forall_const,decide_eq_true_eq,decide_eq_false_iff_not,beq_iff_eq,sxS]
  refine⟨fun h=>(decide_eq_false (fun e=>h (by rw[e]))).symm,fun h=>⟨⟨by omega,by omega,rfl⟩,rfl,fun x hx=>⟨fun aK=>?_,fun dU=>?_⟩⟩⟩
  ·obtain⟨h1,h2,h3⟩:=hx
   refine⟨⟨by omega,aK⟩,⟨by omega,by omega⟩,fun bo=>(decide_eq_false (fun e=>bo (by rw[e]))).symm,fun he=>⟨x+1,⟨by omega,h2,SE (by omega) h2 h3 he⟩,by omega,by rw[aC (by omega)]⟩⟩
  ·obtain⟨h1,h2,h3⟩:=hx
   have:x=d.1.length:=by omega
   rw[this,List.take_length,h2,List.take_length] at h3
   exact (decide_eq_true h3).symm
theorem Fg :
 ∀(d:List Int×List Int),Ty.wf ai d.1/\Ty.wf ai d.2->True->((!decide ((d.1.length:Int)=(d.2.length:Int)))=true->false=decide (d.1=d.2))/\((!decide ((d.1.length:Int)=(d.2.length:Int)))=false->((0:Nat)<=d.1.length/\d.1.length=d.2.length/\List.take (0:Nat) d.1=List.take (0:Nat) d.2)/\(d.1=d.1/\d.2=d.2/\d.1=d.1/\ae (d.1.length:Int)/\(0:Int)=(↑(0:Nat):Int))/\∀(x:Nat),x<=d.1.length/\d.1.length=d.2.length/\List.take x d.1=List.take x d.2->(decide ((x:Int)<(d.1.length:Int))=true->((0:Int)<=(x:Int)/\(x:Int)<(d.1.length:Int))/\((0:Int)<=(x:Int)/\(x:Int)<(d.2.length:Int))/\((!decide (d.1.getD ((x:Int).toNat) (0:Int)=d.2.getD ((x:Int).toNat) (0:Int)))=true->false=decide (d.1=d.2))/\((!decide (d.1.getD ((x:Int).toNat) (0:Int)=d.2.getD ((x:Int).toNat) (0:Int)))=false->∃(x':Nat),(x'<=d.1.length/\d.1.length=d.2.length/\List.take x' d.1=List.take x' d.2)/\d.1.length-x'<d.1.length-x/\d.1=d.1/\d.2=d.2/\d.1=d.1/\ae (d.1.length:Int)/\i64.wrap ((x:Int)+(1:Int))=(x':Int)))/\(decide ((x:Int)<(d.1.length:Int))=false->true=decide (d.1=d.2))):=by
  intro d hw hp
  have hl:d.1.length<=9223372036854775807:=hw.1.1
  simp only[exists_const,forall_const,decide_eq_true_eq,decide_eq_false_iff_not,beq_iff_eq,sxS]
  refine⟨fun h=>(decide_eq_false (fun e=>h (by rw[e]))).symm,fun h=>⟨⟨by omega,by omega,rfl⟩,rfl,fun x hx=>⟨fun aK=>?_,fun dU=>?_⟩⟩⟩
  ·obtain⟨h1,h2,h3⟩:=hx
   refine⟨⟨by omega,aK⟩,⟨by omega,by omega⟩,fun bo=>(decide_eq_false (fun e=>bo (by rw[e]))).symm,fun he=>⟨x+1,⟨by omega,h2,SE (by omega) h2 h3 he⟩,by omega,by rw[aC (by omega)]⟩⟩
  ·obtain⟨h1,h2,h3⟩:=hx
   have:x=d.1.length:=by omega
   rw[this,List.take_length,h2,List.take_length] at h3
   exact (decide_eq_true h3).symm
theorem HY{a b:Rs}:(a.1=b.1->(a.2.1=b.2.1->decide (a.2.2=b.2.2)=dL a b)/\(¬a.2.1=b.2.1->false=dL a b))/\(¬a.1=b.1->false=dL a b):=by
 obtain⟨a1,a2,a3⟩:=a
 obtain⟨b1,b2,b3⟩:=b
 refine⟨fun h1=>⟨fun h2=>?_,fun h=>Hs (fun e=>h (by rw[e]))⟩,fun h=>Hs (fun e=>h (by rw[e]))⟩
 have h1:a1=b1:=h1
 have h2:a2=b2:=h2
 subst h1;subst h2
 cases e:dL (a1,a2,a3) (a1,a2,b3)
 ·rw[decide_eq_false_iff_not]
  intro h3
  have h3:a3=b3:=h3
  rw[h3,xj.2 rfl] at e;cases e
 ·have:=xj.1 e
  injection this with _ this
  injection this with _ this
  exact decide_eq_true this
theorem AF :
 ∀(d:(Int×List Int×List Int)×Int×List Int×List Int),Ty.wf gh d.1/\Ty.wf gh d.2->True->(decide (d.1.1=d.2.1)=true->True/\(decide (d.1.2.1=d.2.2.1)=true->True/\decide (d.1.2.2=d.2.2.2)=dL d.1 d.2)/\(decide (d.1.2.1=d.2.2.1)=false->false=dL d.1 d.2))/\(decide (d.1.1=d.2.1)=false->false=dL d.1 d.2):=by
  intro d hw hp
  simp only[exists_const,forall_const,decide_eq_true_eq,decide_eq_false_iff_not,beq_iff_eq,sxS]
  exact HY
theorem Ay :
 ∀(d:(Int×List Int×List Int)×Int×List Int×List Int),Ty.wf gh d.1/\Ty.wf gh d.2->True->(decide (d.1.1=d.2.1)=true->True/\(decide (d.1.2.1=d.2.2.1)=true->True/\decide (d.1.2.2=d.2.2.2)=dL d.1 d.2)/\(decide (d.1.2.1=d.2.2.1)=false->false=dL d.1 d.2))/\(decide (d.1.1=d.2.1)=false->false=dL d.1 d.2):=by
  intro d hw hp
  simp only[exists_const,forall_const,decide_eq_true_eq,decide_eq_false_iff_not,beq_iff_eq,sxS]
  exact HY
theorem KP{d:Ca}(h:bV d=false):false=gI d:=by unfold gI;rw[h];rfl
theorem vH{d:Ca}{x:Nat}(hx:x<d.2.length)(h:¬CN (d.2.getD x ([],0,[],[]))):false=gI d:=by
 unfold gI
 rw[decide_eq_false (fun hh=>h (hh x hx)),Bool.and_false]
theorem N0{es:List En}{x:Nat}(h:l5 es x)(he:CN (es.getD x ([],0,[],[]))):l5 es (x+1):=fun i hi=>by
 by_cases Hz:i=x
 ·rw[Hz];exact he
 ·exact h i (by omega)
theorem JS :
 ∀(d:Int×List (List Int×Int×List Int×List Int)),Ty.wf cA d->dw d.2->dw d.2/\((!bV d)=true->false=gI d)/\((!bV d)=false->((0:Nat)<=d.2.length/\l5 d.2 (0:Nat)/\bV d=true)/\(((d.1=d.1/\d.2=d.2)/\(0:Int)=(↑(0:Nat):Int))/\d.1=d.1/\d.2=d.2)/\∀(x:Nat),x<=d.2.length/\l5 d.2 x/\bV d=true->(decide ((x:Int)<(d.2.length:Int))=true->((0:Int)<=(x:Int)/\(x:Int)<(d.2.length:Int))/\List.length (d.2.getD ((x:Int).toNat) ([],(0:Int),[],[])).1<=(1048576:Nat)/\(Ty.wf nS (bZ (d.2.getD ((x:Int).toNat) ([],(0:Int),[],[])).1).1/\Ty.wf Ty.bool (bZ (d.2.getD ((x:Int).toNat) ([],(0:Int),[],[])).1).2->((!(bZ (d.2.getD ((x:Int).toNat) ([],(0:Int),[],[])).1).2)=true->false=gI d)/\((!(bZ (d.2.getD ((x:Int).toNat) ([],(0:Int),[],[])).1).2)=false->True/\((0:Int)<=(x:Int)/\(x:Int)<(d.2.length:Int))/\True/\(Ty.wf CH (aD (bZ (d.2.getD ((x:Int).toNat) ([],(0:Int),[],[])).1).1)->((!dL (aD (bZ (d.2.getD ((x:Int).toNat) ([],(0:Int),[],[])).1).1) (d.2.getD ((x:Int).toNat) ([],(0:Int),[],[])).2)=true->false=gI d)/\((!dL (aD (bZ (d.2.getD ((x:Int).toNat) ([],(0:Int),[],[])).1).1) (d.2.getD ((x:Int).toNat) ([],(0:Int),[],[])).2)=false->∃(x':Nat),(x'<=d.2.length/\l5 d.2 x'/\bV d=true)/\d.2.length-x'<d.2.length-x/\((d.1=d.1/\d.2=d.2)/\i64.wrap ((x:Int)+(1:Int))=(x':Int))/\d.1=d.1/\d.2=d.2)))))/\(decide ((x:Int)<(d.2.length:Int))=false->true=gI d)):=by
  intro d hw hp
  have hp:dw d.2:=hp
  have hlen:=hp.1
  simp only[exists_const,forall_const,decide_eq_true_eq,decide_eq_false_iff_not,beq_iff_eq,sxS]
  refine⟨hp,KP,fun hB=>⟨⟨by omega,fun i hi=>by omega,hB⟩,rfl,fun x hx=>⟨fun aK=>?_,fun dU=>?_⟩⟩⟩
  ·obtain⟨h1,h2,_⟩:=hx
   have jY:x<d.2.length:=by omega
   have hE:=rh hp jY
   refine⟨⟨by omega,aK⟩,hE.1,fun _=>⟨fun hd=>vH jY (fun h=>by rw[h.1] at hd;cases hd),fun hd=>⟨⟨by omega,aK⟩,fun _=>⟨fun hr=>vH jY (fun h=>by rw[h.2] at hr;cases hr),fun hr=>⟨x+1,⟨by omega,N0 h2 ⟨hd,hr⟩,hB⟩,by omega,by rw[aC (by omega)]⟩⟩⟩⟩⟩
  ·obtain⟨h1,h2,_⟩:=hx
   have:x=d.2.length:=by omega
   unfold gI
   rw[hB,decide_eq_true (by rw[<-this];exact h2)];rfl
theorem JF :
 ∀(d:Int×List (List Int×Int×List Int×List Int)),Ty.wf cA d->dw d.2->dw d.2/\((!bV d)=true->false=gI d)/\((!bV d)=false->((0:Nat)<=d.2.length/\l5 d.2 (0:Nat)/\bV d=true)/\(((d.1=d.1/\d.2=d.2)/\d.2=d.2/\ae (d.2.length:Int)/\(0:Int)=(↑(0:Nat):Int))/\d.1=d.1/\d.2=d.2)/\∀(x:Nat),x<=d.2.length/\l5 d.2 x/\bV d=true->(decide ((x:Int)<(d.2.length:Int))=true->((0:Int)<=(x:Int)/\(x:Int)<(d.2.length:Int))/\List.length (d.2.getD ((x:Int).toNat) ([],(0:Int),[],[])).1<=(1048576:Nat)/\(Ty.wf nS (bZ (d.2.getD ((x:Int).toNat) ([],(0:Int),[],[])).1).1/\Ty.wf Ty.bool (bZ (d.2.getD ((x:Int).toNat) ([],(0:Int),[],[])).1).2->((!(bZ (d.2.getD ((x:Int).toNat) ([],(0:Int),[],[])).1).2)=true->false=gI d)/\((!(bZ (d.2.getD ((x:Int).toNat) ([],(0:Int),[],[])).1).2)=false->True/\True/\(Ty.wf CH (aD (bZ (d.2.getD ((x:Int).toNat) ([],(0:Int),[],[])).1).1)->((!dL (aD (bZ (d.2.getD ((x:Int).toNat) ([],(0:Int),[],[])).1).1) (d.2.getD ((x:Int).toNat) ([],(0:Int),[],[])).2)=true->false=gI d)/\((!dL (aD (bZ (d.2.getD ((x:Int).toNat) ([],(0:Int),[],[])).1).1) (d.2.getD ((x:Int).toNat) ([],(0:Int),[],[])).2)=false->∃(x':Nat),(x'<=d.2.length/\l5 d.2 x'/\bV d=true)/\d.2.length-x'<d.2.length-x/\((d.1=d.1/\d.2=d.2)/\d.2=d.2/\ae (d.2.length:Int)/\i64.wrap ((x:Int)+(1:Int))=(x':Int))/\d.1=d.1/\d.2=d.2)))))/\(decide ((x:Int)<(d.2.length:Int))=false->true=gI d)):=by
  intro d hw hp
  have hp:dw d.2:=hp
  have hlen:=hp.1
  simp only[exists_const,forall_const,decide_eq_true_eq,decide_eq_false_iff_not,beq_iff_eq,sxS]
  refine⟨hp,KP,fun hB=>⟨⟨by omega,fun i hi=>by omega,hB⟩,rfl,fun x hx=>⟨fun aK=>?_,fun dU=>?_⟩⟩⟩
  ·obtain⟨h1,h2,_⟩:=hx
   have jY:x<d.2.length:=by omega
   have hE:=rh hp jY
   refine⟨⟨by omega,aK⟩,hE.1,fun _=>⟨fun hd=>vH jY (fun h=>by rw[h.1] at hd;cases hd),fun hd _=>⟨fun hr=>vH jY (fun h=>by rw[h.2] at hr;cases hr),fun hr=>⟨x+1,⟨by omega,N0 h2 ⟨hd,hr⟩,hB⟩,by omega,by rw[aC (by omega)]⟩⟩⟩⟩
  ·obtain⟨h1,h2,_⟩:=hx
   have:x=d.2.length:=by omega
   unfold gI
   rw[hB,decide_eq_true (by rw[<-this];exact h2)];rfl
end Go.SF
