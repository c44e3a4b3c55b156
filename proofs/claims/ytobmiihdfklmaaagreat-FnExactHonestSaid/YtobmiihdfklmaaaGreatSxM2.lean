/- Transforms, from the code: what is left. No condition. -/
import Derived.Test.YtobmiihdfklmaaaGreatSxM1
import Derived.Test.YtobmiihdfklmaaaGreatSxC
set_option linter.unusedVariables false
set_option linter.unusedSimpArgs false
open Go.IntKind (i64 u8)
namespace Go.SF
open Go.SX Go
theorem Pq(p:Int)(a b:List Int)(n:Nat):(tT p a b n).length=n:=cU _ _
theorem G2 :
 ∀(d:Int×List Int×List Int),Ty.wf ah d.1/\Ty.wf ai d.2.1/\Ty.wf ai d.2.2->True->True/\((!c9 d.1 d.2.1 d.2.2)=true->[]=gq d.1 d.2.1 d.2.2)/\((!c9 d.1 d.2.1 d.2.2)=false->True/\(Ty.wf ah (ab d.1)->(0:Nat)<=d.2.1.length/\((d.1=d.1/\ae d.2.1/\ae d.2.2/\aQ/\ae (ab d.1)/\ae (d.2.1.length:Int)/\(0:Int)=(↑(0:Nat):Int))/\[]=tT (ab d.1) d.2.1 d.2.2 (0:Nat))/\∀(x:Nat),x<=d.2.1.length->(decide ((x:Int)<(d.2.1.length:Int))=true->(0:Nat)<=d.2.1.length/\((d.1=d.1/\ae d.2.1/\ae d.2.2/\aQ/\ae (ab d.1)/\ae (d.2.1.length:Int)/\ae (x:Int)/\(0:Int)=gl (ab d.1) d.2.1 d.2.2 x (0:Nat)/\(0:Int)=(↑(0:Nat):Int))/\ae (tT (ab d.1) d.2.1 d.2.2 x))/\∀(x_1:Nat),x_1<=d.2.1.length->(decide ((x_1:Int)<(d.2.1.length:Int))=true->((0:Int)<=(x_1:Int)/\(x_1:Int)<(d.2.1.length:Int))/\(d.2.1.length:Int)≠(0:Int)/\((0:Int)<=Int.tmod (i64.wrap (i64.wrap ((x:Int)-(x_1:Int))+(d.2.1.length:Int))) (d.2.1.length:Int)/\Int.tmod (i64.wrap (i64.wrap ((x:Int)-(x_1:Int))+(d.2.1.length:Int))) (d.2.1.length:Int)<(d.2.2.length:Int))/\ab d.1≠(0:Int)/\(decide ((x:Int)<(x_1:Int))=true->ab d.1≠(0:Int)/\∃(x':Nat),x'<=d.2.1.length/\d.2.1.length-x'<d.2.1.length-x_1/\(d.1=d.1/\ae d.2.1/\ae d.2.2/\aQ/\ae (ab d.1)/\ae (d.2.1.length:Int)/\ae (x:Int)/\Int.tmod (i64.wrap (gl (ab d.1) d.2.1 d.2.2 x x_1+i64.wrap (ab d.1-Int.tmod (i64.wrap (d.2.1.getD ((x_1:Int).toNat) (0:Int)*d.2.2.getD (Int.toNat (Int.tmod (i64.wrap (i64.wrap ((x:Int)-(x_1:Int))+(d.2.1.length:Int))) (d.2.1.length:Int))) (0:Int))) (ab d.1)))) (ab d.1)=gl (ab d.1) d.2.1 d.2.2 x x'/\i64.wrap ((x_1:Int)+(1:Int))=(x':Int))/\ae (tT (ab d.1) d.2.1 d.2.2 x))/\(decide ((x:Int)<(x_1:Int))=false->ab d.1≠(0:Int)/\∃(x':Nat),x'<=d.2.1.length/\d.2.1.length-x'<d.2.1.length-x_1/\(d.1=d.1/\ae d.2.1/\ae d.2.2/\aQ/\ae (ab d.1)/\ae (d.2.1.length:Int)/\ae (x:Int)/\Int.tmod (i64.wrap (gl (ab d.1) d.2.1 d.2.2 x x_1+Int.tmod (i64.wrap (d.2.1.getD ((x_1:Int).toNat) (0:Int)*d.2.2.getD (Int.toNat (Int.tmod (i64.wrap (i64.wrap ((x:Int)-(x_1:Int))+(d.2.1.length:Int))) (d.2.1.length:Int))) (0:Int))) (ab d.1))) (ab d.1)=gl (ab d.1) d.2.1 d.2.2 x x'/\i64.wrap ((x_1:Int)+(1:Int))=(x':Int))/\ae (tT (ab d.1) d.2.1 d.2.2 x)))/\(decide ((x_1:Int)<(d.2.1.length:Int))=false->(List.length (tT (ab d.1) d.2.1 d.2.2 x)+List.length [gl (ab d.1) d.2.1 d.2.2 x x_1])*(8:Nat)<=(140737488355328:Nat)/\∃(x':Nat),x'<=d.2.1.length/\d.2.1.length-x'<d.2.1.length-x/\(d.1=d.1/\ae d.2.1/\ae d.2.2/\aQ/\ae (ab d.1)/\ae (d.2.1.length:Int)/\i64.wrap ((x:Int)+(1:Int))=(x':Int))/\tT (ab d.1) d.2.1 d.2.2 x++[gl (ab d.1) d.2.1 d.2.2 x x_1]=tT (ab d.1) d.2.1 d.2.2 x'))/\(decide ((x:Int)<(d.2.1.length:Int))=false->tT (ab d.1) d.2.1 d.2.2 x=gq d.1 d.2.1 d.2.2))):=by
  intro d hw hp
  obtain⟨f,a,b⟩:=d
  simp only[exists_const,forall_const,decide_eq_true_eq,decide_eq_false_iff_not,beq_iff_eq,sxS]
  refine⟨fun h=>by unfold gq;rw[if_neg (by rw[h];simp)],fun h _=>?_⟩
  obtain⟨ib,ha,hb⟩:=vQ h
  obtain⟨hm,lQ,_⟩:=cq ha
  obtain⟨_,ic,_⟩:=cq hb
  obtain⟨l1,l2,l3,l4⟩:=nu ha
  have nZ:=(bu hm).1
  have aJ:=nZ
  unfold an at aJ
  refine⟨Nat.zero_le _,⟨rfl,rfl⟩,fun i hi=>⟨fun KK=>⟨Nat.zero_le _,⟨rfl,rfl⟩,fun j hj=>⟨fun HA=>?_,fun TH=>⟨?_,i+1,by omega,by omega,?_,?_⟩⟩⟩,fun TE=>?_⟩⟩
  ·have uE:(i64.wrap (i64.wrap ((i:Int)-(j:Int))+(a.length:Int))).tmod (a.length:Int)=(((i+a.length-j)%a.length:Nat):Int):=by
    rw[wrap_small (n:=(i:Int)-j) (by omega),wrap_small (by omega),Int.tmod_eq_emod_of_nonneg (by omega)]
    have:(i:Int)-j+a.length=((i+a.length-j:Nat):Int):=by omega
    rw[this];rfl
   have aK:(i+a.length-j)%a.length<a.length:=Nat.mod_lt _ l1
   have N6:=Ar (p:=ab f) (a:=a) (b:=b) (i:=i) (by omega) j (by omega)
   have DI:=Ar (p:=ab f) (a:=a) (b:=b) (i:=i) (by omega) (j+1) (by omega)
   rw[Ol,N6] at DI
   have e4:=Om nZ a b i j
   unfold El at e4
   have e1:=i_ nZ (dm nZ lQ j) (dm nZ ic ((i+a.length-j)%a.length))
   rw[uE,Int.toNat_natCast,wrap_small (n:=a.getD j 0*b.getD ((i+a.length-j)%a.length) 0) (by omega),Int.tmod_eq_emod_of_nonneg e1.1]
   have e5:=cN (p:=ab f) (by omega) (a.getD j 0*b.getD ((i+a.length-j)%a.length) 0)
   unfold El at e5
   generalize a.getD j 0*b.getD ((i+a.length-j)%a.length) 0%ab f=X at *
   refine⟨⟨by omega,HA⟩,by omega,⟨by omega,by omega⟩,hm,fun hc=>⟨hm,j+1,by omega,by omega,?_,?_⟩,fun hc=>⟨hm,j+1,by omega,by omega,?_,?_⟩⟩
   ·rw[if_pos (by omega)] at DI
    rw[wrap_small (n:=ab f-X) (by omega),wrap_small (by omega),Int.tmod_eq_emod_of_nonneg (by omega),DI]
   ·rw[wrap_small (by omega)];rfl
   ·rw[if_neg (by omega)] at DI
    rw[wrap_small (by omega),Int.tmod_eq_emod_of_nonneg (by omega),DI]
   ·rw[wrap_small (by omega)];rfl
  ·rw[Pq,List.length_singleton];omega
  ·rw[wrap_small (by omega)];rfl
  ·rw[show j=a.length by omega]
   simp[tT,List.range_succ]
  ·rw[show i=a.length by omega]
   unfold gq tT
   rw[if_pos h]
theorem rV{f:Int}{ls:List (List Int)}{k:Nat}(hk:k<ls.length)(h:¬(aA f (ls.getD k [])=true/\(ls.getD k []).length=(ls.getD 0 []).length)):((0,0,0),false)=aE f ls:=by
 unfold aE
 rw[if_neg]
 intro hb
 unfold oC at hb
 have hb:=of_decide_eq_true hb
 apply h
 refine hb _ ?_
 rw[List.getD_eq_getElem?_getD,List.getElem?_eq_getElem hk]
 exact List.getElem_mem _
theorem xL :
 ∀(d:Int×List (List Int)),Ty.wf ah d.1/\Ty.wf (Ty.sl ai) d.2->d.2.length=(2:Nat)->True/\(Ty.wf bm (al d.1).1/\Ty.wf Ty.bool (al d.1).2->((!(al d.1).2)=true->(((0:Int),(0:Int),(0:Int)),false)=aE d.1 d.2)/\((!(al d.1).2)=false->((0:Nat)<=d.2.length/\Ii d.1 d.2 (0:Nat))/\((d.1=d.1/\d.2=d.2/\ae ((al d.1).2)/\d.2=d.2/\ae (d.2.length:Int)/\(0:Int)=(↑(0:Nat):Int))/\(ae (0:Int)/\ae (0:Int)/\ae (0:Int))/\ae ((al d.1).1.1)/\ae ((al d.1).1.2.1)/\ae ((al d.1).1.2.2))/\∀(x:Nat),x<=d.2.length/\Ii d.1 d.2 x->(decide ((x:Int)<(d.2.length:Int))=true->((0:Int)<=(x:Int)/\(x:Int)<(d.2.length:Int))/\True/\(Ty.wf ah (ax (↑(List.length (d.2.getD ((x:Int).toNat) [])):Int))->(decide (ax (↑(List.length (d.2.getD ((x:Int).toNat) [])):Int)<(0:Int))=true->(((0:Int),(0:Int),(0:Int)),false)=aE d.1 d.2)/\(decide (ax (↑(List.length (d.2.getD ((x:Int).toNat) [])):Int)<(0:Int))=false->(decide (Prod.snd (al d.1).1.2<ax (↑(List.length (d.2.getD ((x:Int).toNat) [])):Int))=true->(((0:Int),(0:Int),(0:Int)),false)=aE d.1 d.2)/\(decide (Prod.snd (al d.1).1.2<ax (↑(List.length (d.2.getD ((x:Int).toNat) [])):Int))=false->True/\((!ak (al d.1).1.1 (d.2.getD ((x:Int).toNat) []))=true->(((0:Int),(0:Int),(0:Int)),false)=aE d.1 d.2)/\((!ak (al d.1).1.1 (d.2.getD ((x:Int).toNat) []))=false->((0:Int)<=(0:Int)/\(0:Int)<(d.2.length:Int))/\((!decide ((↑(List.length (d.2.getD ((x:Int).toNat) [])):Int)=(↑(List.length (d.2.getD ((0:Int).toNat) [])):Int)))=true->(((0:Int),(0:Int),(0:Int)),false)=aE d.1 d.2)/\((!decide ((↑(List.length (d.2.getD ((x:Int).toNat) [])):Int)=(↑(List.length (d.2.getD ((0:Int).toNat) [])):Int)))=false->∃(x':Nat),(x'<=d.2.length/\Ii d.1 d.2 x')/\d.2.length-x'<d.2.length-x/\(d.1=d.1/\d.2=d.2/\ae ((al d.1).2)/\d.2=d.2/\ae (d.2.length:Int)/\i64.wrap ((x:Int)+(1:Int))=(x':Int))/\(ae (0:Int)/\ae (0:Int)/\ae (0:Int))/\ae ((al d.1).1.1)/\ae ((al d.1).1.2.1)/\ae ((al d.1).1.2.2)))))))/\(decide ((x:Int)<(d.2.length:Int))=false->(Prod.fst (al d.1),true)=aE d.1 d.2))):=by
  intro d hw hp
  obtain⟨f,ls⟩:=d
  replace hp:ls.length=2:=hp
  simp only[exists_const,forall_const,decide_eq_true_eq,decide_eq_false_iff_not,beq_iff_eq,sxS]
  refine fun _=>⟨fun h=>?_,fun h=>?_⟩
  ·have hm:ab f=0:=by
    rcases Bl f with h1|h1
    ·exact h1.1
    ·have:=et.2 h1.2
     rw[h] at this;cases this
   refine rV (k:=0) (by omega) (fun hv=>?_)
   exact (cq hv.1).1 hm
  ·have hf:=et.1 h
   have hm:ab f≠0:=by have:=(gL hf).1;omega
   have ht:cE f=(al f).1.2.2:=by unfold cE;rw[if_pos h]
   have HF:(al f).1.1=ab f:=rfl
   refine⟨⟨Nat.zero_le _,fun i hi=>absurd hi (Nat.not_lt_zero _)⟩,rfl,fun k hk=>⟨fun aK=>⟨⟨by omega,aK⟩,fun _=>?_⟩,fun dU=>?_⟩⟩
   ·have HB:k<ls.length:=by omega
    refine⟨fun h1=>?_,fun h1=>⟨fun h2=>?_,fun h2=>⟨fun h3=>?_,fun h3=>⟨⟨by omega,by omega⟩,fun h4=>?_,fun h4=>⟨k+1,⟨by omega,fun i hi=>?_⟩,by omega,?_⟩⟩⟩⟩⟩
    ·refine rV HB (fun hv=>?_)
     have:=(nu hv.1).2.2.1
     omega
    ·refine rV HB (fun hv=>?_)
     obtain⟨_,_,K,hK,_,_,eW⟩:=cq hv.1
     omega
    ·refine rV HB (fun hv=>?_)
     obtain⟨_,he,_⟩:=cq hv.1
     rw[HF,he] at h3;cases h3
    ·refine rV HB (fun hv=>?_)
     have:=hv.2
     rw[this] at h4
     exact h4 rfl
    ·rcases Nat.lt_or_ge i k with fL|fL
     ·exact hk.2 i fL
     ·have:i=k:=by omega
      subst this
      refine⟨?_,by exact_mod_cast h4⟩
      unfold aA
      simp only[Bool.and_eq_true,decide_eq_true_eq]
      exact⟨⟨by omega,by omega⟩,fb hm (by rw[<-HF];exact h3)⟩
    ·have:=hk.1
     rw[wrap_small (by omega)];rfl
   ·unfold aE
    have hb:oC f ls=true:=by
     unfold oC
     refine decide_eq_true fun v hv=>?_
     obtain⟨i,hi,rfl⟩:=List.getElem_of_mem hv
     have:=hk.2 i (by have:=hk.1;omega)
     rw[List.getD_eq_getElem?_getD,List.getElem?_eq_getElem hi] at this
     exact this
    rw[if_pos hb]
theorem Fm :
 ∀(d:(Int×Int×Int)×List Int),Ty.wf bm d.1/\Ty.wf ai d.2->kg d.1 d.2->d.1.1≠(0:Int)/\(an d.1.1/\El d.1.1 (Int.tmod (d.2.length:Int) d.1.1))/\(Ty.wf ah (aR d.1.1 (Int.tmod (d.2.length:Int) d.1.1))->((0:Int)<=(d.2.length:Int)/\(d.2.length:Int)<=(d.2.length:Int)/\(d.2.length:Int)*(↑(8:Nat):Int)<=(140737488355328:Int))/\kg d.1 d.2/\(Ty.wf ai (aZ d.1.1 d.2 (aO d.1 (ax (d.2.length:Int))) d.2.length)->(0:Nat)<=d.2.length/\(((ae d.1.1/\ae d.1.2.1/\ae d.1.2.2)/\d.2=d.2/\aQ/\ae (d.2.length:Int)/\ae (aR d.1.1 (Int.tmod (d.2.length:Int) d.1.1))/\ae (↑(List.length (aZ d.1.1 d.2 (aO d.1 (ax (d.2.length:Int))) d.2.length)):Int)/\(0:Int)=(↑(0:Nat):Int))/\(ae d.1.1/\ae d.1.2.1/\ae d.1.2.2)/\List.replicate ((d.2.length:Int).toNat) (0:Int)=ui d.1.1 (aO d.1 (ax (d.2.length:Int))) (aR d.1.1 (s4 d.1.1 (d.2.length:Int))) d.2 (0:Nat)/\ae (aZ d.1.1 d.2 (aO d.1 (ax (d.2.length:Int))) d.2.length))/\∀(x:Nat),x<=d.2.length->(decide ((x:Int)<(↑(List.length (aZ d.1.1 d.2 (aO d.1 (ax (d.2.length:Int))) d.2.length)):Int))=true->((0:Int)<=(x:Int)/\(x:Int)<(↑(List.length (aZ d.1.1 d.2 (aO d.1 (ax (d.2.length:Int))) d.2.length)):Int))/\(d.2.length:Int)≠(0:Int)/\(an d.1.1/\El d.1.1 (List.getD (aZ d.1.1 d.2 (aO d.1 (ax (d.2.length:Int))) d.2.length) ((x:Int).toNat) (0:Int))/\El d.1.1 (aR d.1.1 (Int.tmod (d.2.length:Int) d.1.1)))/\((0:Int)<=Int.tmod (i64.wrap ((d.2.length:Int)-(x:Int))) (d.2.length:Int)/\Int.tmod (i64.wrap ((d.2.length:Int)-(x:Int))) (d.2.length:Int)<(↑(List.length (ui d.1.1 (aO d.1 (ax (d.2.length:Int))) (aR d.1.1 (s4 d.1.1 (d.2.length:Int))) d.2 x)):Int))/\(Ty.wf ah (mulM d.1.1 (List.getD (aZ d.1.1 d.2 (aO d.1 (ax (d.2.length:Int))) d.2.length) ((x:Int).toNat) (0:Int)) (aR d.1.1 (Int.tmod (d.2.length:Int) d.1.1)))->∃(x':Nat),x'<=d.2.length/\d.2.length-x'<d.2.length-x/\((ae d.1.1/\ae d.1.2.1/\ae d.1.2.2)/\d.2=d.2/\aQ/\ae (d.2.length:Int)/\ae (aR d.1.1 (Int.tmod (d.2.length:Int) d.1.1))/\ae (↑(List.length (aZ d.1.1 d.2 (aO d.1 (ax (d.2.length:Int))) d.2.length)):Int)/\i64.wrap ((x:Int)+(1:Int))=(x':Int))/\(ae d.1.1/\ae d.1.2.1/\ae d.1.2.2)/\List.set (ui d.1.1 (aO d.1 (ax (d.2.length:Int))) (aR d.1.1 (s4 d.1.1 (d.2.length:Int))) d.2 x) (Int.toNat (Int.tmod (i64.wrap ((d.2.length:Int)-(x:Int))) (d.2.length:Int))) (mulM d.1.1 (List.getD (aZ d.1.1 d.2 (aO d.1 (ax (d.2.length:Int))) d.2.length) ((x:Int).toNat) (0:Int)) (aR d.1.1 (Int.tmod (d.2.length:Int) d.1.1)))=ui d.1.1 (aO d.1 (ax (d.2.length:Int))) (aR d.1.1 (s4 d.1.1 (d.2.length:Int))) d.2 x'/\ae (aZ d.1.1 d.2 (aO d.1 (ax (d.2.length:Int))) d.2.length)))/\(decide ((x:Int)<(↑(List.length (aZ d.1.1 d.2 (aO d.1 (ax (d.2.length:Int))) d.2.length)):Int))=false->ui d.1.1 (aO d.1 (ax (d.2.length:Int))) (aR d.1.1 (s4 d.1.1 (d.2.length:Int))) d.2 x=q8 d.1.1 (aO d.1 (ax (d.2.length:Int))) (aR d.1.1 (d.2.length:Int)) d.2))):=by
  intro d hw hp
  obtain⟨d,v⟩:=d
  obtain⟨f,h,hd⟩:=hp
  replace h:aA f v=true:=h
  replace hd:d=(al f).1:=hd
  obtain⟨hm,he,K,hK,po,hlen,eW⟩:=cq h
  obtain⟨l1,l2,l3,l4⟩:=nu h
  have nZ:=(bu hm).1
  have aJ:=nZ
  unfold an at aJ
  have yH:d.1=ab f:=by rw[hd];rfl
  have T1:(v.length:Int).tmod d.1=s4 d.1 v.length:=by rw[Int.tmod_eq_emod_of_nonneg (by omega)];rfl
  have nc:an d.1:=by rw[yH];exact nZ
  have tM:∀ w r i,(ui d.1 w r v i).length=v.length:=fun w r i=>cU _ _
  simp only[exists_const,forall_const,decide_eq_true_eq,decide_eq_false_iff_not,beq_iff_eq,sxS]
  rw[T1]
  have hinv:aR d.1 (s4 d.1 v.length)=aR d.1 v.length:=by unfold aR bq s4;rw[pow_mod]
  generalize N_:aO d (ax v.length)=w at *
  refine⟨by omega,⟨nc,cN (by omega) _⟩,fun _=>⟨⟨by omega,by omega,by show (v.length:Int)*((8:Nat):Int)<=140737488355328;omega⟩,⟨f,h,hd⟩,fun _=>⟨Nat.zero_le _,⟨rfl,?_⟩,fun i hi=>⟨fun aK=>?_,fun dU=>?_⟩⟩⟩⟩
  ·refine List.ext_getElem (by rw[tM,List.length_replicate]) fun t h1 h2=>?_
   simp[ui]
  ·rw[dW] at aK ⊢
   have dY:i<v.length:=by omega
   have uE:(i64.wrap ((v.length:Int)-(i:Int))).tmod (v.length:Int)=(((v.length-i)%v.length:Nat):Int):=by
    rw[wrap_small (by omega),Int.tmod_eq_emod_of_nonneg (by omega)]
    have:(v.length:Int)-i=((v.length-i:Nat):Int):=by omega
    rw[this];rfl
   have NY:(v.length-i)%v.length<v.length:=Nat.mod_lt _ l1
   rw[C9 _ _ _ dY,uE,Int.toNat_natCast,tM]
   refine⟨⟨by omega,aK⟩,by omega,⟨nc,cN (by omega) _,oF nc _⟩,⟨by omega,by omega⟩,fun _=>⟨i+1,by omega,by omega,?_,?_⟩⟩
   ·rw[wrap_small (by omega)];rfl
   ·have NR:(v.length-(v.length-i)%v.length)%v.length=i:=by
     rcases Nat.eq_zero_or_pos i with h0|h0
     ·subst h0;rw[Nat.sub_zero,Nat.mod_self,Nat.sub_zero,Nat.mod_self]
     ·rw[Nat.mod_eq_of_lt (by omega:v.length-i<v.length),show v.length-(v.length-i)=i by omega,Nat.mod_eq_of_lt dY]
    refine List.ext_getElem (by rw[List.length_set,tM,tM]) fun t h1 h2=>?_
    rw[tM] at h2
    rw[List.getElem_set]
    have lT:(v.length-t)%v.length<v.length:=Nat.mod_lt _ l1
    by_cases ht:(v.length-i)%v.length=t
    ·rw[if_pos ht]
     subst ht
     simp only[ui,List.getElem_map,List.getElem_range]
     rw[NR,if_pos (Nat.lt_succ_self i)]
     unfold zO
     rw[NR]
    ·rw[if_neg ht]
     simp only[ui,List.getElem_map,List.getElem_range]
     have bo:(v.length-t)%v.length≠i:=by
      intro e
      apply ht
      rw[<-e]
      rcases Nat.eq_zero_or_pos t with h0|h0
      ·subst h0;rw[Nat.sub_zero,Nat.mod_self,Nat.sub_zero,Nat.mod_self]
      ·rw[Nat.mod_eq_of_lt (by omega:v.length-t<v.length),show v.length-(v.length-t)=t by omega,Nat.mod_eq_of_lt h2]
     by_cases hc:(v.length-t)%v.length<i
     ·rw[if_pos hc,if_pos (by omega)]
     ·rw[if_neg hc,if_neg (by omega)]
  ·rw[dW] at dU
   rw[show i=v.length by omega,hinv]
   refine List.ext_getElem (by rw[tM];unfold q8;rw[cU]) fun t h1 h2=>?_
   simp only[ui,q8,List.getElem_map,List.getElem_range]
   rw[if_pos (Nat.mod_lt _ l1)]
set_option maxRecDepth 10000
theorem JI :
 ∀(d:(Int×Int×Int)×List Int×List Int),Ty.wf bm d.1/\Ty.wf ai d.2.1/\Ty.wf ai d.2.2->an d.1.1/\ak d.1.1 d.2.1=true/\(2:Nat)<=d.2.1.length/\d.2.1.length<=(1000:Nat)/\Mq d.1.1 d.2.2->((0:Nat)+d.2.1.length)*(8:Nat)<=(140737488355328:Nat)/\(decide ((d.2.1.length:Int)<(d.2.2.length:Int))=true->([],[]++d.2.1)=mc d.1.1 d.2.1 d.2.2)/\(decide ((d.2.1.length:Int)<(d.2.2.length:Int))=false->((0:Int)<=i64.wrap (i64.wrap ((d.2.1.length:Int)-(d.2.2.length:Int))+(1:Int))/\i64.wrap (i64.wrap ((d.2.1.length:Int)-(d.2.2.length:Int))+(1:Int))<=i64.wrap (i64.wrap ((d.2.1.length:Int)-(d.2.2.length:Int))+(1:Int))/\i64.wrap (i64.wrap ((d.2.1.length:Int)-(d.2.2.length:Int))+(1:Int))*(↑(8:Nat):Int)<=(140737488355328:Int))/\((0:Int)<=i64.wrap ((d.2.2.length:Int)-(1:Int))/\i64.wrap ((d.2.2.length:Int)-(1:Int))<(d.2.2.length:Int))/\(an d.1.1/\El d.1.1 (d.2.2.getD (Int.toNat (i64.wrap ((d.2.2.length:Int)-(1:Int)))) (0:Int)))/\(Ty.wf ah (aR d.1.1 (d.2.2.getD (Int.toNat (i64.wrap ((d.2.2.length:Int)-(1:Int)))) (0:Int)))->(0:Nat)<=d.2.1.length-(1:Nat)/\(((ae d.1.1/\ae d.1.2.1/\ae d.1.2.2)/\ae d.2.1/\ae d.2.2/\aQ/\aQ/\ae (aR d.1.1 (d.2.2.getD (Int.toNat (i64.wrap ((d.2.2.length:Int)-(1:Int)))) (0:Int)))/\i64.wrap ((↑(List.length (List.replicate (Int.toNat (i64.wrap (i64.wrap ((d.2.1.length:Int)-(d.2.2.length:Int))+(1:Int)))) (0:Int))):Int)-(1:Int))=(d.2.1.length:Int)-(2:Int)-(↑(0:Nat):Int))/\(ae d.1.1/\ae d.1.2.1/\ae d.1.2.2)/\[]++d.2.1=bR d.1.1 (d.2.2.getD (0:Nat) (0:Int)) d.2.1 (0:Nat)/\List.replicate (Int.toNat (i64.wrap (i64.wrap ((d.2.1.length:Int)-(d.2.2.length:Int))+(1:Int)))) (0:Int)=iE d.1.1 (d.2.2.getD (0:Nat) (0:Int)) d.2.1 (0:Nat))/\∀(x:Nat),x<=d.2.1.length-(1:Nat)->(decide ((0:Int)<=(d.2.1.length:Int)-(2:Int)-(x:Int))=true->((0:Int)<=i64.wrap (i64.wrap ((d.2.1.length:Int)-(2:Int)-(x:Int)+(d.2.2.length:Int))-(1:Int))/\i64.wrap (i64.wrap ((d.2.1.length:Int)-(2:Int)-(x:Int)+(d.2.2.length:Int))-(1:Int))<(↑(List.length (bR d.1.1 (d.2.2.getD (0:Nat) (0:Int)) d.2.1 x)):Int))/\(an d.1.1/\El d.1.1 (List.getD (bR d.1.1 (d.2.2.getD (0:Nat) (0:Int)) d.2.1 x) (Int.toNat (i64.wrap (i64.wrap ((d.2.1.length:Int)-(2:Int)-(x:Int)+(d.2.2.length:Int))-(1:Int)))) (0:Int))/\El d.1.1 (aR d.1.1 (d.2.2.getD (Int.toNat (i64.wrap ((d.2.2.length:Int)-(1:Int)))) (0:Int))))/\(Ty.wf ah (mulM d.1.1 (List.getD (bR d.1.1 (d.2.2.getD (0:Nat) (0:Int)) d.2.1 x) (Int.toNat (i64.wrap (i64.wrap ((d.2.1.length:Int)-(2:Int)-(x:Int)+(d.2.2.length:Int))-(1:Int)))) (0:Int)) (aR d.1.1 (d.2.2.getD (Int.toNat (i64.wrap ((d.2.2.length:Int)-(1:Int)))) (0:Int))))->((0:Int)<=(d.2.1.length:Int)-(2:Int)-(x:Int)/\(d.2.1.length:Int)-(2:Int)-(x:Int)<(↑(List.length (iE d.1.1 (d.2.2.getD (0:Nat) (0:Int)) d.2.1 x)):Int))/\(decide (mulM d.1.1 (List.getD (bR d.1.1 (d.2.2.getD (0:Nat) (0:Int)) d.2.1 x) (Int.toNat (i64.wrap (i64.wrap ((d.2.1.length:Int)-(2:Int)-(x:Int)+(d.2.2.length:Int))-(1:Int)))) (0:Int)) (aR d.1.1 (d.2.2.getD (Int.toNat (i64.wrap ((d.2.2.length:Int)-(1:Int)))) (0:Int)))=(0:Int))=true->∃(x':Nat),x'<=d.2.1.length-(1:Nat)/\d.2.1.length-(1:Nat)-x'<d.2.1.length-(1:Nat)-x/\((ae d.1.1/\ae d.1.2.1/\ae d.1.2.2)/\ae d.2.1/\ae d.2.2/\aQ/\aQ/\ae (aR d.1.1 (d.2.2.getD (Int.toNat (i64.wrap ((d.2.2.length:Int)-(1:Int)))) (0:Int)))/\i64.wrap ((d.2.1.length:Int)-(2:Int)-(x:Int)-(1:Int))=(d.2.1.length:Int)-(2:Int)-(x':Int))/\(ae d.1.1/\ae d.1.2.1/\ae d.1.2.2)/\bR d.1.1 (d.2.2.getD (0:Nat) (0:Int)) d.2.1 x=bR d.1.1 (d.2.2.getD (0:Nat) (0:Int)) d.2.1 x'/\List.set (iE d.1.1 (d.2.2.getD (0:Nat) (0:Int)) d.2.1 x) (Int.toNat ((d.2.1.length:Int)-(2:Int)-(x:Int))) (mulM d.1.1 (List.getD (bR d.1.1 (d.2.2.getD (0:Nat) (0:Int)) d.2.1 x) (Int.toNat (i64.wrap (i64.wrap ((d.2.1.length:Int)-(2:Int)-(x:Int)+(d.2.2.length:Int))-(1:Int)))) (0:Int)) (aR d.1.1 (d.2.2.getD (Int.toNat (i64.wrap ((d.2.2.length:Int)-(1:Int)))) (0:Int))))=iE d.1.1 (d.2.2.getD (0:Nat) (0:Int)) d.2.1 x')/\(decide (mulM d.1.1 (List.getD (bR d.1.1 (d.2.2.getD (0:Nat) (0:Int)) d.2.1 x) (Int.toNat (i64.wrap (i64.wrap ((d.2.1.length:Int)-(2:Int)-(x:Int)+(d.2.2.length:Int))-(1:Int)))) (0:Int)) (aR d.1.1 (d.2.2.getD (Int.toNat (i64.wrap ((d.2.2.length:Int)-(1:Int)))) (0:Int)))=(0:Int))=false->(0:Nat)<=(2:Nat)/\(((ae d.1.1/\ae d.1.2.1/\ae d.1.2.2)/\ae d.2.1/\ae d.2.2/\aQ/\aQ/\ae (aR d.1.1 (d.2.2.getD (Int.toNat (i64.wrap ((d.2.2.length:Int)-(1:Int)))) (0:Int)))/\ae ((d.2.1.length:Int)-(2:Int)-(x:Int))/\ae (mulM d.1.1 (List.getD (bR d.1.1 (d.2.2.getD (0:Nat) (0:Int)) d.2.1 x) (Int.toNat (i64.wrap (i64.wrap ((d.2.1.length:Int)-(2:Int)-(x:Int)+(d.2.2.length:Int))-(1:Int)))) (0:Int)) (aR d.1.1 (d.2.2.getD (Int.toNat (i64.wrap ((d.2.2.length:Int)-(1:Int)))) (0:Int))))/\ae d.2.2/\ae (d.2.2.length:Int)/\(0:Int)=(↑(0:Nat):Int))/\(ae d.1.1/\ae d.1.2.1/\ae d.1.2.2)/\bR d.1.1 (d.2.2.getD (0:Nat) (0:Int)) d.2.1 x=iJ d.1.1 (d.2.2.getD (0:Nat) (0:Int)) d.2.1 x (0:Nat)/\List.set (iE d.1.1 (d.2.2.getD (0:Nat) (0:Int)) d.2.1 x) (Int.toNat ((d.2.1.length:Int)-(2:Int)-(x:Int))) (mulM d.1.1 (List.getD (bR d.1.1 (d.2.2.getD (0:Nat) (0:Int)) d.2.1 x) (Int.toNat (i64.wrap (i64.wrap ((d.2.1.length:Int)-(2:Int)-(x:Int)+(d.2.2.length:Int))-(1:Int)))) (0:Int)) (aR d.1.1 (d.2.2.getD (Int.toNat (i64.wrap ((d.2.2.length:Int)-(1:Int)))) (0:Int))))=iE d.1.1 (d.2.2.getD (0:Nat) (0:Int)) d.2.1 (x+(1:Nat)))/\∀(x_1:Nat),x_1<=(2:Nat)->(decide ((x_1:Int)<(d.2.2.length:Int))=true->((0:Int)<=(x_1:Int)/\(x_1:Int)<(d.2.2.length:Int))/\((0:Int)<=i64.wrap ((d.2.1.length:Int)-(2:Int)-(x:Int)+(x_1:Int))/\i64.wrap ((d.2.1.length:Int)-(2:Int)-(x:Int)+(x_1:Int))<(↑(List.length (iJ d.1.1 (d.2.2.getD (0:Nat) (0:Int)) d.2.1 x x_1)):Int))/\(an d.1.1/\El d.1.1 (mulM d.1.1 (List.getD (bR d.1.1 (d.2.2.getD (0:Nat) (0:Int)) d.2.1 x) (Int.toNat (i64.wrap (i64.wrap ((d.2.1.length:Int)-(2:Int)-(x:Int)+(d.2.2.length:Int))-(1:Int)))) (0:Int)) (aR d.1.1 (d.2.2.getD (Int.toNat (i64.wrap ((d.2.2.length:Int)-(1:Int)))) (0:Int))))/\El d.1.1 (d.2.2.getD ((x_1:Int).toNat) (0:Int)))/\(an d.1.1/\El d.1.1 (List.getD (iJ d.1.1 (d.2.2.getD (0:Nat) (0:Int)) d.2.1 x x_1) (Int.toNat (i64.wrap ((d.2.1.length:Int)-(2:Int)-(x:Int)+(x_1:Int)))) (0:Int))/\El d.1.1 (mulM d.1.1 (mulM d.1.1 (List.getD (bR d.1.1 (d.2.2.getD (0:Nat) (0:Int)) d.2.1 x) (Int.toNat (i64.wrap (i64.wrap ((d.2.1.length:Int)-(2:Int)-(x:Int)+(d.2.2.length:Int))-(1:Int)))) (0:Int)) (aR d.1.1 (d.2.2.getD (Int.toNat (i64.wrap ((d.2.2.length:Int)-(1:Int)))) (0:Int)))) (d.2.2.getD ((x_1:Int).toNat) (0:Int))))/\((0:Int)<=i64.wrap ((d.2.1.length:Int)-(2:Int)-(x:Int)+(x_1:Int))/\i64.wrap ((d.2.1.length:Int)-(2:Int)-(x:Int)+(x_1:Int))<(↑(List.length (iJ d.1.1 (d.2.2.getD (0:Nat) (0:Int)) d.2.1 x x_1)):Int))/\(Ty.wf ah (bd d.1.1 (List.getD (iJ d.1.1 (d.2.2.getD (0:Nat) (0:Int)) d.2.1 x x_1) (Int.toNat (i64.wrap ((d.2.1.length:Int)-(2:Int)-(x:Int)+(x_1:Int)))) (0:Int)) (mulM d.1.1 (mulM d.1.1 (List.getD (bR d.1.1 (d.2.2.getD (0:Nat) (0:Int)) d.2.1 x) (Int.toNat (i64.wrap (i64.wrap ((d.2.1.length:Int)-(2:Int)-(x:Int)+(d.2.2.length:Int))-(1:Int)))) (0:Int)) (aR d.1.1 (d.2.2.getD (Int.toNat (i64.wrap ((d.2.2.length:Int)-(1:Int)))) (0:Int)))) (d.2.2.getD ((x_1:Int).toNat) (0:Int))))->Ty.wf ah (mulM d.1.1 (mulM d.1.1 (List.getD (bR d.1.1 (d.2.2.getD (0:Nat) (0:Int)) d.2.1 x) (Int.toNat (i64.wrap (i64.wrap ((d.2.1.length:Int)-(2:Int)-(x:Int)+(d.2.2.length:Int))-(1:Int)))) (0:Int)) (aR d.1.1 (d.2.2.getD (Int.toNat (i64.wrap ((d.2.2.length:Int)-(1:Int)))) (0:Int)))) (d.2.2.getD ((x_1:Int).toNat) (0:Int)))->∃(x':Nat),x'<=(2:Nat)/\(2:Nat)-x'<(2:Nat)-x_1/\((ae d.1.1/\ae d.1.2.1/\ae d.1.2.2)/\ae d.2.1/\ae d.2.2/\aQ/\aQ/\ae (aR d.1.1 (d.2.2.getD (Int.toNat (i64.wrap ((d.2.2.length:Int)-(1:Int)))) (0:Int)))/\ae ((d.2.1.length:Int)-(2:Int)-(x:Int))/\ae (mulM d.1.1 (List.getD (bR d.1.1 (d.2.2.getD (0:Nat) (0:Int)) d.2.1 x) (Int.toNat (i64.wrap (i64.wrap ((d.2.1.length:Int)-(2:Int)-(x:Int)+(d.2.2.length:Int))-(1:Int)))) (0:Int)) (aR d.1.1 (d.2.2.getD (Int.toNat (i64.wrap ((d.2.2.length:Int)-(1:Int)))) (0:Int))))/\ae d.2.2/\ae (d.2.2.length:Int)/\i64.wrap ((x_1:Int)+(1:Int))=(x':Int))/\(ae d.1.1/\ae d.1.2.1/\ae d.1.2.2)/\List.set (iJ d.1.1 (d.2.2.getD (0:Nat) (0:Int)) d.2.1 x x_1) (Int.toNat (i64.wrap ((d.2.1.length:Int)-(2:Int)-(x:Int)+(x_1:Int)))) (bd d.1.1 (List.getD (iJ d.1.1 (d.2.2.getD (0:Nat) (0:Int)) d.2.1 x x_1) (Int.toNat (i64.wrap ((d.2.1.length:Int)-(2:Int)-(x:Int)+(x_1:Int)))) (0:Int)) (mulM d.1.1 (mulM d.1.1 (List.getD (bR d.1.1 (d.2.2.getD (0:Nat) (0:Int)) d.2.1 x) (Int.toNat (i64.wrap (i64.wrap ((d.2.1.length:Int)-(2:Int)-(x:Int)+(d.2.2.length:Int))-(1:Int)))) (0:Int)) (aR d.1.1 (d.2.2.getD (Int.toNat (i64.wrap ((d.2.2.length:Int)-(1:Int)))) (0:Int)))) (d.2.2.getD ((x_1:Int).toNat) (0:Int))))=iJ d.1.1 (d.2.2.getD (0:Nat) (0:Int)) d.2.1 x x'/\ae (iE d.1.1 (d.2.2.getD (0:Nat) (0:Int)) d.2.1 (x+(1:Nat)))))/\(decide ((x_1:Int)<(d.2.2.length:Int))=false->∃(x':Nat),x'<=d.2.1.length-(1:Nat)/\d.2.1.length-(1:Nat)-x'<d.2.1.length-(1:Nat)-x/\((ae d.1.1/\ae d.1.2.1/\ae d.1.2.2)/\ae d.2.1/\ae d.2.2/\aQ/\aQ/\ae (aR d.1.1 (d.2.2.getD (Int.toNat (i64.wrap ((d.2.2.length:Int)-(1:Int)))) (0:Int)))/\i64.wrap ((d.2.1.length:Int)-(2:Int)-(x:Int)-(1:Int))=(d.2.1.length:Int)-(2:Int)-(x':Int))/\(ae d.1.1/\ae d.1.2.1/\ae d.1.2.2)/\iJ d.1.1 (d.2.2.getD (0:Nat) (0:Int)) d.2.1 x x_1=bR d.1.1 (d.2.2.getD (0:Nat) (0:Int)) d.2.1 x'/\iE d.1.1 (d.2.2.getD (0:Nat) (0:Int)) d.2.1 (x+(1:Nat))=iE d.1.1 (d.2.2.getD (0:Nat) (0:Int)) d.2.1 x'))))/\(decide ((0:Int)<=(d.2.1.length:Int)-(2:Int)-(x:Int))=false->((0:Int)<=i64.wrap ((d.2.2.length:Int)-(1:Int))/\i64.wrap ((d.2.2.length:Int)-(1:Int))<=(↑(List.length (bR d.1.1 (d.2.2.getD (0:Nat) (0:Int)) d.2.1 x)):Int))/\(iE d.1.1 (d.2.2.getD (0:Nat) (0:Int)) d.2.1 x,List.take (gA (List.take (Int.toNat (i64.wrap ((d.2.2.length:Int)-(1:Int)))) (bR d.1.1 (d.2.2.getD (0:Nat) (0:Int)) d.2.1 x))) (List.take (Int.toNat (i64.wrap ((d.2.2.length:Int)-(1:Int)))) (bR d.1.1 (d.2.2.getD (0:Nat) (0:Int)) d.2.1 x)))=mc d.1.1 d.2.1 d.2.2))):=by
  intro (d:Fd×List Int×List Int) hw hp
  obtain⟨⟨p,g,t⟩,xs,ys⟩:=d
  replace hp:an p/\ak p xs=true/\2<=xs.length/\xs.length<=1000/\ys.length=2/\ys.getD 1 0=1/\El p (ys.getD 0 0):=hp
  obtain⟨h0,he,h2,hl,iF,uA,hr⟩:=hp
  obtain⟨r,rfl⟩:∃ r,ys=[r,1]:=by
   match ys,iF,uA with
   | [r,o],_,h=>exact⟨r,by rw[show o=1 from h]⟩
  replace hr:El p r:=hr
  simp only[exists_const,forall_const,decide_eq_true_eq,decide_eq_false_iff_not,beq_iff_eq,sxS]
  have e0:([r,1]:List Int).getD 0 0=r:=rfl
  have eL:(([r,1]:List Int).length:Int)=2:=rfl
  have w1:i64.wrap (i64.wrap ((xs.length:Int)-2)+1)=((xs.length-1:Nat):Int):=by
   rw[wrap_small (n:=(xs.length:Int)-2) (by omega),wrap_small (by omega)];omega
  have w2:i64.wrap ((2:Int)-1)=1:=wrap_small (by omega)
  have e1:([r,1]:List Int).getD (Int.toNat 1) 0=1:=rfl
  have e2:Int.toNat 1=1:=rfl
  simp only[e0,eL,w1,w2,e1,inv_one h0,Int.toNat_natCast,List.length_replicate,List.nil_append,g9,Ng,La]
  refine⟨by omega,fun h=>absurd h (by omega),fun _=>⟨⟨by omega,by omega,by omega⟩,⟨by omega,by omega⟩,⟨h0,gC h0⟩,fun _=>⟨by omega,⟨by rw[wrap_small (by omega)];omega,Lc h2 he,LP _ _ _⟩,fun k hk=>⟨fun h=>?_,fun h=>?_⟩⟩⟩⟩
  ·have w3:i64.wrap (i64.wrap ((xs.length:Int)-2-(k:Int)+2)-1)=((xs.length-1-k:Nat):Int):=by
    rw[wrap_small (n:=(xs.length:Int)-2-(k:Int)+2) (by omega),wrap_small (by omega)];omega
   have i1:(xs.length:Int)-2-(k:Int)=((xs.length-2-k:Nat):Int):=by omega
   have hc:(bR p r xs k).getD (xs.length-1-k) 0=ij p r xs (k+1):=by rw[mq (by omega),if_neg (by omega),if_pos (by omega)]
   have yJ:mulM p (ij p r xs (k+1)) 1=ij p r xs (k+1):=by
    unfold mulM
    rw[Int.mul_one,eo (vD h0 _ _ _)]
   have w5:i64.wrap (((xs.length-2-k:Nat):Int)-1)=(xs.length:Int)-2-((k+1:Nat):Int):=by
    rw[wrap_small (by omega)];omega
   rw[w3]
   simp only[i1,Int.toNat_natCast,hc,yJ]
   refine⟨⟨by omega,by omega⟩,⟨h0,vD h0 _ _ _,gC h0⟩,fun _=>⟨⟨by omega,by omega⟩,fun hz=>?_,fun UZ=>?_⟩⟩
   ·exact⟨k+1,by omega,by omega,w5,Lb (by omega) he hz,EX (by omega)⟩
   ·refine⟨by omega,⟨rfl,rfl,EX (by omega)⟩,fun j hj=>⟨fun A9=>?_,fun A9=>?_⟩⟩
    ·have w4:i64.wrap (((xs.length-2-k:Nat):Int)+(j:Int))=((xs.length-2-k+j:Nat):Int):=by rw[wrap_small (by omega)];omega
     rw[w4,Int.toNat_natCast]
     have IG:(bR p r xs k).getD (xs.length-2-k) 0=xs.getD (xs.length-2-k) 0:=by rw[mq (by omega),if_pos (by omega)]
     match j,A9 with
     | 0,_ =>
       have e3:(iJ p r xs k 0).getD (xs.length-2-k+0) 0=xs.getD (xs.length-2-k) 0:=IG
       rw[e3]
       refine⟨⟨by omega,by omega⟩,⟨by omega,by omega⟩,⟨h0,vD h0 _ _ _,hr⟩,⟨h0,dr h0 he _,ea h0 _ _⟩,⟨by omega,by omega⟩,fun _ _=>⟨1,by omega,by omega,aC (by omega),?_⟩⟩
       show (bR p r xs k).set (xs.length-2-k) (bd p (xs.getD (xs.length-2-k) 0) (mulM p (ij p r xs (k+1)) r))=(bR p r xs k).set (xs.length-2-k) (bd p (xs.getD (xs.length-1-(k+1)) 0) (mulM p (ij p r xs (k+1)) r))
       rw[show xs.length-1-(k+1)=xs.length-2-k by omega]
     | 1,_ =>
       have e3:(iJ p r xs k 1).getD (xs.length-2-k+1) 0=ij p r xs (k+1):=by
        show ((bR p r xs k).set (xs.length-2-k) (ij p r xs (k+2))).getD (xs.length-2-k+1) 0=_
        rw[Ku (by rw[g9];omega),if_neg (by omega),show xs.length-2-k+1=xs.length-1-k by omega,hc]
       rw[e3]
       have e4:([r,1]:List Int).getD 1 0=1:=rfl
       rw[e4,yJ]
       refine⟨⟨by omega,by omega⟩,⟨by omega,by omega⟩,⟨h0,vD h0 _ _ _,gC h0⟩,⟨h0,vD h0 _ _ _,vD h0 _ _ _⟩,⟨by omega,by omega⟩,fun _ _=>⟨2,by omega,by omega,aC (by omega),?_⟩⟩
       show ((bR p r xs k).set (xs.length-2-k) (ij p r xs (k+2))).set (xs.length-2-k+1) (bd p (ij p r xs (k+1)) (ij p r xs (k+1)))=bR p r xs (k+1)
       unfold bd
       rw[Int.sub_self,Int.zero_emod,show xs.length-2-k+1=xs.length-1-k by omega]
       exact M1 (by omega)
    ·obtain rfl:j=2:=by omega
     exact⟨k+1,by omega,by omega,w5,rfl,rfl⟩
  ·obtain rfl:k=xs.length-1:=by omega
   refine⟨⟨by omega,by omega⟩,?_⟩
   rw[Nf]
   have ht:(bR p r xs (xs.length-1)).take (Int.toNat 1)=[ij p r xs xs.length]:=by
    refine pA (by rw[List.length_take,g9];simp only[e2,List.length_cons,List.length_nil];omega) (fun t ht=>?_)
    rw[List.length_take,e2] at ht
    obtain rfl:t=0:=by omega
    rw[e2,pX (by omega),mq (by omega),if_neg (by omega),if_pos (by omega),show xs.length-1+1=xs.length by omega]
    rfl
   rw[ht]
   rfl
set_option maxRecDepth 10000
theorem Td{n:Nat}(h:n<=10):bb .i64 1 (n:Int)=((2^n:Nat):Int):=by
 rw[sN (by omega)]
 exact (Int.natCast_pow 2 n).symm
theorem Tf{n:Nat}(h:n<=26):IntKind.u64.wrap (n:Int)=(n:Int):=vm ⟨n,by omega⟩
theorem DS{x:Int}(hx:0<=x){i:Nat}(hi:i<=63):iB .i64 x (i:Int)=x/2^i:=by
 unfold iB
 rw[Int.toNat_natCast,show min i i64.bits=i by show min i 64=i;omega,Int.fdiv_eq_ediv_of_nonneg _ (Int.le_of_lt (Int.pow_pos (by omega)))]
theorem Ie{h x y:Nat}(hy:y<h):(x*h+y)/h=x/\(x*h+y)%h=y:=by
 rw[Nat.mul_comm,Nat.mul_add_div (by omega),Nat.div_eq_of_lt hy,Nat.mul_add_mod,Nat.mod_eq_of_lt hy]
 exact⟨rfl,rfl⟩
theorem Rq{h x y:Nat}(hy:y<h):dp h (x*h+y)=x*(2*h)+y:=by
 unfold dp
 rw[(Ie hy).1,(Ie hy).2]
theorem Ck :
 ∀(d:Int),Ty.wf ah d->True->(decide (d=(0:Int))=true->(decide (d=(0:Int))=true->(3:Int)=bj d)/\(decide (d=(0:Int))=false->(decide (d=(1:Int))=true->(decide (d=(1:Int))=true->(5:Int)=bj d)/\(decide (d=(1:Int))=false->(decide (d=(4:Int))=true->(17:Int)=bj d)/\(decide (d=(4:Int))=false->(decide (d=(5:Int))=true->(11:Int)=bj d)/\(decide (d=(5:Int))=false->(0:Int)=bj d))))/\(decide (d=(1:Int))=false->(decide (d=(2:Int))=true->(5:Int)=bj d)/\(decide (d=(2:Int))=false->(decide (d=(4:Int))=true->(17:Int)=bj d)/\(decide (d=(4:Int))=false->(decide (d=(5:Int))=true->(11:Int)=bj d)/\(decide (d=(5:Int))=false->(0:Int)=bj d))))))/\(decide (d=(0:Int))=false->(decide (d=(3:Int))=true->(decide (d=(3:Int))=true->(3:Int)=bj d)/\(decide (d=(3:Int))=false->(decide (d=(1:Int))=true->(decide (d=(1:Int))=true->(5:Int)=bj d)/\(decide (d=(1:Int))=false->(decide (d=(4:Int))=true->(17:Int)=bj d)/\(decide (d=(4:Int))=false->(decide (d=(5:Int))=true->(11:Int)=bj d)/\(decide (d=(5:Int))=false->(0:Int)=bj d))))/\(decide (d=(1:Int))=false->(decide (d=(2:Int))=true->(5:Int)=bj d)/\(decide (d=(2:Int))=false->(decide (d=(4:Int))=true->(17:Int)=bj d)/\(decide (d=(4:Int))=false->(decide (d=(5:Int))=true->(11:Int)=bj d)/\(decide (d=(5:Int))=false->(0:Int)=bj d))))))/\(decide (d=(3:Int))=false->(decide (d=(6:Int))=true->(decide (d=(6:Int))=true->(3:Int)=bj d)/\(decide (d=(6:Int))=false->(decide (d=(1:Int))=true->(decide (d=(1:Int))=true->(5:Int)=bj d)/\(decide (d=(1:Int))=false->(decide (d=(4:Int))=true->(17:Int)=bj d)/\(decide (d=(4:Int))=false->(decide (d=(5:Int))=true->(11:Int)=bj d)/\(decide (d=(5:Int))=false->(0:Int)=bj d))))/\(decide (d=(1:Int))=false->(decide (d=(2:Int))=true->(5:Int)=bj d)/\(decide (d=(2:Int))=false->(decide (d=(4:Int))=true->(17:Int)=bj d)/\(decide (d=(4:Int))=false->(decide (d=(5:Int))=true->(11:Int)=bj d)/\(decide (d=(5:Int))=false->(0:Int)=bj d))))))/\(decide (d=(6:Int))=false->(decide (d=(7:Int))=true->(decide (d=(7:Int))=true->(3:Int)=bj d)/\(decide (d=(7:Int))=false->(decide (d=(1:Int))=true->(decide (d=(1:Int))=true->(5:Int)=bj d)/\(decide (d=(1:Int))=false->(decide (d=(4:Int))=true->(17:Int)=bj d)/\(decide (d=(4:Int))=false->(decide (d=(5:Int))=true->(11:Int)=bj d)/\(decide (d=(5:Int))=false->(0:Int)=bj d))))/\(decide (d=(1:Int))=false->(decide (d=(2:Int))=true->(5:Int)=bj d)/\(decide (d=(2:Int))=false->(decide (d=(4:Int))=true->(17:Int)=bj d)/\(decide (d=(4:Int))=false->(decide (d=(5:Int))=true->(11:Int)=bj d)/\(decide (d=(5:Int))=false->(0:Int)=bj d))))))/\(decide (d=(7:Int))=false->(decide (d=(8:Int))=true->(3:Int)=bj d)/\(decide (d=(8:Int))=false->(decide (d=(1:Int))=true->(decide (d=(1:Int))=true->(5:Int)=bj d)/\(decide (d=(1:Int))=false->(decide (d=(4:Int))=true->(17:Int)=bj d)/\(decide (d=(4:Int))=false->(decide (d=(5:Int))=true->(11:Int)=bj d)/\(decide (d=(5:Int))=false->(0:Int)=bj d))))/\(decide (d=(1:Int))=false->(decide (d=(2:Int))=true->(5:Int)=bj d)/\(decide (d=(2:Int))=false->(decide (d=(4:Int))=true->(17:Int)=bj d)/\(decide (d=(4:Int))=false->(decide (d=(5:Int))=true->(11:Int)=bj d)/\(decide (d=(5:Int))=false->(0:Int)=bj d))))))))):=by
  intro (f:Int) _ _
  by_cases h:0<=f/\f<9
  ·rcases eV h with rfl|rfl|rfl|rfl|rfl|rfl|rfl|rfl|rfl<;>simp[show bj 0=3 from rfl,show bj 1=5 from rfl,show bj 2=5 from rfl,show bj 3=3 from rfl,show bj 4=17 from rfl,show bj 5=11 from rfl,show bj 6=3 from rfl,show bj 7=3 from rfl,show bj 8=3 from rfl]
  ·rw[ME h]
   simp only[exists_const,forall_const,decide_eq_true_eq,decide_eq_false_iff_not,beq_iff_eq,sxS]
   omega
theorem JV :
 ∀(d:Int×Int),Ty.wf ah d.1/\Ty.wf ah d.2->True->True/\(Ty.wf ah (ab d.1)->(decide (ab d.1=(0:Int))=true->(-1:Int)=bt d.1 d.2)/\(decide (ab d.1=(0:Int))=false->True/\(Ty.wf ah (cE d.1)->True/\((!(decide ((0:Int)<=d.2)&&decide (d.2<=cE d.1)))=true->(-1:Int)=bt d.1 d.2)/\((!(decide ((0:Int)<=d.2)&&decide (d.2<=cE d.1)))=false->True/\(Ty.wf ah (bj d.1)->True/\(Ty.wf ah (ab d.1)->(0:Int)<=IntKind.wrap IntKind.u64 d.2/\True/\(Ty.wf ah (a_ d.1 (bj d.1) (iB i64 (i64.wrap (ab d.1-(1:Int))) (IntKind.wrap IntKind.u64 d.2)))->a_ d.1 (bj d.1) (iB i64 (i64.wrap (ab d.1-(1:Int))) (IntKind.wrap IntKind.u64 d.2))=bt d.1 d.2))))))):=by
  intro (d:Int×Int) hw hp
  obtain⟨f,k⟩:=d
  simp only[exists_const,forall_const,decide_eq_true_eq,decide_eq_false_iff_not,beq_iff_eq,sxS]
  intro _
  refine⟨fun h=>by unfold bt;rw[if_neg (fun hh=>hh.1 h)],fun h _=>⟨fun h1=>?_,fun h1 _ _=>?_⟩⟩
  ·unfold bt
   rw[if_neg (fun hh=>by rw[decide_eq_true hh.2.1,decide_eq_true hh.2.2] at h1;cases h1)]
  ·simp only[Bool.and_eq_true,decide_eq_true_eq] at h1
   obtain⟨hp,hf⟩:=bu h
   have hb:=gL hf
   obtain⟨n,rfl⟩:=Int.eq_ofNat_of_zero_le h1.1
   unfold an at hp
   rw[Tf (by omega),wrap_small (n:=ab f-1) (by omega),DS (by omega) (by omega),rJ h]
   refine⟨by omega,fun _=>?_⟩
   unfold bt
   rw[if_pos ⟨h,h1⟩,Int.toNat_natCast]
theorem Ns :
 ∀(d:(Int×Int×Int)×Int),Ty.wf bm d.1/\Ty.wf ah d.2->an d.1.1/\El d.1.1 d.1.2.1/\(0:bU [ah])<=d.2/\d.2<=(30:bU [ah])->(0:Int)<=d.2/\(an d.1.1/\El d.1.1 d.1.2.1/\(0:bU [ah])<=iB i64 (i64.wrap (d.1.1-(1:Int))) d.2)/\(Ty.wf ah (bq d.1.1 d.1.2.1 (Int.toNat (iB i64 (i64.wrap (d.1.1-(1:Int))) d.2)))->bq d.1.1 d.1.2.1 (Int.toNat (iB i64 (i64.wrap (d.1.1-(1:Int))) d.2))=aO d.1 d.2):=by
  intro (d:Fd×Int) hw hp
  obtain⟨⟨p,g,u⟩,k⟩:=d
  replace hp:an p/\El p g/\(0:Int)<=k/\k<=30:=hp
  simp only[exists_const,forall_const,decide_eq_true_eq,decide_eq_false_iff_not,beq_iff_eq,sxS]
  obtain⟨h0,h1,h2,h3⟩:=hp
  obtain⟨n,rfl⟩:=Int.eq_ofNat_of_zero_le h2
  have PZ:=h0
  unfold an at PZ
  rw[wrap_small (n:=p-1) (by omega),DS (by omega) (by omega)]
  refine⟨by omega,⟨h0,h1,?_⟩,fun _=>rfl⟩
  exact Int.ediv_nonneg (by omega) (Int.le_of_lt (Int.pow_pos (by omega)))
theorem O8{f:Int}{a b c:List Int}(h:aA f a=true)(hl:b.length=a.length):aA f (ig (ab f) b c)=true:=by
 obtain⟨hm,_,_⟩:=cq h
 refine Ib h (by unfold ig;rw[cU];exact hl) ?_
 unfold ak ig
 refine decide_eq_true fun x hx=>?_
 obtain⟨t,ht,rfl⟩:=List.mem_map.1 hx
 have:=ea (bu hm).1 (b.getD t 0) (c.getD t 0)
 exact⟨this.1,Int.le_sub_one_of_lt this.2⟩
theorem yj{f:Int}(hm:ab f≠0)(v:List Int)(w:Int)(n:Nat):ak (ab f) (aZ (ab f) v w n)=true:=by
 have hp:=(bu hm).1
 unfold an at hp
 unfold ak aZ
 refine decide_eq_true fun x hx=>?_
 obtain⟨t,ht,rfl⟩:=List.mem_map.1 hx
 have:=cN (p:=ab f) (by omega) (aS (kT v w t) v.length)
 exact⟨this.1,Int.le_sub_one_of_lt this.2⟩
theorem fU(p:Int)(a b:List Int)(x y:Nat):(cz p a b x y).length=a.length:=cU _ _
theorem BD(p:Int)(a b:List Int)(x y:Nat){t:Nat}(h:t<a.length):(cz p a b x y).getD t 0=if (t+a.length-x)%a.length<y then gl p a b t (x+1) else gl p a b t x:=by
 simp[cz,List.getD_eq_getElem?_getD,h]
theorem BE{p:Int}{a b:List Int}{x y t:Nat}(ib:a.length=b.length)(hx:x<a.length)(hy:y<a.length)(ht:t<a.length)(hi:if x+y<a.length then t=x+y else t=x+y-a.length) :
 (cz p a b x y).set t (if x+y<a.length then c_ p ((cz p a b x y).getD t 0) (mulM p (a.getD x 0) (b.getD y 0)) else bd p ((cz p a b x y).getD t 0) (mulM p (a.getD x 0) (b.getD y 0)))=cz p a b x (y+1):=by
 have uE:=(Ma hx hy ht).2 hi
 refine List.ext_getElem (by rw[List.length_set,fU,fU]) fun s h1 h2=>?_
 rw[fU] at h2
 rw[List.getElem_set]
 by_cases hs:t=s
 ·rw[if_pos hs]
  subst hs
  rw[BD _ _ _ _ _ ht,uE,if_neg (Nat.lt_irrefl y)]
  simp only[cz,List.getElem_map,List.getElem_range]
  rw[uE,if_pos (Nat.lt_succ_self y),gl]
  by_cases hc:x+y<a.length
  ·rw[if_pos hc] at hi
   rw[if_pos hc,if_pos (by omega),show t-x=y by omega]
  ·rw[if_neg hc] at hi
   rw[if_neg hc,if_neg (by omega),show t+a.length-x=y by omega]
 ·rw[if_neg hs]
  simp only[cz,List.getElem_map,List.getElem_range]
  have bo:(s+a.length-x)%a.length≠y:=by
   intro e
   have:=(Ma hx hy h2).1 e
   apply hs
   by_cases hc:x+y<a.length
   ·rw[if_pos hc] at this hi;omega
   ·rw[if_neg hc] at this hi;omega
  by_cases hc:(s+a.length-x)%a.length<y
  ·rw[if_pos hc,if_pos (by omega)]
  ·rw[if_neg hc,if_neg (by omega)]
theorem Pj{d:Fd}{v:List Int}{l B:Nat}:((lV d v l B).set (dp (2^l) B) (mZ d v l (dp (2^l) B))).set (dp (2^l) B+2^l) (mZ d v l (dp (2^l) B+2^l))=lV d v l (B+1):=by
 unfold lV
 rw[lC,lC]
 refine cX (fun t _=>?_)
 by_cases h1:t=dp (2^l) B+2^l
 ·have hb:kQ l t=B:=by rw[h1];exact Ms l B
  rw[if_pos h1,if_pos (by omega),h1]
 ·rw[if_neg h1]
  by_cases h2:t=dp (2^l) B
  ·have hb:kQ l t=B:=by rw[h2];exact Oy l B
   rw[if_pos h2,if_pos (by omega),h2]
  ·rw[if_neg h2]
   have hb:kQ l t≠B:=by
    intro e
    have:=Oz l t
    rw[e] at this
    split at this
    ·exact h2 this
    ·exact h1 this
   by_cases h3:kQ l t<B
   ·rw[if_pos h3,if_pos (by omega)]
   ·rw[if_neg h3,if_neg (by omega)]
theorem JD :
 ∀(d:Int×List Int×List Int),Ty.wf ah d.1/\Ty.wf ai d.2.1/\Ty.wf ai d.2.2->True->List.length [d.2.1,d.2.2]=(2:Nat)/\(Ty.wf bm (aE d.1 [d.2.1,d.2.2]).1/\Ty.wf Ty.bool (aE d.1 [d.2.1,d.2.2]).2->((!(aE d.1 [d.2.1,d.2.2]).2)=true->[]=jM d.1 d.2.1 d.2.2)/\((!(aE d.1 [d.2.1,d.2.2]).2)=false->kg (aE d.1 [d.2.1,d.2.2]).1 d.2.1/\kg (aE d.1 [d.2.1,d.2.2]).1 d.2.2/\(an (aE d.1 [d.2.1,d.2.2]).1.1/\ak (aE d.1 [d.2.1,d.2.2]).1.1 (aZ (aE d.1 [d.2.1,d.2.2]).1.1 d.2.1 (aO (aE d.1 [d.2.1,d.2.2]).1 (ax (d.2.1.length:Int))) d.2.1.length)=true/\ak (aE d.1 [d.2.1,d.2.2]).1.1 (aZ (aE d.1 [d.2.1,d.2.2]).1.1 d.2.2 (aO (aE d.1 [d.2.1,d.2.2]).1 (ax (d.2.2.length:Int))) d.2.2.length)=true/\List.length (aZ (aE d.1 [d.2.1,d.2.2]).1.1 d.2.1 (aO (aE d.1 [d.2.1,d.2.2]).1 (ax (d.2.1.length:Int))) d.2.1.length)=List.length (aZ (aE d.1 [d.2.1,d.2.2]).1.1 d.2.2 (aO (aE d.1 [d.2.1,d.2.2]).1 (ax (d.2.2.length:Int))) d.2.2.length)/\List.length (aZ (aE d.1 [d.2.1,d.2.2]).1.1 d.2.1 (aO (aE d.1 [d.2.1,d.2.2]).1 (ax (d.2.1.length:Int))) d.2.1.length)<=(1048576:Nat))/\kg (aE d.1 [d.2.1,d.2.2]).1 (ig (aE d.1 [d.2.1,d.2.2]).1.1 (aZ (aE d.1 [d.2.1,d.2.2]).1.1 d.2.1 (aO (aE d.1 [d.2.1,d.2.2]).1 (ax (d.2.1.length:Int))) d.2.1.length) (aZ (aE d.1 [d.2.1,d.2.2]).1.1 d.2.2 (aO (aE d.1 [d.2.1,d.2.2]).1 (ax (d.2.2.length:Int))) d.2.2.length))/\(Ty.wf ai (q8 (aE d.1 [d.2.1,d.2.2]).1.1 (aO (aE d.1 [d.2.1,d.2.2]).1 (ax (↑(List.length (ig (aE d.1 [d.2.1,d.2.2]).1.1 (aZ (aE d.1 [d.2.1,d.2.2]).1.1 d.2.1 (aO (aE d.1 [d.2.1,d.2.2]).1 (ax (d.2.1.length:Int))) d.2.1.length) (aZ (aE d.1 [d.2.1,d.2.2]).1.1 d.2.2 (aO (aE d.1 [d.2.1,d.2.2]).1 (ax (d.2.2.length:Int))) d.2.2.length))):Int))) (aR (aE d.1 [d.2.1,d.2.2]).1.1 (↑(List.length (ig (aE d.1 [d.2.1,d.2.2]).1.1 (aZ (aE d.1 [d.2.1,d.2.2]).1.1 d.2.1 (aO (aE d.1 [d.2.1,d.2.2]).1 (ax (d.2.1.length:Int))) d.2.1.length) (aZ (aE d.1 [d.2.1,d.2.2]).1.1 d.2.2 (aO (aE d.1 [d.2.1,d.2.2]).1 (ax (d.2.2.length:Int))) d.2.2.length))):Int)) (ig (aE d.1 [d.2.1,d.2.2]).1.1 (aZ (aE d.1 [d.2.1,d.2.2]).1.1 d.2.1 (aO (aE d.1 [d.2.1,d.2.2]).1 (ax (d.2.1.length:Int))) d.2.1.length) (aZ (aE d.1 [d.2.1,d.2.2]).1.1 d.2.2 (aO (aE d.1 [d.2.1,d.2.2]).1 (ax (d.2.2.length:Int))) d.2.2.length)))->Ty.wf ai (ig (aE d.1 [d.2.1,d.2.2]).1.1 (aZ (aE d.1 [d.2.1,d.2.2]).1.1 d.2.1 (aO (aE d.1 [d.2.1,d.2.2]).1 (ax (d.2.1.length:Int))) d.2.1.length) (aZ (aE d.1 [d.2.1,d.2.2]).1.1 d.2.2 (aO (aE d.1 [d.2.1,d.2.2]).1 (ax (d.2.2.length:Int))) d.2.2.length))->Ty.wf ai (aZ (aE d.1 [d.2.1,d.2.2]).1.1 d.2.2 (aO (aE d.1 [d.2.1,d.2.2]).1 (ax (d.2.2.length:Int))) d.2.2.length)->Ty.wf ai (aZ (aE d.1 [d.2.1,d.2.2]).1.1 d.2.1 (aO (aE d.1 [d.2.1,d.2.2]).1 (ax (d.2.1.length:Int))) d.2.1.length)->q8 (aE d.1 [d.2.1,d.2.2]).1.1 (aO (aE d.1 [d.2.1,d.2.2]).1 (ax (↑(List.length (ig (aE d.1 [d.2.1,d.2.2]).1.1 (aZ (aE d.1 [d.2.1,d.2.2]).1.1 d.2.1 (aO (aE d.1 [d.2.1,d.2.2]).1 (ax (d.2.1.length:Int))) d.2.1.length) (aZ (aE d.1 [d.2.1,d.2.2]).1.1 d.2.2 (aO (aE d.1 [d.2.1,d.2.2]).1 (ax (d.2.2.length:Int))) d.2.2.length))):Int))) (aR (aE d.1 [d.2.1,d.2.2]).1.1 (↑(List.length (ig (aE d.1 [d.2.1,d.2.2]).1.1 (aZ (aE d.1 [d.2.1,d.2.2]).1.1 d.2.1 (aO (aE d.1 [d.2.1,d.2.2]).1 (ax (d.2.1.length:Int))) d.2.1.length) (aZ (aE d.1 [d.2.1,d.2.2]).1.1 d.2.2 (aO (aE d.1 [d.2.1,d.2.2]).1 (ax (d.2.2.length:Int))) d.2.2.length))):Int)) (ig (aE d.1 [d.2.1,d.2.2]).1.1 (aZ (aE d.1 [d.2.1,d.2.2]).1.1 d.2.1 (aO (aE d.1 [d.2.1,d.2.2]).1 (ax (d.2.1.length:Int))) d.2.1.length) (aZ (aE d.1 [d.2.1,d.2.2]).1.1 d.2.2 (aO (aE d.1 [d.2.1,d.2.2]).1 (ax (d.2.2.length:Int))) d.2.2.length))=jM d.1 d.2.1 d.2.2))):=by
  intro d hw hp
  obtain⟨f,a,b⟩:=d
  simp only[exists_const,forall_const,decide_eq_true_eq,decide_eq_false_iff_not,beq_iff_eq,sxS]
  refine⟨rfl,fun _=>?_⟩
  rw[tq.1]
  refine⟨fun h=>by unfold jM;rw[if_neg (by rw[h];simp)],fun h=>?_⟩
  obtain⟨ib,ha,hb⟩:=vQ h
  obtain⟨hm,lQ,K,hK,po,hlen,eW⟩:=cq ha
  obtain⟨l1,l2,l3,l4⟩:=nu ha
  rw[tq.2 h]
  have yH:(al f).1.1=ab f:=rfl
  simp only[yH]
  have hr:aO (al f).1 (ax a.length)=bt f (ax a.length):=by rw[hK];exact qh hm eW
  rw[<-ib,hr]
  have nY:(ig (ab f) (aZ (ab f) a (bt f (ax a.length)) a.length) (aZ (ab f) b (bt f (ax a.length)) a.length)).length=a.length:=by unfold ig;rw[cU,dW]
  rw[nY,hr]
  refine⟨⟨f,ha,rfl⟩,⟨f,hb,rfl⟩,⟨(bu hm).1,yj hm _ _ _,yj hm _ _ _,by rw[dW,dW],by rw[dW];omega⟩,⟨f,O8 ha (dW _ _ _ _),rfl⟩,fun _ _ _ _=>?_⟩
  unfold jM
  rw[if_pos h]
  unfold q8
  rw[nY]
  refine List.map_congr_left fun k hk=>?_
  have:=Mv (a:=a) (b:=b) ha ib (k:=k) (List.mem_range.1 hk)
  rw[<-ib] at this
  exact this
theorem GH :
 ∀(d:(Int×Int×Int)×List Int×List Int),Ty.wf bm d.1/\Ty.wf ai d.2.1/\Ty.wf ai d.2.2->an d.1.1/\ak d.1.1 d.2.1=true/\ak d.1.1 d.2.2=true/\d.2.1.length=d.2.2.length/\d.2.1.length<=(512:Nat)->((0:Int)<=(d.2.1.length:Int)/\(d.2.1.length:Int)<=(d.2.1.length:Int)/\(d.2.1.length:Int)*(↑(8:Nat):Int)<=(140737488355328:Int))/\(0:Nat)<=d.2.1.length/\(((ae d.1.1/\ae d.1.2.1/\ae d.1.2.2)/\ae d.2.1/\ae d.2.2/\aQ/\ae (d.2.1.length:Int)/\ae d.2.1/\ae (d.2.1.length:Int)/\(0:Int)=(↑(0:Nat):Int))/\(ae d.1.1/\ae d.1.2.1/\ae d.1.2.2)/\List.replicate ((d.2.1.length:Int).toNat) (0:Int)=cz d.1.1 d.2.1 d.2.2 (0:Nat) (0:Nat))/\∀(x:Nat),x<=d.2.1.length->(decide ((x:Int)<(d.2.1.length:Int))=true->((0:Int)<=(x:Int)/\(x:Int)<(d.2.1.length:Int))/\(0:Nat)<=d.2.2.length/\(((ae d.1.1/\ae d.1.2.1/\ae d.1.2.2)/\ae d.2.1/\ae d.2.2/\aQ/\ae (d.2.1.length:Int)/\ae (x:Int)/\ae (d.2.1.getD ((x:Int).toNat) (0:Int))/\ae d.2.1/\ae (d.2.1.length:Int)/\ae (x:Int)/\ae d.2.2/\ae (d.2.2.length:Int)/\(0:Int)=(↑(0:Nat):Int))/\(ae d.1.1/\ae d.1.2.1/\ae d.1.2.2)/\ae (cz d.1.1 d.2.1 d.2.2 x (0:Nat)))/\∀(x_1:Nat),x_1<=d.2.2.length->(decide ((x_1:Int)<(d.2.2.length:Int))=true->((0:Int)<=(x_1:Int)/\(x_1:Int)<(d.2.2.length:Int))/\(an d.1.1/\El d.1.1 (d.2.1.getD ((x:Int).toNat) (0:Int))/\El d.1.1 (d.2.2.getD ((x_1:Int).toNat) (0:Int)))/\(Ty.wf ah (mulM d.1.1 (d.2.1.getD ((x:Int).toNat) (0:Int)) (d.2.2.getD ((x_1:Int).toNat) (0:Int)))->(decide (i64.wrap ((x:Int)+(x_1:Int))<(d.2.1.length:Int))=true->((0:Int)<=i64.wrap ((x:Int)+(x_1:Int))/\i64.wrap ((x:Int)+(x_1:Int))<(↑(List.length (cz d.1.1 d.2.1 d.2.2 x x_1)):Int))/\(an d.1.1/\El d.1.1 (List.getD (cz d.1.1 d.2.1 d.2.2 x x_1) (Int.toNat (i64.wrap ((x:Int)+(x_1:Int)))) (0:Int))/\El d.1.1 (mulM d.1.1 (d.2.1.getD ((x:Int).toNat) (0:Int)) (d.2.2.getD ((x_1:Int).toNat) (0:Int))))/\((0:Int)<=i64.wrap ((x:Int)+(x_1:Int))/\i64.wrap ((x:Int)+(x_1:Int))<(↑(List.length (cz d.1.1 d.2.1 d.2.2 x x_1)):Int))/\(Ty.wf ah (c_ d.1.1 (List.getD (cz d.1.1 d.2.1 d.2.2 x x_1) (Int.toNat (i64.wrap ((x:Int)+(x_1:Int)))) (0:Int)) (mulM d.1.1 (d.2.1.getD ((x:Int).toNat) (0:Int)) (d.2.2.getD ((x_1:Int).toNat) (0:Int))))->∃(x':Nat),x'<=d.2.2.length/\d.2.2.length-x'<d.2.2.length-x_1/\((ae d.1.1/\ae d.1.2.1/\ae d.1.2.2)/\ae d.2.1/\ae d.2.2/\aQ/\ae (d.2.1.length:Int)/\ae (x:Int)/\ae (d.2.1.getD ((x:Int).toNat) (0:Int))/\ae d.2.1/\ae (d.2.1.length:Int)/\ae (x:Int)/\ae d.2.2/\ae (d.2.2.length:Int)/\i64.wrap ((x_1:Int)+(1:Int))=(x':Int))/\(ae d.1.1/\ae d.1.2.1/\ae d.1.2.2)/\List.set (cz d.1.1 d.2.1 d.2.2 x x_1) (Int.toNat (i64.wrap ((x:Int)+(x_1:Int)))) (c_ d.1.1 (List.getD (cz d.1.1 d.2.1 d.2.2 x x_1) (Int.toNat (i64.wrap ((x:Int)+(x_1:Int)))) (0:Int)) (mulM d.1.1 (d.2.1.getD ((x:Int).toNat) (0:Int)) (d.2.2.getD ((x_1:Int).toNat) (0:Int))))=cz d.1.1 d.2.1 d.2.2 x x'))/\(decide (i64.wrap ((x:Int)+(x_1:Int))<(d.2.1.length:Int))=false->((0:Int)<=i64.wrap (i64.wrap ((x:Int)+(x_1:Int))-(d.2.1.length:Int))/\i64.wrap (i64.wrap ((x:Int)+(x_1:Int))-(d.2.1.length:Int))<(↑(List.length (cz d.1.1 d.2.1 d.2.2 x x_1)):Int))/\(an d.1.1/\El d.1.1 (List.getD (cz d.1.1 d.2.1 d.2.2 x x_1) (Int.toNat (i64.wrap (i64.wrap ((x:Int)+(x_1:Int))-(d.2.1.length:Int)))) (0:Int))/\El d.1.1 (mulM d.1.1 (d.2.1.getD ((x:Int).toNat) (0:Int)) (d.2.2.getD ((x_1:Int).toNat) (0:Int))))/\((0:Int)<=i64.wrap (i64.wrap ((x:Int)+(x_1:Int))-(d.2.1.length:Int))/\i64.wrap (i64.wrap ((x:Int)+(x_1:Int))-(d.2.1.length:Int))<(↑(List.length (cz d.1.1 d.2.1 d.2.2 x x_1)):Int))/\(Ty.wf ah (bd d.1.1 (List.getD (cz d.1.1 d.2.1 d.2.2 x x_1) (Int.toNat (i64.wrap (i64.wrap ((x:Int)+(x_1:Int))-(d.2.1.length:Int)))) (0:Int)) (mulM d.1.1 (d.2.1.getD ((x:Int).toNat) (0:Int)) (d.2.2.getD ((x_1:Int).toNat) (0:Int))))->∃(x':Nat),x'<=d.2.2.length/\d.2.2.length-x'<d.2.2.length-x_1/\((ae d.1.1/\ae d.1.2.1/\ae d.1.2.2)/\ae d.2.1/\ae d.2.2/\aQ/\ae (d.2.1.length:Int)/\ae (x:Int)/\ae (d.2.1.getD ((x:Int).toNat) (0:Int))/\ae d.2.1/\ae (d.2.1.length:Int)/\ae (x:Int)/\ae d.2.2/\ae (d.2.2.length:Int)/\i64.wrap ((x_1:Int)+(1:Int))=(x':Int))/\(ae d.1.1/\ae d.1.2.1/\ae d.1.2.2)/\List.set (cz d.1.1 d.2.1 d.2.2 x x_1) (Int.toNat (i64.wrap (i64.wrap ((x:Int)+(x_1:Int))-(d.2.1.length:Int)))) (bd d.1.1 (List.getD (cz d.1.1 d.2.1 d.2.2 x x_1) (Int.toNat (i64.wrap (i64.wrap ((x:Int)+(x_1:Int))-(d.2.1.length:Int)))) (0:Int)) (mulM d.1.1 (d.2.1.getD ((x:Int).toNat) (0:Int)) (d.2.2.getD ((x_1:Int).toNat) (0:Int))))=cz d.1.1 d.2.1 d.2.2 x x'))))/\(decide ((x_1:Int)<(d.2.2.length:Int))=false->∃(x':Nat),x'<=d.2.1.length/\d.2.1.length-x'<d.2.1.length-x/\((ae d.1.1/\ae d.1.2.1/\ae d.1.2.2)/\ae d.2.1/\ae d.2.2/\aQ/\ae (d.2.1.length:Int)/\ae d.2.1/\ae (d.2.1.length:Int)/\i64.wrap ((x:Int)+(1:Int))=(x':Int))/\(ae d.1.1/\ae d.1.2.1/\ae d.1.2.2)/\cz d.1.1 d.2.1 d.2.2 x x_1=cz d.1.1 d.2.1 d.2.2 x' (0:Nat)))/\(decide ((x:Int)<(d.2.1.length:Int))=false->cz d.1.1 d.2.1 d.2.2 x (0:Nat)=List.map (fun (t:Nat)=>gl d.1.1 d.2.1 d.2.2 t d.2.1.length) (List.range d.2.1.length)):=by
  intro d hw hp
  obtain⟨d,a,b⟩:=d
  obtain⟨p1,p2,p3,p4,p5⟩:=hp
  replace p1:an d.1:=p1
  replace p2:ak d.1 a=true:=p2
  replace p3:ak d.1 b=true:=p3
  replace p4:a.length=b.length:=p4
  replace p5:a.length<=512:=p5
  simp only[exists_const,forall_const,decide_eq_true_eq,decide_eq_false_iff_not,beq_iff_eq,sxS]
  refine⟨⟨by omega,by omega,by show (a.length:Int)*((8:Nat):Int)<=140737488355328;omega⟩,Nat.zero_le _,⟨rfl,?_⟩,fun x hx=>⟨fun jY=>⟨⟨by omega,jY⟩,Nat.zero_le _,rfl,fun y hy=>⟨fun Uf=>⟨⟨by omega,Uf⟩,⟨p1,dm p1 p2 x,dm p1 p3 y⟩,fun _=>?_⟩,fun U6=>⟨x+1,by omega,by omega,?_,?_⟩⟩⟩,fun U5=>?_⟩⟩
  ·refine List.ext_getElem (by rw[List.length_replicate,fU]) fun t h1 h2=>?_
   simp[cz,gl]
  ·have jX:x<a.length:=by omega
   have K0:y<a.length:=by omega
   have iH:∀ t,t<a.length->El d.1 ((cz d.1 a b x y).getD t 0):=fun t ht=>by
    rw[BD _ _ _ _ _ ht]
    split<;>exact Om p1 _ _ _ _
   rw[wrap_small (n:=(x:Int)+y) (by omega),fU]
   refine⟨fun hc=>?_,fun hc=>?_⟩
   ·have e:((x:Int)+y).toNat=x+y:=by omega
    rw[e]
    refine⟨⟨by omega,hc⟩,⟨p1,iH _ (by omega),ea p1 _ _⟩,⟨by omega,hc⟩,fun _=>⟨y+1,by omega,by omega,?_,?_⟩⟩
    ·rw[wrap_small (by omega)];rfl
    ·have:=BE (p:=d.1) (a:=a) (b:=b) (x:=x) (y:=y) (t:=x+y) p4 jX K0 (by omega) (by rw[if_pos (by omega)])
     rw[if_pos (by omega)] at this
     exact this
   ·rw[wrap_small (n:=(x:Int)+y-a.length) (by omega)]
    have e:((x:Int)+y-a.length).toNat=x+y-a.length:=by omega
    rw[e]
    refine⟨⟨by omega,by omega⟩,⟨p1,iH _ (by omega),ea p1 _ _⟩,⟨by omega,by omega⟩,fun _=>⟨y+1,by omega,by omega,?_,?_⟩⟩
    ·rw[wrap_small (by omega)];rfl
    ·have:=BE (p:=d.1) (a:=a) (b:=b) (x:=x) (y:=y) (t:=x+y-a.length) p4 jX K0 (by omega) (by rw[if_neg (by omega)])
     rw[if_neg (by omega)] at this
     exact this
  ·rw[wrap_small (by omega)];rfl
  ·refine List.ext_getElem (by rw[fU,fU]) fun t h1 h2=>?_
   rw[fU] at h2
   simp only[cz,List.getElem_map,List.getElem_range]
   rw[if_pos (Nat.lt_of_lt_of_le (Nat.mod_lt _ (by omega)) (by omega)),if_neg (Nat.not_lt_zero _)]
  ·rw[show x=a.length by omega]
   refine List.ext_getElem (by rw[fU];simp) fun t h1 h2=>?_
   simp only[cz,List.getElem_map,List.getElem_range]
   rw[if_neg (Nat.not_lt_zero _)]
theorem Mh :
 ∀(d:(Int×Int×Int)×List Int×Int),Ty.wf bm d.1/\Ty.wf ai d.2.1/\Ty.wf ah d.2.2->kg d.1 d.2.1/\(0:bU [ah])<=d.2.2/\d.2.2<=ax (d.2.1.length:Int)-(1:bU [ah])->((0:Int)<=(d.2.1.length:Int)/\(d.2.1.length:Int)<=(d.2.1.length:Int)/\(d.2.1.length:Int)*(↑(8:Nat):Int)<=(140737488355328:Int))/\(0:Int)<=d.2.2/\(an d.1.1/\El d.1.1 d.1.2.1/\(0:bU [ah])<=i64.wrap (d.2.2+(1:Int))/\i64.wrap (d.2.2+(1:Int))<=(30:bU [ah]))/\(Ty.wf ah (aO d.1 (i64.wrap (d.2.2+(1:Int))))->(0:Nat)*((2:Nat)*(2:Nat)^d.2.2.toNat)<=d.2.1.length/\(((ae d.1.1/\ae d.1.2.1/\ae d.1.2.2)/\ae d.2.1/\ae d.2.2/\aQ/\ae (bb i64 (1:Int) d.2.2)/\ae (aO d.1 (i64.wrap (d.2.2+(1:Int))))/\(0:Int)=(↑((0:Nat)*((2:Nat)*(2:Nat)^d.2.2.toNat)):Int))/\(ae d.1.1/\ae d.1.2.1/\ae d.1.2.2)/\List.replicate ((d.2.1.length:Int).toNat) (0:Int)=lV d.1 d.2.1 d.2.2.toNat ((0:Nat)*(2:Nat)^d.2.2.toNat))/\∀(x:Nat),x*((2:Nat)*(2:Nat)^d.2.2.toNat)<=d.2.1.length->(decide ((↑(x*((2:Nat)*(2:Nat)^d.2.2.toNat)):Int)<(d.2.1.length:Int))=true->(0:Nat)<=(2:Nat)^d.2.2.toNat/\(((ae d.1.1/\ae d.1.2.1/\ae d.1.2.2)/\ae d.2.1/\ae d.2.2/\aQ/\ae (bb i64 (1:Int) d.2.2)/\ae (aO d.1 (i64.wrap (d.2.2+(1:Int))))/\ae (↑(x*((2:Nat)*(2:Nat)^d.2.2.toNat)):Int)/\(1:Int)=bq d.1.1 (aO d.1 (d.2.2+(1:Int))) (0:Nat)/\ae (bb i64 (1:Int) d.2.2)/\(0:Int)=(↑(0:Nat):Int))/\(ae d.1.1/\ae d.1.2.1/\ae d.1.2.2)/\lV d.1 d.2.1 d.2.2.toNat (x*(2:Nat)^d.2.2.toNat)=lV d.1 d.2.1 d.2.2.toNat (x*(2:Nat)^d.2.2.toNat+(0:Nat)))/\∀(x_1:Nat),x_1<=(2:Nat)^d.2.2.toNat->(decide ((x_1:Int)<bb i64 (1:Int) d.2.2)=true->((0:Int)<=i64.wrap ((↑(x*((2:Nat)*(2:Nat)^d.2.2.toNat)):Int)+(x_1:Int))/\i64.wrap ((↑(x*((2:Nat)*(2:Nat)^d.2.2.toNat)):Int)+(x_1:Int))<(d.2.1.length:Int))/\((0:Int)<=i64.wrap (i64.wrap ((↑(x*((2:Nat)*(2:Nat)^d.2.2.toNat)):Int)+(x_1:Int))+bb i64 (1:Int) d.2.2)/\i64.wrap (i64.wrap ((↑(x*((2:Nat)*(2:Nat)^d.2.2.toNat)):Int)+(x_1:Int))+bb i64 (1:Int) d.2.2)<(d.2.1.length:Int))/\(an d.1.1/\El d.1.1 (d.2.1.getD (Int.toNat (i64.wrap (i64.wrap ((↑(x*((2:Nat)*(2:Nat)^d.2.2.toNat)):Int)+(x_1:Int))+bb i64 (1:Int) d.2.2))) (0:Int))/\El d.1.1 (bq d.1.1 (aO d.1 (d.2.2+(1:Int))) x_1))/\(Ty.wf ah (mulM d.1.1 (d.2.1.getD (Int.toNat (i64.wrap (i64.wrap ((↑(x*((2:Nat)*(2:Nat)^d.2.2.toNat)):Int)+(x_1:Int))+bb i64 (1:Int) d.2.2))) (0:Int)) (bq d.1.1 (aO d.1 (d.2.2+(1:Int))) x_1))->(an d.1.1/\El d.1.1 (d.2.1.getD (Int.toNat (i64.wrap ((↑(x*((2:Nat)*(2:Nat)^d.2.2.toNat)):Int)+(x_1:Int)))) (0:Int))/\El d.1.1 (mulM d.1.1 (d.2.1.getD (Int.toNat (i64.wrap (i64.wrap ((↑(x*((2:Nat)*(2:Nat)^d.2.2.toNat)):Int)+(x_1:Int))+bb i64 (1:Int) d.2.2))) (0:Int)) (bq d.1.1 (aO d.1 (d.2.2+(1:Int))) x_1)))/\(Ty.wf ah (c_ d.1.1 (d.2.1.getD (Int.toNat (i64.wrap ((↑(x*((2:Nat)*(2:Nat)^d.2.2.toNat)):Int)+(x_1:Int)))) (0:Int)) (mulM d.1.1 (d.2.1.getD (Int.toNat (i64.wrap (i64.wrap ((↑(x*((2:Nat)*(2:Nat)^d.2.2.toNat)):Int)+(x_1:Int))+bb i64 (1:Int) d.2.2))) (0:Int)) (bq d.1.1 (aO d.1 (d.2.2+(1:Int))) x_1)))->((0:Int)<=i64.wrap ((↑(x*((2:Nat)*(2:Nat)^d.2.2.toNat)):Int)+(x_1:Int))/\i64.wrap ((↑(x*((2:Nat)*(2:Nat)^d.2.2.toNat)):Int)+(x_1:Int))<(↑(List.length (lV d.1 d.2.1 d.2.2.toNat (x*(2:Nat)^d.2.2.toNat+x_1))):Int))/\(an d.1.1/\El d.1.1 (d.2.1.getD (Int.toNat (i64.wrap ((↑(x*((2:Nat)*(2:Nat)^d.2.2.toNat)):Int)+(x_1:Int)))) (0:Int))/\El d.1.1 (mulM d.1.1 (d.2.1.getD (Int.toNat (i64.wrap (i64.wrap ((↑(x*((2:Nat)*(2:Nat)^d.2.2.toNat)):Int)+(x_1:Int))+bb i64 (1:Int) d.2.2))) (0:Int)) (bq d.1.1 (aO d.1 (d.2.2+(1:Int))) x_1)))/\(Ty.wf ah (bd d.1.1 (d.2.1.getD (Int.toNat (i64.wrap ((↑(x*((2:Nat)*(2:Nat)^d.2.2.toNat)):Int)+(x_1:Int)))) (0:Int)) (mulM d.1.1 (d.2.1.getD (Int.toNat (i64.wrap (i64.wrap ((↑(x*((2:Nat)*(2:Nat)^d.2.2.toNat)):Int)+(x_1:Int))+bb i64 (1:Int) d.2.2))) (0:Int)) (bq d.1.1 (aO d.1 (d.2.2+(1:Int))) x_1)))->((0:Int)<=i64.wrap (i64.wrap ((↑(x*((2:Nat)*(2:Nat)^d.2.2.toNat)):Int)+(x_1:Int))+bb i64 (1:Int) d.2.2)/\i64.wrap (i64.wrap ((↑(x*((2:Nat)*(2:Nat)^d.2.2.toNat)):Int)+(x_1:Int))+bb i64 (1:Int) d.2.2)<(↑(List.length (List.set (lV d.1 d.2.1 d.2.2.toNat (x*(2:Nat)^d.2.2.toNat+x_1)) (Int.toNat (i64.wrap ((↑(x*((2:Nat)*(2:Nat)^d.2.2.toNat)):Int)+(x_1:Int)))) (c_ d.1.1 (d.2.1.getD (Int.toNat (i64.wrap ((↑(x*((2:Nat)*(2:Nat)^d.2.2.toNat)):Int)+(x_1:Int)))) (0:Int)) (mulM d.1.1 (d.2.1.getD (Int.toNat (i64.wrap (i64.wrap ((↑(x*((2:Nat)*(2:Nat)^d.2.2.toNat)):Int)+(x_1:Int))+bb i64 (1:Int) d.2.2))) (0:Int)) (bq d.1.1 (aO d.1 (d.2.2+(1:Int))) x_1))))):Int))/\(an d.1.1/\El d.1.1 (bq d.1.1 (aO d.1 (d.2.2+(1:Int))) x_1)/\El d.1.1 (aO d.1 (i64.wrap (d.2.2+(1:Int)))))/\(Ty.wf ah (mulM d.1.1 (bq d.1.1 (aO d.1 (d.2.2+(1:Int))) x_1) (aO d.1 (i64.wrap (d.2.2+(1:Int)))))->∃(x':Nat),x'<=(2:Nat)^d.2.2.toNat/\(2:Nat)^d.2.2.toNat-x'<(2:Nat)^d.2.2.toNat-x_1/\((ae d.1.1/\ae d.1.2.1/\ae d.1.2.2)/\ae d.2.1/\ae d.2.2/\aQ/\ae (bb i64 (1:Int) d.2.2)/\ae (aO d.1 (i64.wrap (d.2.2+(1:Int))))/\ae (↑(x*((2:Nat)*(2:Nat)^d.2.2.toNat)):Int)/\mulM d.1.1 (bq d.1.1 (aO d.1 (d.2.2+(1:Int))) x_1) (aO d.1 (i64.wrap (d.2.2+(1:Int))))=bq d.1.1 (aO d.1 (d.2.2+(1:Int))) x'/\ae (bb i64 (1:Int) d.2.2)/\i64.wrap ((x_1:Int)+(1:Int))=(x':Int))/\(ae d.1.1/\ae d.1.2.1/\ae d.1.2.2)/\List.set (List.set (lV d.1 d.2.1 d.2.2.toNat (x*(2:Nat)^d.2.2.toNat+x_1)) (Int.toNat (i64.wrap ((↑(x*((2:Nat)*(2:Nat)^d.2.2.toNat)):Int)+(x_1:Int)))) (c_ d.1.1 (d.2.1.getD (Int.toNat (i64.wrap ((↑(x*((2:Nat)*(2:Nat)^d.2.2.toNat)):Int)+(x_1:Int)))) (0:Int)) (mulM d.1.1 (d.2.1.getD (Int.toNat (i64.wrap (i64.wrap ((↑(x*((2:Nat)*(2:Nat)^d.2.2.toNat)):Int)+(x_1:Int))+bb i64 (1:Int) d.2.2))) (0:Int)) (bq d.1.1 (aO d.1 (d.2.2+(1:Int))) x_1)))) (Int.toNat (i64.wrap (i64.wrap ((↑(x*((2:Nat)*(2:Nat)^d.2.2.toNat)):Int)+(x_1:Int))+bb i64 (1:Int) d.2.2))) (bd d.1.1 (d.2.1.getD (Int.toNat (i64.wrap ((↑(x*((2:Nat)*(2:Nat)^d.2.2.toNat)):Int)+(x_1:Int)))) (0:Int)) (mulM d.1.1 (d.2.1.getD (Int.toNat (i64.wrap (i64.wrap ((↑(x*((2:Nat)*(2:Nat)^d.2.2.toNat)):Int)+(x_1:Int))+bb i64 (1:Int) d.2.2))) (0:Int)) (bq d.1.1 (aO d.1 (d.2.2+(1:Int))) x_1)))=lV d.1 d.2.1 d.2.2.toNat (x*(2:Nat)^d.2.2.toNat+x'))))))/\(decide ((x_1:Int)<bb i64 (1:Int) d.2.2)=false->∃(x':Nat),x'*((2:Nat)*(2:Nat)^d.2.2.toNat)<=d.2.1.length/\d.2.1.length-x'<d.2.1.length-x/\((ae d.1.1/\ae d.1.2.1/\ae d.1.2.2)/\ae d.2.1/\ae d.2.2/\aQ/\ae (bb i64 (1:Int) d.2.2)/\ae (aO d.1 (i64.wrap (d.2.2+(1:Int))))/\i64.wrap ((↑(x*((2:Nat)*(2:Nat)^d.2.2.toNat)):Int)+i64.wrap ((2:Int)*bb i64 (1:Int) d.2.2))=(↑(x'*((2:Nat)*(2:Nat)^d.2.2.toNat)):Int))/\(ae d.1.1/\ae d.1.2.1/\ae d.1.2.2)/\lV d.1 d.2.1 d.2.2.toNat (x*(2:Nat)^d.2.2.toNat+x_1)=lV d.1 d.2.1 d.2.2.toNat (x'*(2:Nat)^d.2.2.toNat)))/\(decide ((↑(x*((2:Nat)*(2:Nat)^d.2.2.toNat)):Int)<(d.2.1.length:Int))=false->lV d.1 d.2.1 d.2.2.toNat (x*(2:Nat)^d.2.2.toNat)=u7 d.1 d.2.1 d.2.2.toNat (0:Nat) (d.2.1.length/(2:Nat)))):=by
  intro d hw hp
  obtain⟨d,v,s⟩:=d
  obtain⟨⟨f,h,hd⟩,s0,s1⟩:=hp
  replace h:aA f v=true:=h
  replace hd:d=(al f).1:=hd
  replace s0:(0:Int)<=s:=s0
  replace s1:s<=ax v.length-1:=s1
  obtain⟨hm,he,K,hK,po,hn,eW⟩:=cq h
  have IC:=g_ po
  have yH:d.1=ab f:=by rw[hd];rfl
  have P_:d.2.1=bj f:=by rw[hd];rfl
  have nZ:=(bu hm).1
  have aJ:=nZ
  unfold an at aJ
  have nc:an d.1:=by rw[yH];exact nZ
  obtain⟨l,rfl⟩:=Int.eq_ofNat_of_zero_le s0
  rw[hK] at s1
  have hl:l<K:=by omega
  have N4:=kE hl
  have TC:=yD hl
  have hh:=jc l
  have iH:∀ t,El d.1 (v.getD t 0):=fun t=>dm nc (by rw[yH];exact he) t
  have Be:∀ B,(lV d v l B).length=v.length:=fun B=>cU _ _
  have KS:aO d ((l:Int)+1)=aO d ((l+1:Nat):Int):=rfl
  simp only[exists_const,forall_const,decide_eq_true_eq,decide_eq_false_iff_not,beq_iff_eq,sxS]
  simp only[Td (show l<=10 by omega),Int.toNat_natCast,wrap_small (n:=(l:Int)+1) (by omega),KS,As d nc,Be,List.length_set]
  refine⟨⟨by omega,by omega,by show (v.length:Int)*((8:Nat):Int)<=140737488355328;omega⟩,by omega,⟨nc,by rw[yH,P_];exact (yA hm).1,(by show (0:Int)<=(l:Int)+1;omega),(by show (l:Int)+1<=(30:Int);omega)⟩,fun _=>⟨by omega,⟨by omega,?_⟩,fun x hx=>⟨fun h2=>⟨Nat.zero_le _,⟨⟨?_,rfl⟩,by rw[Nat.add_zero]⟩,fun y hy=>⟨fun h3=>?_,fun h3=>?_⟩⟩,fun h2=>?_⟩⟩⟩
  ·rw[Nat.zero_mul]
   refine List.ext_getElem (by rw[Be,List.length_replicate]) fun t h1 h2=>?_
   simp[lV]
  ·unfold qj bq
   rw[Nat.mul_zero,Int.pow_zero,Int.emod_eq_of_lt (by omega) (by omega)]
  ·have K0:y<2^l:=by omega
   have jX:x<2^(K-l-1):=by
    rcases Nat.lt_or_ge x (2^(K-l-1)) with e|e
    ·exact e
    ·have:=Nat.mul_le_mul_right (2*2^l) e
     rw[Nat.mul_comm (2^(K-l-1))] at this
     omega
   have hB:x*2^l+y<2^l*2^(K-l-1):=by
    have:=Nat.mul_le_mul_right (2^l) (show x+1<=2^(K-l-1) by omega)
    rw[Nat.add_mul,Nat.one_mul,Nat.mul_comm (2^(K-l-1))] at this
    omega
   have TD:=Rq (x:=x) K0
   have aK:=QO hh hB
   have i1:i64.wrap (((x*(2*2^l):Nat):Int)+(y:Int))=((dp (2^l) (x*2^l+y):Nat):Int):=by rw[TD,wrap_small (by omega)];omega
   have i2:i64.wrap (((dp (2^l) (x*2^l+y):Nat):Int)+((2^l:Nat):Int))=((dp (2^l) (x*2^l+y)+2^l:Nat):Int):=by rw[wrap_small (by omega)];omega
   have fN:=Pj (d:=d) (v:=v) (l:=l) (B:=x*2^l+y)
   rw[Rh,Rg,(Ie (x:=x) K0).2] at fN
   have N7:mulM d.1 (qj d l y) (aO d ((l+1:Nat):Int))=qj d l (y+1):=by
    rw[<-As d nc,<-As d nc]
    unfold mulM bq
    rw[bp,<-Int.pow_succ]
   have RY:∀ j,El d.1 (qj d l j):=fun j=>vC nc _ _
   simp only[i1,i2,N7,Int.toNat_natCast]
   refine⟨⟨by omega,by omega⟩,⟨by omega,by omega⟩,⟨nc,iH _,RY _⟩,fun _=>⟨⟨nc,iH _,ea nc _ _⟩,fun _=>⟨⟨by omega,by omega⟩,⟨nc,iH _,ea nc _ _⟩,fun _=>⟨⟨by omega,by omega⟩,⟨nc,RY _,by unfold aO;exact vC nc _ _⟩,fun _=>⟨y+1,by omega,by omega,⟨rfl,aC (by omega)⟩,fN⟩⟩⟩⟩⟩
  ·obtain rfl:y=2^l:=by omega
   have jX:x<2^(K-l-1):=by
    rcases Nat.lt_or_ge x (2^(K-l-1)) with e|e
    ·exact e
    ·have:=Nat.mul_le_mul_right (2*2^l) e
     rw[Nat.mul_comm (2^(K-l-1))] at this
     omega
   have T8:=Nat.mul_le_mul_right (2*2^l) (show x+1<=2^(K-l-1) by omega)
   rw[Nat.mul_comm (2^(K-l-1))] at T8
   have U3:(x+1)*(2*2^l)=x*(2*2^l)+2*2^l:=by rw[Nat.add_mul,Nat.one_mul]
   have U4:x<2^K:=by
    have:x*1<=x*(2*2^l):=Nat.mul_le_mul_left x (by omega)
    omega
   refine⟨x+1,by omega,by omega,?_,by rw[Nat.add_mul,Nat.one_mul]⟩
   rw[wrap_small (n:=2*((2^l:Nat):Int)) (by omega),wrap_small (by omega)]
   omega
  ·have T9:x*(2*2^l)=2^(K-l-1)*(2*2^l):=by rw[Nat.mul_comm (2^(K-l-1))];omega
   have T_:=Nat.eq_of_mul_eq_mul_right (show 0<2*2^l by omega) T9
   rw[hn,TC,T_,Nat.mul_comm]
   refine List.ext_getElem (by rw[Be,u9]) fun t h1 h2=>?_
   rw[Be] at h1
   have hb:kQ l t<2^l*2^(K-l-1):=Kc (by omega)
   simp only[lV,u7,List.getElem_map,List.getElem_range]
   rw[if_pos hb,if_pos ⟨Nat.zero_le _,hb⟩]
def dj:Nat->Nat->Nat
 | _,0=>1
 | 0,_+1=>0
 | n+1,k+1=>dj n k+dj n (k+1)
theorem q_:∀ n k,n<k->dj n k=0
 | n,0,h=>absurd h (Nat.not_lt_zero _)
 | 0,k+1,_=>rfl
 | n+1,k+1,h=>by rw[dj,q_ n k (by omega),q_ n (k+1) (by omega)]
theorem C2:∀ n,dj n n=1
 | 0=>rfl
 | n+1=>by rw[dj,C2 n,q_ n (n+1) (by omega)]
theorem Mt:∀ n,dj n 0=1
 | 0=>rfl
 | n+1=>rfl
theorem Hf:∀ n,dj n 1=n
 | 0=>rfl
 | n+1=>by rw[dj,Mt,Hf n];omega
theorem zS:∀ n k,(k+1)*dj (n+1) (k+1)=(n+1)*dj n k
 | 0,0=>rfl
 | 0,k+1=>by rw[q_ 1 (k+1+1) (by omega),q_ 0 (k+1) (by omega)];simp
 | n+1,0=>by
   rw[Hf]
   show (0+1)*(n+1+1)=(n+1+1)*1
   omega
 | n+1,k+1=>by
   have h1:=zS n k
   have h2:=zS n (k+1)
   rw[dj,Nat.mul_add,h2,show (k+1+1)*dj (n+1) (k+1)=(k+1)*dj (n+1) (k+1)+dj (n+1) (k+1) by rw[Nat.add_mul _ 1,Nat.one_mul],h1]
   have h3:dj (n+1) (k+1)=dj n k+dj n (k+1):=rfl
   rw[h3,show (n+1+1)*(dj n k+dj n (k+1))=(n+1)*(dj n k+dj n (k+1))+(dj n k+dj n (k+1)) by rw[Nat.add_mul _ 1,Nat.one_mul],Nat.mul_add]
   omega
theorem oA(f:Nat->Int):∀ n,aS f (n+1)=f 0+aS (fun k=>f (k+1)) n
 | 0=>by simp[aS]
 | n+1=>by rw[aS,oA f n,aS];omega
theorem NB(x:Int):∀ n,(x+1)^n=aS (fun k=>(dj n k:Int)*x^k) (n+1)
 | 0=>by simp[aS,dj]
 | n+1=>by
   rw[Int.pow_succ,NB x n,Int.mul_add,Int.mul_one]
   have h1:aS (fun k=>(dj n k:Int)*x^k) (n+1)*x=aS (fun k=>(dj n k:Int)*x^(k+1)) (n+1):=by
    rw[Int.mul_comm,<-hO]
    refine fS _ fun k _=>?_
    rw[Int.pow_succ];ac_rfl
   have h2:aS (fun k=>(dj (n+1) k:Int)*x^k) (n+1+1)=1+aS (fun k=>(dj n k:Int)*x^(k+1)+(dj n (k+1):Int)*x^(k+1)) (n+1):=by
    rw[oA]
    congr 1
    ·simp[dj]
    ·refine fS _ fun k _=>?_
     rw[dj]
     push_cast
     rw[Int.add_mul]
   have h3:aS (fun k=>(dj n k:Int)*x^k) (n+1)=1+aS (fun k=>(dj n (k+1):Int)*x^(k+1)) (n+1):=by
    have:aS (fun k=>(dj n k:Int)*x^k) (n+1+1)=1+aS (fun k=>(dj n (k+1):Int)*x^(k+1)) (n+1):=by
     rw[oA];congr 1
     simp[dj]
    rw[<-this]
    show _=aS (fun k=>(dj n k:Int)*x^k) (n+1)+(dj n (n+1):Int)*x^(n+1)
    rw[q_ n (n+1) (by omega)]
    simp
   rw[h1,h2,xG,h3]
   omega
theorem OC{p n:Nat}(hp:p=n+1)(rv:∀ a b:Int,a*b%(p:Int)=0->a%(p:Int)=0\/b%(p:Int)=0):∀ k,0<k->k<p->(dj p k:Int)%(p:Int)=0
 | 0,h,_=>absurd h (Nat.lt_irrefl 0)
 | k+1,_,hk=>by
   subst hp
   have h:=zS n k
   have h2:((k+1:Nat):Int)*(dj (n+1) (k+1):Int)%((n+1:Nat):Int)=0:=by
    rw[<-Int.natCast_mul,h,Int.natCast_mul,Int.mul_emod_right]
   rcases rv _ _ h2 with h3|h3
   ·rw[Int.emod_eq_of_lt (by omega) (by omega)] at h3;omega
   ·exact h3
theorem yx{p n:Nat}(hp:p=n+1)(rv:∀ a b:Int,a*b%(p:Int)=0->a%(p:Int)=0\/b%(p:Int)=0):∀ x:Nat,(x:Int)^p%(p:Int)=(x:Int)%(p:Int)
 | 0=>by subst hp;rw[Int.pow_succ];simp
 | x+1=>by
   have h:=yx hp rv x
   have hb:=NB (x:Int) p
   have h1:aS (fun k=>(dj p k:Int)*(x:Int)^k) (p+1)%(p:Int)=(1+(x:Int)^p)%(p:Int):=by
    subst hp
    rw[aS,oA,C2]
    have:aS (fun k=>(dj (n+1) (k+1):Int)*(x:Int)^(k+1)) n%((n+1:Nat):Int)=aS (fun _=>0) n%((n+1:Nat):Int):=fk _ fun k hk=>by
     rw[<-bp,OC rfl rv (k+1) (by omega) (by omega),Int.zero_mul,Int.zero_emod]
    rw[vg] at this
    have e0:(dj (n+1) 0:Int)*(x:Int)^0=1:=by simp[dj]
    rw[e0]
    refine ny ?_ (by rw[show ((1:Nat):Int)=1 from rfl,Int.one_mul])
    rw[<-dQ,this,dQ,Int.add_zero]
   show ((x+1:Nat):Int)^p%(p:Int)=((x+1:Nat):Int)%(p:Int)
   rw[show ((x+1:Nat):Int)=(x:Int)+1 from rfl,hb,h1,<-dQ,h,dQ,Int.add_comm]
theorem PW{f:Int}(hm:ab f≠0)(a:Int)(ha:a%ab f≠0):a^(ab f-1).toNat%ab f=1%ab f:=by
 have rv:=lA hm
 have hp:=rv.mod
 unfold an at hp
 obtain⟨n,hn⟩:∃ n:Nat,ab f=((n+1:Nat):Int):=⟨(ab f-1).toNat,by omega⟩
 have Qr:=rv.pr
 rw[hn] at Qr ha hp ⊢
 obtain⟨x,hx⟩:=Int.eq_ofNat_of_zero_le (Int.emod_nonneg a (show ((n+1:Nat):Int)≠0 by omega))
 have h1:=yx rfl Qr x
 have e:(((n+1:Nat):Int)-1).toNat=n:=by omega
 rw[e]
 have h2:(x:Int)*((x:Int)^n-1)%((n+1:Nat):Int)=0:=by
  rw[Int.mul_sub,Int.mul_one,Int.mul_comm,<-Int.pow_succ,Int.sub_emod]
  show ((x:Int)^(n+1)%((n+1:Nat):Int)-(x:Int)%((n+1:Nat):Int))%((n+1:Nat):Int)=0
  rw[h1,Int.sub_self,Int.zero_emod]
 rw[<-pow_mod,hx]
 rcases Qr _ _ h2 with h3|h3
 ·rw[<-hx,mod_mod] at h3
  exact absurd h3 ha
 ·have:(x:Int)^n=((x:Int)^n-1)+1:=by omega
  rw[this,<-cV,h3,Int.zero_add]
theorem inv_mul{f:Int}(hm:ab f≠0){a:Int}(ha:a%ab f≠0):a*aR (ab f) a%ab f=1:=by
 have hp:=(bu hm).1
 unfold an at hp
 unfold aR bq
 rw[bg,Int.mul_comm,<-Int.pow_succ,show (ab f-2).toNat.succ=(ab f-1).toNat by omega,PW hm a ha,Int.emod_eq_of_lt (by omega) (by omega)]
set_option maxRecDepth 10000
theorem ma{f:Int}{xs:List Int}{k:Int}(h:dG f xs k=true):bn f xs=true/\xs.length<=10/\1<=k/\k<=xs.length:=by
 unfold dG at h
 simp only[Bool.and_eq_true,decide_eq_true_eq] at h
 exact⟨h.1.2,h.1.1,h.2.1,h.2.2⟩
theorem OF{f:Int}{xs:List Int}{k:Int}(h1:bn f xs=true)(h2:xs.length<=10)(h3:1<=k)(h4:k<=xs.length):dG f xs k=true:=by
 unfold dG
 simp only[Bool.and_eq_true,decide_eq_true_eq]
 exact⟨⟨h2,h1⟩,h3,h4⟩
theorem OE{f:Int}{xs:List Int}{k:Int}:(ba f xs k).2=dG f xs k:=by
 unfold ba
 cases h:dG f xs k<;>rfl
theorem OD{f:Int}{xs:List Int}{k:Int}(h:dG f xs k=true):(ba f xs k).1.1=ab f:=by
 unfold ba
 rw[if_pos h];rfl
theorem oO(a b:List Int)(s:Nat):∀ n,(aT a s n).length=(aT b s n).length
 | 0=>rfl
 | n+1=>by
   unfold aT
   split
   ·rw[List.length_append,List.length_append,oO a b s n];rfl
   ·exact oO a b s n
theorem sub_sub{xs:List Int}(s:Nat):∀ n,n<=xs.length->(aT xs s n).Sublist (xs.take n)
 | 0,_=>by simp[aT]
 | n+1,h=>by
   have h1:=sub_sub (xs:=xs) s n (by omega)
   rw[<-mB (z:=(0:Int)) (show n<xs.length by omega)]
   unfold aT
   split
   ·exact h1.append (List.Sublist.refl _)
   ·exact h1.trans (List.sublist_append_left _ _)
theorem Aq{xs:List Int}(s:Nat):(aT xs s xs.length).Sublist xs:=by
 have:=sub_sub (xs:=xs) s xs.length (Nat.le_refl _)
 rwa [List.take_length] at this
theorem tR{p:Int}{a b:List Int}(h:a.Sublist b)(he:ak p b=true):ak p a=true:=by
 unfold ak at *
 rw[decide_eq_true_eq] at *
 exact fun x hx=>he x (h.subset hx)
theorem L3{f:Int}{xs:List Int}(hp:bn f xs=true){s:Nat}(h:1<=(aT xs s xs.length).length):bn f (aT xs s xs.length)=true:=by
 obtain⟨hm,KN,na,he,hn⟩:=iL hp
 have hs:=Aq (xs:=xs) s
 exact I6 hm h (by have:=hs.length_le;omega) (tR hs he) (hn.sublist hs)
theorem td{l:List Int}{s n:Nat}(h:s/2^n%2=1):aT l s n++[l.getD n 0]=aT l s (n+1):=by
 show _=if _ then _ else _
 rw[if_pos h]
theorem tc{l:List Int}{s n:Nat}(h:¬s/2^n%2=1):aT l s n=aT l s (n+1):=by
 show _=if _ then _ else _
 rw[if_neg h]
theorem Eb{xs:List Int}{i:Nat}:∀ n,i<n->(cI xs i n).length+1<=n
 | 0,h=>by omega
 | n+1,h=>by
   by_cases e:n=i
   ·rw[y3 e]
    have:=oK xs i n
    omega
   ·rw[uP e,List.length_append]
    have:=Eb (xs:=xs) n (show i<n by omega)
    simp only[List.length_cons,List.length_nil];omega
theorem H4{p:Int}(hp:an p){xs:List Int}(ys:List Int):∀ n,n<=xs.length->(dy p xs ys n).length<=xs.length
 | 0,_=>by simp[dy]
 | n+1,h=>by
   have h1:=H4 hp (xs:=xs) ys n (by omega)
   unfold dy
   have e1:=(yf hp (dy p xs ys n) (ei p (cp p (cI xs n xs.length)) (mulM p (ys.getD n 0) (j8 p xs n)))).2.1
   have e2:=(s_ hp (cp p (cI xs n xs.length)) (mulM p (ys.getD n 0) (j8 p xs n))).2.1
   have e3:=(oP hp (cI xs n xs.length)).1
   have e4:=Eb (xs:=xs) xs.length (show n<xs.length by omega)
   omega
theorem Dh{p:Int}(hp:an p){a:List Int}(x:Int){n:Nat}(hn:a.length<=n):m6 p a x n=m7 p a x:=by
 induction n with
 | zero =>
   have:a.length=0:=by omega
   unfold m7
   rw[this]
 | succ n ih =>
   by_cases h:a.length=n+1
   ·unfold m7
    rw[h]
   ·have h1:=ih (by omega)
    show c_ p (m6 p a x n) (mulM p (a.getD n 0) (bq p x n))=_
    rw[h1,iT (by omega)]
    unfold c_ mulM
    rw[Int.zero_mul,Int.zero_emod,Int.add_zero,eo (Kn hp a x)]
theorem PU{p:Int}(hp:an p){a b:List Int}(h:∀ t,a.getD t 0=b.getD t 0)(x:Int):m7 p a x=m7 p b x:=by
 have key:∀ n,m6 p a x n=m6 p b x n:=by
  intro n
  induction n with
  | zero=>rfl
  | succ n ih =>
    show c_ p (m6 p a x n) (mulM p (a.getD n 0) (bq p x n))=c_ p (m6 p b x n) (mulM p (b.getD n 0) (bq p x n))
    rw[ih,h n]
 rw[<-Dh hp (a:=a) x (n:=max a.length b.length) (by omega),key,Dh hp (a:=b) x (by omega)]
theorem A0{l:List Int}:∀ n,∀ t,kh l n<=t->t<n->l.getD t 0=0
 | 0,t,_,h=>by omega
 | n+1,t,h,h1=>by
   unfold kh at h
   split at h
   ·rename_i h0
    by_cases e:t=n
    ·rw[e];exact h0
    ·exact A0 n t h (by omega)
   ·omega
theorem vk(l:List Int)(t:Nat):(bz l).getD t 0=l.getD t 0:=by
 by_cases h:t<gA l
 ·exact pX h
 ·rw[iT (by rw[mF];omega)]
  by_cases h1:t<l.length
  ·exact (A0 l.length t (Nat.le_of_not_lt h) h1).symm
  ·exact (iT (by omega)).symm
theorem E2(l:List Int)(j t:Nat):(l++List.replicate j 0).getD t 0=l.getD t 0:=by
 rw[List.getD_eq_getElem?_getD,List.getD_eq_getElem?_getD,List.getElem?_append]
 split
 ·rfl
 ·rename_i h
  rw[List.getElem?_eq_none (show l.length<=t by omega),List.getElem?_replicate]
  split<;>rfl
theorem kz(p:Int)(a xs:List Int)(n:Nat):(dC p a xs n).length=n:=fP _ n
theorem xk(p:Int)(a xs:List Int)(n:Nat):dC p a xs n++[m7 p a (xs.getD n 0)]=dC p a xs (n+1):=rF _ n
theorem OS{p:Int}(hp:an p){a b:List Int}(h:∀ t,a.getD t 0=b.getD t 0)(xs:List Int)(n:Nat):dC p a xs n=dC p b xs n:=cX (fun _ _=>PU hp h _)
theorem uu{h:Nat->Bool}:∀ n,(∀ t,t<n->h t=false)->findF h n=none
 | 0,_=>rfl
 | n+1,hn=>by
   unfold findF
   rw[uu n (fun t ht=>hn t (by omega)),hn n (by omega)];rfl
theorem A6{h:Nat->Bool}{s:Nat}(hs:h s=true)(hl:∀ t,t<s->h t=false):∀ n,s<n->findF h n=some s
 | 0,h0=>by omega
 | n+1,h0=>by
   unfold findF
   by_cases e:s=n
   ·subst e
    rw[uu s hl,hs];rfl
   ·rw[A6 hs hl n (by omega)]
theorem ra{f:Int}{xs ys:List Int}{k:Int}(h:(dG f xs k&&decide (ys.length=xs.length)&&aw f ys)=false):([],0,false)=cM f xs ys k:=by unfold cM;rw[h];rfl
theorem Hl{f:Int}{xs ys:List Int}{k:Int}(h1:dG f xs k=true)(h2:ys.length=xs.length)(h3:aw f ys=true):cM f xs ys k=PM (ab f) xs ys k.toNat (findF (kl (ab f) xs ys k.toNat) (2^xs.length)):=by
 unfold cM
 rw[h1,h3,decide_eq_true h2];rfl
theorem Hk{f:Int}{xs ys:List Int}{k:Int}(h1:dG f xs k=true)(h2:ys.length=xs.length)(h3:aw f ys=true){s:Nat}(hs:jK (ab f) xs ys k.toNat s)(hl:s<2^xs.length)(hh:kl (ab f) xs ys k.toNat s=true) :
 cM f xs ys k=(Q2 (cD (ab f) xs ys s) k.toNat,((r_ (ab f) xs ys s:Nat):Int),true):=by
 rw[Hl h1 h2 h3,A6 hh hs.2 _ hl];rfl
theorem Hj{f:Int}{xs ys:List Int}{k:Int}(h1:dG f xs k=true)(h2:ys.length=xs.length)(h3:aw f ys=true){s:Nat}(hs:jK (ab f) xs ys k.toNat s)(hl:¬s<2^xs.length):([],0,false)=cM f xs ys k:=by
 obtain rfl:s=2^xs.length:=by have:=hs.1;omega
 rw[Hl h1 h2 h3,uu _ hs.2];rfl
theorem E7{p:Int}{xs ys:List Int}{k s:Nat}(hs:jK p xs ys k s)(hl:s<2^xs.length)(hh:kl p xs ys k s=false):jK p xs ys k (s+1):=by
 refine⟨by omega,fun t ht=>?_⟩
 by_cases e:t=s
 ·rw[e];exact hh
 ·exact hs.2 t (by omega)
theorem Em{n:Nat}(h:n<=10):2^n<=1024:=Nat.pow_le_pow_right (n:=2) (by omega) h
theorem HZ{n:Nat}(h:n<=10):bb .i64 1 (n:Int)=((2^n:Nat):Int):=by
 rw[sN (by omega)]
 exact (Int.natCast_pow 2 n).symm
theorem Mb{n:Nat}(h:n<=10):IntKind.u64.wrap (n:Int)=(n:Int):=vm ⟨n,by omega⟩
theorem K1:∀ a:Fin 1024,sM .i64 (a.val:Int) 1=((a.val%2:Nat):Int):=by decide +kernel
theorem Dc{a b:List Int}{n:Nat}(h:n<a.length/\n<b.length/\a.getD n 0=b.getD n 0):cC a b (n+1)=cC a b n:=by
 show (if _ then _ else _)=_
 rw[if_pos h]
theorem w_{a b:List Int}{n:Nat}(h:¬(n<a.length/\n<b.length/\a.getD n 0=b.getD n 0)):cC a b (n+1)=cC a b n+1:=by
 show (if _ then _ else _)=_
 rw[if_neg h]
theorem ym(a b:List Int):∀ n,cC a b n<=n
 | 0=>Nat.le_refl _
 | n+1=>by
   have:=ym a b n
   unfold cC
   split<;>omega
theorem Dd{a b:List Int}{m:Nat}(hm:m=min a.length b.length):∀ d,cC a b (m+d)=d+cC a b m
 | 0=>by rw[Nat.zero_add];rfl
 | d+1=>by
   have h:¬(m+d<a.length/\m+d<b.length/\a.getD (m+d) 0=b.getD (m+d) 0):=by omega
   rw[<-Nat.add_assoc,w_ h,Dd hm d]
   omega
theorem Hn{a b:List Int}{n:Nat}(ha:a.length=n)(hb:b.length=n):kU a b=((cC a b n:Nat):Int):=by
 unfold kU
 rw[ha,hb,Nat.max_self]
theorem yl{a b:List Int}(ha:a.length<=4096)(hb:b.length<=4096):mb a b=kU a b:=by
 unfold mb
 rw[if_neg (by omega)]
theorem Dv{n k:Nat}(h:k<=n)(hn:n<=10):i64.wrap ((i64.wrap ((n:Int)-(k:Int))).tdiv 2)=(((n-k)/2:Nat):Int):=by
 rw[wrap_small (n:=(n:Int)-(k:Int)) (by omega),show (n:Int)-(k:Int)=((n-k:Nat):Int) by omega]
 exact m_ (by omega)
theorem Ls{f:Int}{xs ys:List Int}(hp:bn f xs=true)(hl:ys.length=xs.length)(s:Nat):ak (ab f) (cD (ab f) xs ys s)=true/\(cD (ab f) xs ys s).length<=(aT xs s xs.length).length:=by
 obtain⟨hm,KN,na,he,hn⟩:=iL hp
 have h0:=(lA hm).mod
 have hs:=(Aq (xs:=xs) s).length_le
 exact⟨(vj h0 (aT ys s xs.length) (by omega) _).1,H4 h0 _ _ (Nat.le_refl _)⟩
theorem LA{p:Int}(hp:an p){m:List Int}(h:ak p m=true)(j:Nat):ak p (m++List.replicate j 0)=true :=
 r6 (fun i _=>by rw[E2];exact dr hp h i)
theorem pI{l:List Int}(h:fB l=true)(hn:0<l.length):l.getD (l.length-1) 0≠0:=by
 unfold fB at h
 have h:=of_decide_eq_true h
 intro h0
 obtain⟨n,iU⟩:∃ n,l.length=n+1:=⟨l.length-1,by omega⟩
 unfold gA at h
 rw[iU,kh] at h
 rw[iU,Nat.add_sub_cancel] at h0
 rw[if_pos h0] at h
 have:=vy l n
 omega
theorem L_{l:List Int}(h:0<l.length->l.getD (l.length-1) 0≠0):fB l=true:=by
 unfold fB
 refine decide_eq_true ?_
 unfold gA
 cases hn:l.length with
 | zero=>rfl
 | succ n =>
   rw[kh]
   rw[hn,Nat.add_sub_cancel] at h
   rw[if_neg (h (by omega))]
theorem Po{x y:List Int}(hx:fB x=true)(hy:fB y=true)(h:∀ t,x.getD t 0=y.getD t 0):x=y:=by
 have key:∀ {x y:List Int},fB y=true->(∀ t,x.getD t 0=y.getD t 0)->y.length<=x.length:=by
  intro x y hy h
  rcases Nat.lt_or_ge x.length y.length with hl|hl
  ·have h1:=pI hy (by omega)
   rw[<-h,List.getD_eq_getElem?_getD,List.getElem?_eq_none (by omega)] at h1
   exact absurd rfl h1
  ·exact hl
 have h1:=key hy h
 have h2:=key hx (fun t=>(h t).symm)
 refine List.ext_getElem (by omega) fun t a b=>?_
 have:=h t
 simpa[List.getD_eq_getElem?_getD,a,b] using this
theorem xK{x y:List Int}(h:∀ t,x.getD t 0=y.getD t 0):bz x=bz y :=
 Po (pJ x) (pJ y) (fun t=>by rw[vk,vk,h])
theorem gZ(p:Int)(b L:List Int)(i:Nat)(c:Int)(j:Nat):(cn p b L i c j).length=L.length:=cU _ _
theorem jo(p:Int)(b L:List Int)(i:Nat)(c:Int)(j:Nat){t:Nat}(ht:t<L.length):(cn p b L i c j).getD t 0=if i<=t/\t<i+j then bd p (L.getD t 0) (mulM p c (b.getD (t-i) 0)) else L.getD t 0:=by
 simp[cn,List.getD_eq_getElem?_getD,ht]
theorem jn(p r:Int)(a b:List Int):∀ k,(bL p r a b k).length=a.length
 | 0=>rfl
 | k+1=>by rw[bL,gZ,jn p r a b k]
theorem yo{p r:Int}(hp:an p){a b:List Int}(ha:ak p a=true):∀ k t,El p ((bL p r a b k).getD t 0)
 | 0,t=>dm hp ha t
 | k+1,t=>by
   rw[bL]
   rcases Nat.lt_or_ge t a.length with ht|ht
   ·rw[jo _ _ _ _ _ _ (by rw[jn];exact ht)]
    split
    ·exact iq hp _ _
    ·exact yo hp ha k t
   ·rw[List.getD_eq_getElem?_getD,List.getElem?_eq_none (by rw[gZ,jn];exact ht)]
    exact ep hp
theorem De{f:Int}(hm:ab f≠0){a b:List Int}(ha:ak (ab f) a=true)(hb:b.getD (b.length-1) 0%ab f≠0)(wC:0<b.length)(ib:b.length<=a.length):∀ k,k<=a.length-b.length+1->∀ t,a.length-k<=t->(bL (ab f) (aY (ab f) b) a b k).getD t 0=0
 | 0,_,t,ht=>by rw[bL,List.getD_eq_getElem?_getD,List.getElem?_eq_none (by omega)];rfl
 | k+1,hk,t,ht=>by
   have hp:=(bu hm).1
   have aJ:=hp
   unfold an at aJ
   rcases Nat.lt_or_ge t a.length with KW|KW
   ·rw[bL,jo _ _ _ _ _ _ (by rw[jn];exact KW)]
    by_cases h1:t=a.length-1-k
    ·rw[if_pos (by omega)]
     have e:t-(a.length-b.length-k)=b.length-1:=by omega
     rw[e,<-h1]
     have iH:=yo (r:=aY (ab f) b) (b:=b) hp ha k t
     generalize (bL (ab f) (aY (ab f) b) a b k).getD t 0=x at *
     unfold bd mulM aY
     rw[jg,<-jg,bp]
     have:x*aR (ab f) (b.getD (b.length-1) 0)*b.getD (b.length-1) 0%ab f=x%ab f:=by
      rw[Int.mul_assoc,Int.mul_comm (aR _ _),<-bg,inv_mul hm hb,Int.mul_one]
     rw[this,jg,Int.sub_self,Int.zero_emod]
    ·rw[if_neg (by omega)]
     exact De hm ha hb wC ib k (by omega) t (by omega)
   ·rw[List.getD_eq_getElem?_getD,List.getElem?_eq_none (by rw[jn];exact KW)];rfl
theorem rb(p r:Int)(a b:List Int)(n k:Nat):(eh p r a b n k).length=n:=cU _ _
theorem vB(p r:Int)(a b:List Int)(n k:Nat){t:Nat}(ht:t<n):(eh p r a b n k).getD t 0=if a.length-b.length<t+k/\t<=a.length-b.length then gB p r a b (a.length-b.length-t) else 0:=by
 simp[eh,List.getD_eq_getElem?_getD,ht]
theorem rm{l:List Int}{t:Nat}(h:l.length<=t):l.getD t 0=0:=by rw[List.getD_eq_getElem?_getD,List.getElem?_eq_none h];rfl
theorem OP{f:Int}(hm:ab f≠0){a b:List Int}(ha:aL f a=true)(hb:b.getD (b.length-1) 0%ab f≠0)(wC:0<b.length)(ib:b.length<=a.length):fB (eh (ab f) (aY (ab f) b) a b (a.length-b.length+1) (a.length-b.length+1))=true:=by
 have rv:=lA hm
 have hp:=rv.mod
 unfold aL at ha
 simp only[Bool.and_eq_true,decide_eq_true_eq] at ha
 obtain⟨_,he⟩:=fF ha.1.2
 refine L_ fun _=>?_
 rw[rb,Nat.add_sub_cancel,vB _ _ _ _ _ _ (by omega),if_pos (by omega),Nat.sub_self]
 unfold gB mulM
 rw[bL,Nat.sub_zero]
 have h1:=pI ha.2 (by omega)
 have h2:=dm hp he (a.length-1)
 intro h3
 rcases rv.pr _ _ h3 with h4|h4
 ·rw[eo h2] at h4;exact h1 h4
 ·have:=inv_mul hm hb
  unfold aY at h4
  rw[<-bg,h4,Int.mul_zero,Int.zero_emod] at this
  exact absurd this (by decide)
theorem My{f:Int}(hm:ab f≠0){a b:List Int}(ha:aL f a=true)(hb:b.getD (b.length-1) 0%ab f≠0)(wC:0<b.length)(ib:b.length<=a.length) :
 (bz (eh (ab f) (aY (ab f) b) a b a.length (a.length-b.length+1)),bz (bL (ab f) (aY (ab f) b) a b (a.length-b.length+1)))=fx (ab f) a b:=by
 unfold fx
 rw[if_neg (by omega)]
 congr 1
 rw[<-r5 (OP hm ha hb wC ib)]
 refine xK fun t=>?_
 rcases Nat.lt_or_ge t (a.length-b.length+1) with ht|ht
 ·rw[vB _ _ _ _ _ _ (by omega),vB _ _ _ _ _ _ ht]
 ·rw[rm (l:=eh _ _ _ _ (a.length-b.length+1) _) (by rw[rb];exact ht)]
  rcases Nat.lt_or_ge t a.length with KV|KV
  ·rw[vB _ _ _ _ _ _ KV,if_neg (by omega)]
  ·exact rm (by rw[rb];exact KV)
theorem Mx{f:Int}(hm:ab f≠0){a b:List Int}(ha:aL f a=true)(hb:b.getD (b.length-1) 0%ab f≠0)(wC:0<b.length)(ib:b.length<=a.length) :
 (eh (ab f) (aY (ab f) b) a b (a.length-b.length+1) (a.length-b.length+1),bz ((bL (ab f) (aY (ab f) b) a b (a.length-b.length+1)).take (b.length-1)))=fx (ab f) a b:=by
 have Du:=ha
 unfold aL at Du
 simp only[Bool.and_eq_true,decide_eq_true_eq] at Du
 obtain⟨_,he⟩:=fF Du.1.2
 unfold fx
 rw[if_neg (by omega)]
 congr 1
 refine xK fun t=>?_
 rcases Nat.lt_or_ge t (b.length-1) with ht|ht
 ·simp only[List.getD_eq_getElem?_getD,List.getElem?_take,if_pos ht]
 ·rw[rm (by rw[List.length_take];omega),De hm he hb wC ib _ (Nat.le_refl _) t (by omega)]
theorem s8(m:Int)(l:List Int):gv m l 0:=⟨Nat.zero_le _,fun x hx=>by simp at hx⟩
theorem s7{m:Int}{l:List Int}{k:Nat}(h:gv m l k)(hk:k<l.length)(h1 : -m<=l.getD k 0)(h2:l.getD k 0<=m):gv m l (k+1):=by
 refine⟨hk,fun x hx=>?_⟩
 rw[<-mB (z:=(0:Int)) hk] at hx
 rcases List.mem_append.1 hx with h3|h3
 ·exact h.2 x h3
 ·rw[List.mem_singleton.1 h3];exact⟨h1,h2⟩
theorem rO{m:Int}{l:List Int}{k:Nat}(hk:k<l.length)(h:¬(-m<=l.getD k 0/\l.getD k 0<=m)):¬ ∀ x∈l,-m<=x/\x<=m:=by
 intro hx
 apply h
 refine hx _ ?_
 rw[List.getD_eq_getElem?_getD,List.getElem?_eq_getElem hk]
 exact List.getElem_mem _
theorem vN{m:Int}{l:List Int}{k:Nat}(h:gv m l k)(hk:¬k<l.length):∀ x∈l,-m<=x/\x<=m:=by
 have:=h.2
 rwa [List.take_of_length_le (by omega)] at this
theorem FH :
 ∀(d:List Int),Ty.wf ai d->True->(decide ((200:Int)<(d.length:Int))=true->false=cd d)/\(decide ((200:Int)<(d.length:Int))=false->gv (1000000:Int) d (0:Nat)/\(d=d/\(0:Int)=(↑(0:Nat):Int))/\∀(x:Nat),gv (1000000:Int) d x->(decide ((x:Int)<(d.length:Int))=true->((0:Int)<=(x:Int)/\(x:Int)<(d.length:Int))/\True/\((!(decide ((-1000000:Int)<=d.getD ((x:Int).toNat) (0:Int))&&decide (d.getD ((x:Int).toNat) (0:Int)<=(1000000:Int))))=true->false=cd d)/\((!(decide ((-1000000:Int)<=d.getD ((x:Int).toNat) (0:Int))&&decide (d.getD ((x:Int).toNat) (0:Int)<=(1000000:Int))))=false->∃(x':Nat),gv (1000000:Int) d x'/\d.length-x'<d.length-x/\d=d/\i64.wrap ((x:Int)+(1:Int))=(x':Int)))/\(decide ((x:Int)<(d.length:Int))=false->true=cd d)):=by
  intro d hw hp
  replace hw:ai.wf d:=hw
  simp only[exists_const,forall_const,decide_eq_true_eq,decide_eq_false_iff_not,beq_iff_eq,sxS]
  unfold cd
  refine⟨fun h=>by rw[decide_eq_false (show ¬d.length<=200 by omega)];rfl,fun h=>⟨s8 _ _,rfl,fun x hx=>⟨fun aK=>⟨⟨by omega,aK⟩,fun h1=>?_,fun h1=>?_⟩,fun dU=>?_⟩⟩⟩
  ·rw[decide_eq_false (rO (m:=1000000) (show x<d.length by omega) (fun hh=>by rw[decide_eq_true hh.1,decide_eq_true hh.2] at h1;cases h1)),Bool.and_false]
  ·simp only[Bool.and_eq_true,decide_eq_true_eq] at h1
   exact⟨x+1,s7 hx (by omega) h1.1 h1.2,by omega,by rw[wrap_small (by omega)];rfl⟩
  ·rw[decide_eq_true (show d.length<=200 by omega),decide_eq_true (vN (m:=1000000) hx (by omega))];rfl
theorem Fk :
 ∀(d:List Int),Ty.wf ai d->True->gv (1000000:Int) d (0:Nat)/\(d=d/\d=d/\ae (d.length:Int)/\(0:Int)=(↑(0:Nat):Int))/\∀(x:Nat),gv (1000000:Int) d x->(decide ((x:Int)<(d.length:Int))=true->((0:Int)<=(x:Int)/\(x:Int)<(d.length:Int))/\(decide (d.getD ((x:Int).toNat) (0:Int)<(-1000000:Int))=true->false=cd d)/\(decide (d.getD ((x:Int).toNat) (0:Int)<(-1000000:Int))=false->(decide ((1000000:Int)<d.getD ((x:Int).toNat) (0:Int))=true->false=cd d)/\(decide ((1000000:Int)<d.getD ((x:Int).toNat) (0:Int))=false->∃(x':Nat),gv (1000000:Int) d x'/\d.length-x'<d.length-x/\d=d/\d=d/\ae (d.length:Int)/\i64.wrap ((x:Int)+(1:Int))=(x':Int))))/\(decide ((x:Int)<(d.length:Int))=false->decide ((d.length:Int)<=(200:Int))=cd d):=by
  intro d hw hp
  have hl:d.length<=9223372036854775807:=by have:=hw.1;unfold cQ at this;omega
  simp only[exists_const,forall_const,decide_eq_true_eq,decide_eq_false_iff_not,beq_iff_eq,sxS]
  unfold cd
  refine⟨s8 _ _,rfl,fun x hx=>⟨fun aK=>⟨⟨by omega,aK⟩,fun h1=>?_,fun h1=>⟨fun h2=>?_,fun h2=>?_⟩⟩,fun dU=>?_⟩⟩
  ·rw[decide_eq_false (rO (m:=1000000) (show x<d.length by omega) (fun hh=>by omega)),Bool.and_false]
  ·rw[decide_eq_false (rO (m:=1000000) (show x<d.length by omega) (fun hh=>by omega)),Bool.and_false]
  ·exact⟨x+1,s7 hx (by omega) (by omega) (by omega),by omega,by rw[wrap_small (by omega)];rfl⟩
  ·rw[decide_eq_true (vN (m:=1000000) hx (by omega)),Bool.and_true]
   by_cases h:d.length<=200
   ·rw[decide_eq_true h,decide_eq_true (show (d.length:Int)<=200 by omega)]
   ·rw[decide_eq_false h,decide_eq_false (show ¬(d.length:Int)<=200 by omega)]
theorem FJ :
 ∀(d:List Int),Ty.wf ai d->True->(decide ((400:Int)<(d.length:Int))=true->false=bD d)/\(decide ((400:Int)<(d.length:Int))=false->gv (1099511627776:Int) d (0:Nat)/\(d=d/\(0:Int)=(↑(0:Nat):Int))/\∀(x:Nat),gv (1099511627776:Int) d x->(decide ((x:Int)<(d.length:Int))=true->((0:Int)<=(x:Int)/\(x:Int)<(d.length:Int))/\True/\((!(decide ((-1099511627776:Int)<=d.getD ((x:Int).toNat) (0:Int))&&decide (d.getD ((x:Int).toNat) (0:Int)<=(1099511627776:Int))))=true->false=bD d)/\((!(decide ((-1099511627776:Int)<=d.getD ((x:Int).toNat) (0:Int))&&decide (d.getD ((x:Int).toNat) (0:Int)<=(1099511627776:Int))))=false->∃(x':Nat),gv (1099511627776:Int) d x'/\d.length-x'<d.length-x/\d=d/\i64.wrap ((x:Int)+(1:Int))=(x':Int)))/\(decide ((x:Int)<(d.length:Int))=false->true=bD d)):=by
  intro d hw hp
  replace hw:ai.wf d:=hw
  simp only[exists_const,forall_const,decide_eq_true_eq,decide_eq_false_iff_not,beq_iff_eq,sxS]
  unfold bD
  refine⟨fun h=>by rw[decide_eq_false (show ¬d.length<=400 by omega)];rfl,fun h=>⟨s8 _ _,rfl,fun x hx=>⟨fun aK=>⟨⟨by omega,aK⟩,fun h1=>?_,fun h1=>?_⟩,fun dU=>?_⟩⟩⟩
  ·rw[decide_eq_false (rO (m:=1099511627776) (show x<d.length by omega) (fun hh=>by rw[decide_eq_true hh.1,decide_eq_true hh.2] at h1;cases h1)),Bool.and_false]
  ·simp only[Bool.and_eq_true,decide_eq_true_eq] at h1
   exact⟨x+1,s7 hx (by omega) h1.1 h1.2,by omega,by rw[wrap_small (by omega)];rfl⟩
  ·rw[decide_eq_true (show d.length<=400 by omega),decide_eq_true (vN (m:=1099511627776) hx (by omega))];rfl
theorem Fl :
 ∀(d:List Int),Ty.wf ai d->True->gv (1099511627776:Int) d (0:Nat)/\(d=d/\d=d/\ae (d.length:Int)/\(0:Int)=(↑(0:Nat):Int))/\∀(x:Nat),gv (1099511627776:Int) d x->(decide ((x:Int)<(d.length:Int))=true->((0:Int)<=(x:Int)/\(x:Int)<(d.length:Int))/\(decide (d.getD ((x:Int).toNat) (0:Int)<(-1099511627776:Int))=true->false=bD d)/\(decide (d.getD ((x:Int).toNat) (0:Int)<(-1099511627776:Int))=false->(decide ((1099511627776:Int)<d.getD ((x:Int).toNat) (0:Int))=true->false=bD d)/\(decide ((1099511627776:Int)<d.getD ((x:Int).toNat) (0:Int))=false->∃(x':Nat),gv (1099511627776:Int) d x'/\d.length-x'<d.length-x/\d=d/\d=d/\ae (d.length:Int)/\i64.wrap ((x:Int)+(1:Int))=(x':Int))))/\(decide ((x:Int)<(d.length:Int))=false->decide ((d.length:Int)<=(400:Int))=bD d):=by
  intro d hw hp
  have hl:d.length<=9223372036854775807:=by have:=hw.1;unfold cQ at this;omega
  simp only[exists_const,forall_const,decide_eq_true_eq,decide_eq_false_iff_not,beq_iff_eq,sxS]
  unfold bD
  refine⟨s8 _ _,rfl,fun x hx=>⟨fun aK=>⟨⟨by omega,aK⟩,fun h1=>?_,fun h1=>⟨fun h2=>?_,fun h2=>?_⟩⟩,fun dU=>?_⟩⟩
  ·rw[decide_eq_false (rO (m:=1099511627776) (show x<d.length by omega) (fun hh=>by omega)),Bool.and_false]
  ·rw[decide_eq_false (rO (m:=1099511627776) (show x<d.length by omega) (fun hh=>by omega)),Bool.and_false]
  ·exact⟨x+1,s7 hx (by omega) (by omega) (by omega),by omega,by rw[wrap_small (by omega)];rfl⟩
  ·rw[decide_eq_true (vN (m:=1099511627776) hx (by omega)),Bool.and_true]
   by_cases h:d.length<=400
   ·rw[decide_eq_true h,decide_eq_true (show (d.length:Int)<=400 by omega)]
   ·rw[decide_eq_false h,decide_eq_false (show ¬(d.length:Int)<=400 by omega)]
theorem G1 :
 ∀(d:Int×List Int×List Int),Ty.wf ah d.1/\Ty.wf ai d.2.1/\Ty.wf ai d.2.2->True->True/\((!aL d.1 d.2.1)=true->([],false)=c5 d.1 d.2.1 d.2.2)/\((!aL d.1 d.2.1)=false->True/\((!aL d.1 d.2.2)=true->([],false)=c5 d.1 d.2.1 d.2.2)/\((!aL d.1 d.2.2)=false->(decide ((0:Int)<(d.2.1.length:Int))=true->(decide ((0:Int)<(d.2.2.length:Int))=true->(decide ((400:Int)<i64.wrap (i64.wrap ((d.2.1.length:Int)+(d.2.2.length:Int))-(1:Int)))=true->([],false)=c5 d.1 d.2.1 d.2.2)/\(decide ((400:Int)<i64.wrap (i64.wrap ((d.2.1.length:Int)+(d.2.2.length:Int))-(1:Int)))=false->(aw d.1 d.2.1=true/\aw d.1 d.2.2=true/\d.2.1.length<=(1000:Nat)/\d.2.2.length<=(1000:Nat))/\(Ty.wf ai (cY (ab d.1) d.2.1 d.2.2)->(cY (ab d.1) d.2.1 d.2.2,true)=c5 d.1 d.2.1 d.2.2)))/\(decide ((0:Int)<(d.2.2.length:Int))=false->(aw d.1 d.2.1=true/\aw d.1 d.2.2=true/\d.2.1.length<=(1000:Nat)/\d.2.2.length<=(1000:Nat))/\(Ty.wf ai (cY (ab d.1) d.2.1 d.2.2)->(cY (ab d.1) d.2.1 d.2.2,true)=c5 d.1 d.2.1 d.2.2)))/\(decide ((0:Int)<(d.2.1.length:Int))=false->(aw d.1 d.2.1=true/\aw d.1 d.2.2=true/\d.2.1.length<=(1000:Nat)/\d.2.2.length<=(1000:Nat))/\(Ty.wf ai (cY (ab d.1) d.2.1 d.2.2)->(cY (ab d.1) d.2.1 d.2.2,true)=c5 d.1 d.2.1 d.2.2)))):=by
  intro d hw hp
  obtain⟨f,a,b⟩:=d
  simp only[exists_const,forall_const,decide_eq_true_eq,decide_eq_false_iff_not,beq_iff_eq,sxS]
  unfold c5
  refine⟨fun h=>by rw[h];rfl,fun ha=>⟨fun h=>by rw[h,Bool.and_false];rfl,fun hb=>?_⟩⟩
  have Du:=ha
  have fu:=hb
  unfold aL at Du fu
  simp only[Bool.and_eq_true,decide_eq_true_eq] at Du fu
  have kn:aw f a=true/\aw f b=true/\a.length<=1000/\b.length<=1000:=⟨Du.1.2,fu.1.2,by omega,by omega⟩
  rw[ha,hb]
  have w1:i64.wrap (i64.wrap ((a.length:Int)+b.length)-1)=(a.length:Int)+b.length-1:=by rw[wrap_small (n:=(a.length:Int)+b.length) (by omega),wrap_small (by omega)]
  rw[w1]
  refine⟨fun h1=>⟨fun h2=>⟨fun h3=>?_,fun h3=>⟨kn,fun _=>?_⟩⟩,fun h2=>⟨kn,fun _=>?_⟩⟩,fun h1=>⟨kn,fun _=>?_⟩⟩
  ·rw[decide_eq_false (by omega)];rfl
  ·rw[decide_eq_true (by omega)];rfl
  ·rw[decide_eq_true (by omega)];rfl
  ·rw[decide_eq_true (by omega)];rfl
theorem JR :
 ∀(d:Int×List Int×List Int),Ty.wf ah d.1/\Ty.wf ai d.2.1/\Ty.wf ai d.2.2->True->True/\((!aL d.1 d.2.1)=true->([],[],false)=bK d.1 d.2.1 d.2.2)/\((!aL d.1 d.2.1)=false->True/\((!aL d.1 d.2.2)=true->([],[],false)=bK d.1 d.2.1 d.2.2)/\((!aL d.1 d.2.2)=false->(decide ((d.2.2.length:Int)=(0:Int))=true->([],[],false)=bK d.1 d.2.1 d.2.2)/\(decide ((d.2.2.length:Int)=(0:Int))=false->(aL d.1 d.2.1=true/\aL d.1 d.2.2=true/\d.2.2.length≠(0:Nat))/\(Ty.wf ai (fx (ab d.1) d.2.1 d.2.2).1/\Ty.wf ai (fx (ab d.1) d.2.1 d.2.2).2->(Prod.fst (fx (ab d.1) d.2.1 d.2.2),(fx (ab d.1) d.2.1 d.2.2).2,true)=bK d.1 d.2.1 d.2.2)))):=by
  intro d hw hp
  obtain⟨f,a,b⟩:=d
  simp only[exists_const,forall_const,decide_eq_true_eq,decide_eq_false_iff_not,beq_iff_eq,sxS]
  unfold bK
  refine⟨fun h=>by rw[h];rfl,fun ha=>⟨fun h=>by rw[h,Bool.and_false];rfl,fun hb=>⟨fun h=>?_,fun h=>⟨⟨ha,hb,by omega⟩,fun _=>?_⟩⟩⟩⟩
  ·rw[decide_eq_false (show ¬b.length≠0 by omega),Bool.and_false];rfl
  ·rw[ha,hb,decide_eq_true (show b.length≠0 by omega)];rfl
theorem FE :
 ∀(d:Int×List Int),Ty.wf ah d.1/\Ty.wf ai d.2->True->True/\((decide ((1:Int)<=(d.2.length:Int))&&decide ((d.2.length:Int)<=(64:Int)))=true->True/\aw d.1 d.2=gi d.1 d.2)/\((decide ((1:Int)<=(d.2.length:Int))&&decide ((d.2.length:Int)<=(64:Int)))=false->false=gi d.1 d.2):=by
  intro d hw hp
  obtain⟨f,a⟩:=d
  simp only[exists_const,forall_const,decide_eq_true_eq,decide_eq_false_iff_not,beq_iff_eq,sxS]
  unfold gi
  have e1:decide ((1:Int)<=a.length)=decide (1<=a.length):=by by_cases h:1<=a.length<;>simp[h]<;>omega
  have e2:decide ((a.length:Int)<=64)=decide (a.length<=64):=by by_cases h:a.length<=64<;>simp[h]<;>omega
  rw[e1,e2]
  exact⟨fun h=>by rw[h];rfl,fun h=>by rw[h];rfl⟩
theorem Mj :
 ∀(d:Int×Int×List Int×List Int×Int),Ty.wf nS d->True->True/\((!(decide ((1:Int)<=d.1)&&decide (d.1<=(11:Int))))=true->false=aF d)/\((!(decide ((1:Int)<=d.1)&&decide (d.1<=(11:Int))))=false->True/\(Ty.wf ah (ab d.2.1)->(decide (ab d.2.1=(0:Int))=true->false=aF d)/\(decide (ab d.2.1=(0:Int))=false->(decide (d.1=(6:Int))=true->((!decide (d.2.1=(0:Int)))=true->false=aF d)/\((!decide (d.2.1=(0:Int)))=false->True/\((!bD d.2.2.1)=true->false=aF d)/\((!bD d.2.2.1)=false->True/\((!bD d.2.2.2.1)=true->false=aF d)/\((!bD d.2.2.2.1)=false->True/\((!(decide ((0:Int)<=d.2.2.2.2)&&decide (d.2.2.2.2<=(400:Int))))=true->false=aF d)/\((!(decide ((0:Int)<=d.2.2.2.2)&&decide (d.2.2.2.2<=(400:Int))))=false->True/\(ek d.1=true->(decide (d.1=(11:Int))=true->true=aF d)/\(decide (d.1=(11:Int))=false->decide (d.2.2.2.2=(0:Int))=aF d))/\(ek d.1=false->(decide ((d.2.2.2.1.length:Int)=(0:Int))=true->(decide (d.1=(11:Int))=true->true=aF d)/\(decide (d.1=(11:Int))=false->decide (d.2.2.2.2=(0:Int))=aF d))/\(decide ((d.2.2.2.1.length:Int)=(0:Int))=false->false=aF d)))))))/\(decide (d.1=(6:Int))=false->True/\((!bD d.2.2.1)=true->false=aF d)/\((!bD d.2.2.1)=false->True/\((!bD d.2.2.2.1)=true->false=aF d)/\((!bD d.2.2.2.1)=false->True/\((!(decide ((0:Int)<=d.2.2.2.2)&&decide (d.2.2.2.2<=(400:Int))))=true->false=aF d)/\((!(decide ((0:Int)<=d.2.2.2.2)&&decide (d.2.2.2.2<=(400:Int))))=false->True/\(ek d.1=true->(decide (d.1=(11:Int))=true->true=aF d)/\(decide (d.1=(11:Int))=false->decide (d.2.2.2.2=(0:Int))=aF d))/\(ek d.1=false->(decide ((d.2.2.2.1.length:Int)=(0:Int))=true->(decide (d.1=(11:Int))=true->true=aF d)/\(decide (d.1=(11:Int))=false->decide (d.2.2.2.2=(0:Int))=aF d))/\(decide ((d.2.2.2.1.length:Int)=(0:Int))=false->false=aF d))))))))):=by
  intro d hw hp
  simp only[exists_const,forall_const,decide_eq_true_eq,decide_eq_false_iff_not,beq_iff_eq,sxS]
  unfold aF
  generalize bD d.2.2.1=wa
  generalize bD d.2.2.2.1=wb
  generalize ek d.1=u
  repeat' first
   | apply And.intro
   | intro _
  all_goals (simp_all<;>(intros;omega))
theorem Mu(a b:List Int)(n:Nat):kv a b n++[ft a b n (min (n+1) a.length)]=kv a b (n+1):=rF (fun i=>ft a b i (min (i+1) a.length)) n
theorem OI(a b:List Int)(n:Nat):(kv a b n).length=n:=fP _ n
theorem w9{a b:List Int}{i j:Nat}(h:i-j<b.length):ft a b i (j+1)=ft a b i j+a.getD j 0*b.getD (i-j) 0:=by
 show (if _ then _ else _)=_
 rw[if_pos h]
theorem w8{a b:List Int}{i j:Nat}(h:¬i-j<b.length):ft a b i (j+1)=ft a b i j:=by
 show (if _ then _ else _)=_
 rw[if_neg h]
theorem jh{l:List Int}(h:cd l=true):l.length<=200/\∀ t,-1000000<=l.getD t 0/\l.getD t 0<=1000000:=by
 unfold cd at h
 simp only[Bool.and_eq_true,decide_eq_true_eq] at h
 refine⟨h.1,fun t=>?_⟩
 rcases Nat.lt_or_ge t l.length with ht|ht
 ·refine h.2 _ ?_
  rw[List.getD_eq_getElem?_getD,List.getElem?_eq_getElem ht]
  exact List.getElem_mem _
 ·rw[rm ht];omega
theorem HS{x y:Int}(hx : -1000000<=x/\x<=1000000)(hy : -1000000<=y/\y<=1000000) : -1000000000000<=x*y/\x*y<=1000000000000:=by
 have h:(x*y).natAbs<=1000000*1000000:=by rw[Int.natAbs_mul];exact Nat.mul_le_mul (by omega) (by omega)
 omega
theorem Kf{a b:List Int}(ha:cd a=true)(hb:cd b=true)(i:Nat):∀ j:Nat,-(1000000000000*(j:Int))<=ft a b i j/\ft a b i j<=1000000000000*(j:Int)
 | 0=>by simp[ft]
 | j+1=>by
   have ih:=Kf ha hb i j
   have hp:=HS ((jh ha).2 j) ((jh hb).2 (i-j))
   by_cases h:i-j<b.length
   ·rw[w9 h];omega
   ·rw[w8 h];omega
theorem PI(a b:List Int)(x y:Nat):(ee a b x y).length=a.length+b.length-1:=fP _ _
theorem OH(a b:List Int):List.replicate (a.length+b.length-1) 0=ee a b 0 0:=by
 rw[pD]
 refine cX (fun t _=>?_)
 rw[if_neg (by omega),Nat.zero_min]
 rfl
theorem PH{a b:List Int}{x y:Nat}(hx:x<a.length)(hy:y<b.length):(ee a b x y).getD (x+y) 0=ft a b (x+y) x:=by
 unfold ee
 rw[lB,if_pos (by omega),if_neg (by omega),Nat.min_eq_left (by omega)]
theorem PJ{a b:List Int}{x y:Nat}(hx:x<a.length)(hy:y<b.length):(ee a b x y).set (x+y) (ft a b (x+y) (x+1))=ee a b x (y+1):=by
 unfold ee
 rw[lC]
 refine cX (fun t _=>?_)
 by_cases h:t=x+y
 ·subst h
  rw[if_pos rfl,if_pos (by omega)]
 ·rw[if_neg h]
  by_cases h2:x<=t/\t<x+y
  ·rw[if_pos h2,if_pos (by omega)]
  ·rw[if_neg h2,if_neg (by omega)]
theorem OG(a b:List Int)(x:Nat):ee a b x b.length=ee a b (x+1) 0:=by
 refine cX (fun t _=>?_)
 rw[if_neg (show ¬(x+1<=t/\t<x+1+0) by omega)]
 by_cases h:x<=t
 ·rw[Nat.min_eq_left (show x+1<=t+1 by omega)]
  by_cases h2:t<x+b.length
  ·rw[if_pos ⟨h,h2⟩]
  ·rw[if_neg (by omega),Nat.min_eq_left (by omega),w8 (by omega)]
 ·rw[if_neg (by omega),Nat.min_eq_right (by omega),Nat.min_eq_right (by omega)]
theorem PG(a b:List Int):ee a b a.length 0=kv a b (a.length+b.length-1):=by
 refine cX (fun t _=>?_)
 rw[if_neg (by omega),Nat.min_comm]
theorem Hh{a b:List Int}(ha:cd a=true)(hb:cd b=true)(i j k m:Nat)(hj:j<=1000):i64.wrap (ft a b i j+i64.wrap (a.getD k 0*b.getD m 0))=ft a b i j+a.getD k 0*b.getD m 0:=by
 have h1:=Kf ha hb i j
 have h2:=HS ((jh ha).2 k) ((jh hb).2 m)
 have h3:(1000000000000*(j:Int))<=1000000000000000:=by omega
 rw[wrap_small (n:=a.getD k 0*b.getD m 0) (by omega),wrap_small (by omega)]
theorem Cs{a b:List Int}(h:¬(cd a=true/\cd b=true)):ca a b=([],false):=by
 unfold ca
 rw[if_neg (by rw[Bool.and_eq_true];exact h)]
theorem yi{a b:List Int}(ha:cd a=true)(hb:cd b=true)(h:a.length=0\/b.length=0):ca a b=([],true):=by
 unfold ca
 rw[if_pos (by rw[Bool.and_eq_true];exact⟨ha,hb⟩),if_pos h]
theorem Kg{a b:List Int}(ha:cd a=true)(hb:cd b=true)(h:¬(a.length=0\/b.length=0)):ca a b=(kv a b (a.length+b.length-1),true):=by
 unfold ca
 rw[if_pos (by rw[Bool.and_eq_true];exact⟨ha,hb⟩),if_neg h]
theorem Ci :
 ∀(d:List Int×List Int),Ty.wf ai d.1/\Ty.wf ai d.2->True->True/\((!cd d.1)=true->([],false)=ca d.1 d.2)/\((!cd d.1)=false->True/\((!cd d.2)=true->([],false)=ca d.1 d.2)/\((!cd d.2)=false->(decide ((d.1.length:Int)=(0:Int))=true->([],true)=ca d.1 d.2)/\(decide ((d.1.length:Int)=(0:Int))=false->(decide ((d.2.length:Int)=(0:Int))=true->([],true)=ca d.1 d.2)/\(decide ((d.2.length:Int)=(0:Int))=false->(0:Nat)<=d.1.length+d.2.length-(1:Nat)/\((d.1=d.1/\d.2=d.2/\aQ/\(0:Int)=(↑(0:Nat):Int))/\[]=kv d.1 d.2 (0:Nat))/\∀(x:Nat),x<=d.1.length+d.2.length-(1:Nat)->(decide ((x:Int)<i64.wrap (i64.wrap ((d.1.length:Int)+(d.2.length:Int))-(1:Int)))=true->(0:Nat)<=min (x+(1:Nat)) d.1.length/\((d.1=d.1/\d.2=d.2/\aQ/\ae (x:Int)/\(0:Int)=ft d.1 d.2 x (0:Nat)/\(0:Int)=(↑(0:Nat):Int))/\ae (kv d.1 d.2 x))/\∀(x_1:Nat),x_1<=min (x+(1:Nat)) d.1.length->(decide ((x_1:Int)<=(x:Int))=true->(decide ((x_1:Int)<(d.1.length:Int))=true->(decide (i64.wrap ((x:Int)-(x_1:Int))<(d.2.length:Int))=true->((0:Int)<=(x_1:Int)/\(x_1:Int)<(d.1.length:Int))/\((0:Int)<=i64.wrap ((x:Int)-(x_1:Int))/\i64.wrap ((x:Int)-(x_1:Int))<(d.2.length:Int))/\∃(x':Nat),x'<=min (x+(1:Nat)) d.1.length/\min (x+(1:Nat)) d.1.length-x'<min (x+(1:Nat)) d.1.length-x_1/\(d.1=d.1/\d.2=d.2/\aQ/\ae (x:Int)/\i64.wrap (ft d.1 d.2 x x_1+i64.wrap (d.1.getD ((x_1:Int).toNat) (0:Int)*d.2.getD (Int.toNat (i64.wrap ((x:Int)-(x_1:Int)))) (0:Int)))=ft d.1 d.2 x x'/\i64.wrap ((x_1:Int)+(1:Int))=(x':Int))/\ae (kv d.1 d.2 x))/\(decide (i64.wrap ((x:Int)-(x_1:Int))<(d.2.length:Int))=false->∃(x':Nat),x'<=min (x+(1:Nat)) d.1.length/\min (x+(1:Nat)) d.1.length-x'<min (x+(1:Nat)) d.1.length-x_1/\(d.1=d.1/\d.2=d.2/\aQ/\ae (x:Int)/\ft d.1 d.2 x x_1=ft d.1 d.2 x x'/\i64.wrap ((x_1:Int)+(1:Int))=(x':Int))/\ae (kv d.1 d.2 x)))/\(decide ((x_1:Int)<(d.1.length:Int))=false->(List.length (kv d.1 d.2 x)+List.length [ft d.1 d.2 x x_1])*(8:Nat)<=(140737488355328:Nat)/\∃(x':Nat),x'<=d.1.length+d.2.length-(1:Nat)/\d.1.length+d.2.length-(1:Nat)-x'<d.1.length+d.2.length-(1:Nat)-x/\(d.1=d.1/\d.2=d.2/\aQ/\i64.wrap ((x:Int)+(1:Int))=(x':Int))/\kv d.1 d.2 x++[ft d.1 d.2 x x_1]=kv d.1 d.2 x'))/\(decide ((x_1:Int)<=(x:Int))=false->(List.length (kv d.1 d.2 x)+List.length [ft d.1 d.2 x x_1])*(8:Nat)<=(140737488355328:Nat)/\∃(x':Nat),x'<=d.1.length+d.2.length-(1:Nat)/\d.1.length+d.2.length-(1:Nat)-x'<d.1.length+d.2.length-(1:Nat)-x/\(d.1=d.1/\d.2=d.2/\aQ/\i64.wrap ((x:Int)+(1:Int))=(x':Int))/\kv d.1 d.2 x++[ft d.1 d.2 x x_1]=kv d.1 d.2 x'))/\(decide ((x:Int)<i64.wrap (i64.wrap ((d.1.length:Int)+(d.2.length:Int))-(1:Int)))=false->(kv d.1 d.2 x,true)=ca d.1 d.2))))):=by
  intro (d:List Int×List Int) hw hp
  obtain⟨a,b⟩:=d
  simp only[exists_const,forall_const,decide_eq_true_eq,decide_eq_false_iff_not,beq_iff_eq,sxS]
  refine⟨fun h=>(Cs (by simp[h])).symm,fun ha=>⟨fun h=>(Cs (by simp[h])).symm,fun hb=>⟨fun h=>(yi ha hb (by omega)).symm,fun h=>⟨fun h1=>(yi ha hb (by omega)).symm,fun h1=>?_⟩⟩⟩⟩
  have h3:=(jh ha).1
  have h4:=(jh hb).1
  have lx:i64.wrap (i64.wrap ((a.length:Int)+(b.length:Int))-1)=((a.length+b.length-1:Nat):Int):=by
   rw[wrap_small (n:=(a.length:Int)+(b.length:Int)) (by omega),wrap_small (by omega)];omega
  rw[lx]
  refine⟨by omega,⟨rfl,rfl⟩,fun x hx=>?_⟩
  rw[OI]
  refine⟨fun h2=>⟨by omega,⟨rfl,rfl⟩,fun y hy=>?_⟩,fun h2=>?_⟩
  ·have fin:y=min (x+1) a.length->(x+[ft a b x y].length)*8<=140737488355328/\∃ x',x'<=a.length+b.length-1/\a.length+b.length-1-x'<a.length+b.length-1-x/\i64.wrap ((x:Int)+1)=(x':Int) ∧
    kv a b x++[ft a b x y]=kv a b x':=fun e =>
    ⟨by simp only[List.length_cons,List.length_nil];omega,x+1,by omega,by omega,aC (by omega),by rw[e];exact Mu _ _ _⟩
   refine⟨fun h3=>⟨fun h4=>?_,fun h4=>fin (by omega)⟩,fun h3=>fin (by omega)⟩
   have nd:i64.wrap ((x:Int)-(y:Int))=((x-y:Nat):Int):=by rw[wrap_small (by omega)];omega
   rw[nd,Int.toNat_natCast]
   refine⟨fun h5=>⟨⟨by omega,by omega⟩,⟨by omega,by omega⟩,y+1,by omega,by omega,?_,aC (by omega)⟩,fun h5=>⟨y+1,by omega,by omega,(w8 (by omega)).symm,aC (by omega)⟩⟩
   rw[Hh ha hb _ _ _ _ (by omega),w9 (by omega)]
  ·rw[Kg ha hb (by omega),show x=a.length+b.length-1 by omega]
theorem B_ :
 ∀(d:List Int×List Int),Ty.wf ai d.1/\Ty.wf ai d.2->True->True/\((!cd d.1)=true->([],false)=ca d.1 d.2)/\((!cd d.1)=false->True/\((!cd d.2)=true->([],false)=ca d.1 d.2)/\((!cd d.2)=false->(decide ((d.1.length:Int)=(0:Int))=true->([],true)=ca d.1 d.2)/\(decide ((d.1.length:Int)=(0:Int))=false->(decide ((d.2.length:Int)=(0:Int))=true->([],true)=ca d.1 d.2)/\(decide ((d.2.length:Int)=(0:Int))=false->((0:Int)<=i64.wrap (i64.wrap ((d.1.length:Int)+(d.2.length:Int))-(1:Int))/\i64.wrap (i64.wrap ((d.1.length:Int)+(d.2.length:Int))-(1:Int))<=i64.wrap (i64.wrap ((d.1.length:Int)+(d.2.length:Int))-(1:Int))/\i64.wrap (i64.wrap ((d.1.length:Int)+(d.2.length:Int))-(1:Int))*(↑(8:Nat):Int)<=(140737488355328:Int))/\(0:Nat)<=d.1.length/\((d.1=d.1/\d.2=d.2/\aQ/\d.1=d.1/\ae (d.1.length:Int)/\(0:Int)=(↑(0:Nat):Int))/\List.replicate (Int.toNat (i64.wrap (i64.wrap ((d.1.length:Int)+(d.2.length:Int))-(1:Int)))) (0:Int)=ee d.1 d.2 (0:Nat) (0:Nat))/\∀(x:Nat),x<=d.1.length->(decide ((x:Int)<(d.1.length:Int))=true->((0:Int)<=(x:Int)/\(x:Int)<(d.1.length:Int))/\(0:Nat)<=d.2.length/\((d.1=d.1/\d.2=d.2/\aQ/\ae (x:Int)/\ae (d.1.getD ((x:Int).toNat) (0:Int))/\d.1=d.1/\ae (d.1.length:Int)/\ae (x:Int)/\d.2=d.2/\ae (d.2.length:Int)/\(0:Int)=(↑(0:Nat):Int))/\ae (ee d.1 d.2 x (0:Nat)))/\∀(x_1:Nat),x_1<=d.2.length->(decide ((x_1:Int)<(d.2.length:Int))=true->((0:Int)<=(x_1:Int)/\(x_1:Int)<(d.2.length:Int))/\((0:Int)<=i64.wrap ((x:Int)+(x_1:Int))/\i64.wrap ((x:Int)+(x_1:Int))<(↑(List.length (ee d.1 d.2 x x_1)):Int))/\((0:Int)<=i64.wrap ((x:Int)+(x_1:Int))/\i64.wrap ((x:Int)+(x_1:Int))<(↑(List.length (ee d.1 d.2 x x_1)):Int))/\∃(x':Nat),x'<=d.2.length/\d.2.length-x'<d.2.length-x_1/\(d.1=d.1/\d.2=d.2/\aQ/\ae (x:Int)/\ae (d.1.getD ((x:Int).toNat) (0:Int))/\d.1=d.1/\ae (d.1.length:Int)/\ae (x:Int)/\d.2=d.2/\ae (d.2.length:Int)/\i64.wrap ((x_1:Int)+(1:Int))=(x':Int))/\List.set (ee d.1 d.2 x x_1) (Int.toNat (i64.wrap ((x:Int)+(x_1:Int)))) (i64.wrap (List.getD (ee d.1 d.2 x x_1) (Int.toNat (i64.wrap ((x:Int)+(x_1:Int)))) (0:Int)+i64.wrap (d.1.getD ((x:Int).toNat) (0:Int)*d.2.getD ((x_1:Int).toNat) (0:Int))))=ee d.1 d.2 x x')/\(decide ((x_1:Int)<(d.2.length:Int))=false->∃(x':Nat),x'<=d.1.length/\d.1.length-x'<d.1.length-x/\(d.1=d.1/\d.2=d.2/\aQ/\d.1=d.1/\ae (d.1.length:Int)/\i64.wrap ((x:Int)+(1:Int))=(x':Int))/\ee d.1 d.2 x x_1=ee d.1 d.2 x' (0:Nat)))/\(decide ((x:Int)<(d.1.length:Int))=false->(ee d.1 d.2 x (0:Nat),true)=ca d.1 d.2))))):=by
  intro (d:List Int×List Int) hw hp
  obtain⟨a,b⟩:=d
  simp only[exists_const,forall_const,decide_eq_true_eq,decide_eq_false_iff_not,beq_iff_eq,sxS]
  refine⟨fun h=>(Cs (by simp[h])).symm,fun ha=>⟨fun h=>(Cs (by simp[h])).symm,fun hb=>⟨fun h=>(yi ha hb (by omega)).symm,fun h=>⟨fun h1=>(yi ha hb (by omega)).symm,fun h1=>?_⟩⟩⟩⟩
  have h3:=(jh ha).1
  have h4:=(jh hb).1
  have lx:i64.wrap (i64.wrap ((a.length:Int)+(b.length:Int))-1)=((a.length+b.length-1:Nat):Int):=by
   rw[wrap_small (n:=(a.length:Int)+(b.length:Int)) (by omega),wrap_small (by omega)];omega
  rw[lx,Int.toNat_natCast]
  refine⟨⟨by omega,by omega,by omega⟩,by omega,⟨rfl,OH _ _⟩,fun x hx=>⟨fun h2=>⟨⟨by omega,by omega⟩,by omega,rfl,fun y hy=>⟨fun h5=>?_,fun h5=>?_⟩⟩,fun h2=>?_⟩⟩
  ·have nd:i64.wrap ((x:Int)+(y:Int))=((x+y:Nat):Int):=by rw[wrap_small (by omega)];omega
   rw[nd,Int.toNat_natCast,PI,PH (by omega) (by omega),Hh ha hb _ _ _ _ (by omega)]
   refine⟨⟨by omega,by omega⟩,⟨by omega,by omega⟩,⟨by omega,by omega⟩,y+1,by omega,by omega,aC (by omega),?_⟩
   rw[<-PJ (by omega) (by omega),w9 (by omega),Nat.add_sub_cancel_left]
  ·refine⟨x+1,by omega,by omega,aC (by omega),?_⟩
   rw[show y=b.length by omega]
   exact OG _ _ _
  ·rw[Kg ha hb (by omega),show x=a.length by omega,PG]
theorem rS{f:Int}{a:List Int}(h:gi f a=true):1<=a.length/\a.length<=64/\ab f≠0/\ak (ab f) a=true:=by
 unfold gi at h
 simp only[Bool.and_eq_true,decide_eq_true_eq] at h
 exact⟨h.1.1,h.1.2,fF h.2⟩
theorem CJ{f:Int}{a:List Int}(h:¬(gi f a=true/\a.getD 0 0≠0)):cm f a=([],false):=by
 unfold cm
 rw[if_neg (by rw[Bool.and_eq_true,decide_eq_true_eq];exact h)]
theorem L0{f:Int}{a:List Int}(h:gi f a=true)(h0:a.getD 0 0≠0):cm f a=(bB (ab f) a a.length,true):=by
 unfold cm
 rw[if_pos (by rw[Bool.and_eq_true,decide_eq_true_eq];exact⟨h,h0⟩)]
theorem LY{p:Int}(hp:an p)(a out:List Int)(i:Nat):∀ j,El p (lW p a out i j)
 | 0=>ep hp
 | j+1=>rf hp _ _
theorem LZ{p:Int}(hp:an p)(a:List Int):∀ k,ak p (bB p a k)=true
 | 0=>by unfold ak bB;simp
 | k+1=>by
   have ih:=LZ hp a k
   have h:=ea hp (gk p a (bB p a k) k k) (aR p (a.getD 0 0))
   unfold ak at *
   unfold El at h
   rw[decide_eq_true_eq] at *
   rw[bB]
   intro x hx
   rcases List.mem_append.1 hx with hx|hx
   ·exact ih x hx
   ·rw[List.mem_singleton.1 hx];omega
theorem Rf{p:Int}(hp:an p)(a:List Int):[aR p (a.getD 0 0)]=bB p a 1:=by
 have h:=oF hp (a.getD 0 0)
 show[_]=[mulM p 1 _]
 unfold mulM
 unfold El at h
 rw[Int.one_mul,Int.emod_eq_of_lt h.1 h.2]
theorem Pl{p:Int}{a out:List Int}{i:Nat}(hi:i≠0)(j:Nat)(c:Int):mulM p (bd p 0 (lW p a out i j)) c=mulM p (gk p a out i j) c:=by
 rw[<-H0 hi]
 unfold mulM
 rw[Int.mul_emod,Int.emod_emod_of_dvd _ (Int.dvd_refl p),<-Int.mul_emod]
theorem Cn :
 ∀(d:Int×List Int),Ty.wf ah d.1/\Ty.wf ai d.2->True->True/\((!gi d.1 d.2)=true->([],false)=cm d.1 d.2)/\((!gi d.1 d.2)=false->((0:Int)<=(0:Int)/\(0:Int)<(d.2.length:Int))/\(decide (d.2.getD ((0:Int).toNat) (0:Int)=(0:Int))=true->([],false)=cm d.1 d.2)/\(decide (d.2.getD ((0:Int).toNat) (0:Int)=(0:Int))=false->((0:Int)<=(0:Int)/\(0:Int)<(d.2.length:Int))/\True/\(Ty.wf ah (a_ d.1 (d.2.getD ((0:Int).toNat) (0:Int)) (-1:Int))->(0:Nat)<=d.2.length/\((d.1=d.1/\d.2=d.2/\aQ/\ae (a_ d.1 (d.2.getD ((0:Int).toNat) (0:Int)) (-1:Int))/\(0:Int)=(↑(0:Nat):Int))/\[]=bB (ab d.1) d.2 (0:Nat))/\∀(x:Nat),x<=d.2.length->(decide ((x:Int)<(d.2.length:Int))=true->(decide ((x:Int)=(0:Int))=true->(0:Nat)<=x/\((d.1=d.1/\d.2=d.2/\aQ/\ae (a_ d.1 (d.2.getD ((0:Int).toNat) (0:Int)) (-1:Int))/\ae (x:Int)/\(1:Int)=gk (ab d.1) d.2 (bB (ab d.1) d.2 x) x (0:Nat)/\(1:Int)=(↑(0:Nat):Int)+(1:Int))/\ae (bB (ab d.1) d.2 x))/\∀(x_1:Nat),x_1<=x->(decide ((x_1:Int)+(1:Int)<=(x:Int))=true->((0:Int)<=(x_1:Int)+(1:Int)/\(x_1:Int)+(1:Int)<(d.2.length:Int))/\((0:Int)<=i64.wrap ((x:Int)-((x_1:Int)+(1:Int)))/\i64.wrap ((x:Int)-((x_1:Int)+(1:Int)))<(↑(List.length (bB (ab d.1) d.2 x)):Int))/\True/\True/\(Ty.wf ah (fA d.1 (gk (ab d.1) d.2 (bB (ab d.1) d.2 x) x x_1) (b7 d.1 (d.2.getD (Int.toNat ((x_1:Int)+(1:Int))) (0:Int)) (List.getD (bB (ab d.1) d.2 x) (Int.toNat (i64.wrap ((x:Int)-((x_1:Int)+(1:Int))))) (0:Int))))->Ty.wf ah (b7 d.1 (d.2.getD (Int.toNat ((x_1:Int)+(1:Int))) (0:Int)) (List.getD (bB (ab d.1) d.2 x) (Int.toNat (i64.wrap ((x:Int)-((x_1:Int)+(1:Int))))) (0:Int)))->∃(x':Nat),x'<=x/\x-x'<x-x_1/\(d.1=d.1/\d.2=d.2/\aQ/\ae (a_ d.1 (d.2.getD ((0:Int).toNat) (0:Int)) (-1:Int))/\ae (x:Int)/\fA d.1 (gk (ab d.1) d.2 (bB (ab d.1) d.2 x) x x_1) (b7 d.1 (d.2.getD (Int.toNat ((x_1:Int)+(1:Int))) (0:Int)) (List.getD (bB (ab d.1) d.2 x) (Int.toNat (i64.wrap ((x:Int)-((x_1:Int)+(1:Int))))) (0:Int)))=gk (ab d.1) d.2 (bB (ab d.1) d.2 x) x x'/\i64.wrap ((x_1:Int)+(1:Int)+(1:Int))=(x':Int)+(1:Int))/\ae (bB (ab d.1) d.2 x)))/\(decide ((x_1:Int)+(1:Int)<=(x:Int))=false->True/\(Ty.wf ah (b7 d.1 (gk (ab d.1) d.2 (bB (ab d.1) d.2 x) x x_1) (a_ d.1 (d.2.getD ((0:Int).toNat) (0:Int)) (-1:Int)))->(List.length (bB (ab d.1) d.2 x)+List.length [b7 d.1 (gk (ab d.1) d.2 (bB (ab d.1) d.2 x) x x_1) (a_ d.1 (d.2.getD ((0:Int).toNat) (0:Int)) (-1:Int))])*(8:Nat)<=(140737488355328:Nat)/\∃(x':Nat),x'<=d.2.length/\d.2.length-x'<d.2.length-x/\(d.1=d.1/\d.2=d.2/\aQ/\ae (a_ d.1 (d.2.getD ((0:Int).toNat) (0:Int)) (-1:Int))/\i64.wrap ((x:Int)+(1:Int))=(x':Int))/\bB (ab d.1) d.2 x++[b7 d.1 (gk (ab d.1) d.2 (bB (ab d.1) d.2 x) x x_1) (a_ d.1 (d.2.getD ((0:Int).toNat) (0:Int)) (-1:Int))]=bB (ab d.1) d.2 x')))/\(decide ((x:Int)=(0:Int))=false->(0:Nat)<=x/\((d.1=d.1/\d.2=d.2/\aQ/\ae (a_ d.1 (d.2.getD ((0:Int).toNat) (0:Int)) (-1:Int))/\ae (x:Int)/\(0:Int)=gk (ab d.1) d.2 (bB (ab d.1) d.2 x) x (0:Nat)/\(1:Int)=(↑(0:Nat):Int)+(1:Int))/\ae (bB (ab d.1) d.2 x))/\∀(x_1:Nat),x_1<=x->(decide ((x_1:Int)+(1:Int)<=(x:Int))=true->((0:Int)<=(x_1:Int)+(1:Int)/\(x_1:Int)+(1:Int)<(d.2.length:Int))/\((0:Int)<=i64.wrap ((x:Int)-((x_1:Int)+(1:Int)))/\i64.wrap ((x:Int)-((x_1:Int)+(1:Int)))<(↑(List.length (bB (ab d.1) d.2 x)):Int))/\True/\True/\(Ty.wf ah (fA d.1 (gk (ab d.1) d.2 (bB (ab d.1) d.2 x) x x_1) (b7 d.1 (d.2.getD (Int.toNat ((x_1:Int)+(1:Int))) (0:Int)) (List.getD (bB (ab d.1) d.2 x) (Int.toNat (i64.wrap ((x:Int)-((x_1:Int)+(1:Int))))) (0:Int))))->Ty.wf ah (b7 d.1 (d.2.getD (Int.toNat ((x_1:Int)+(1:Int))) (0:Int)) (List.getD (bB (ab d.1) d.2 x) (Int.toNat (i64.wrap ((x:Int)-((x_1:Int)+(1:Int))))) (0:Int)))->∃(x':Nat),x'<=x/\x-x'<x-x_1/\(d.1=d.1/\d.2=d.2/\aQ/\ae (a_ d.1 (d.2.getD ((0:Int).toNat) (0:Int)) (-1:Int))/\ae (x:Int)/\fA d.1 (gk (ab d.1) d.2 (bB (ab d.1) d.2 x) x x_1) (b7 d.1 (d.2.getD (Int.toNat ((x_1:Int)+(1:Int))) (0:Int)) (List.getD (bB (ab d.1) d.2 x) (Int.toNat (i64.wrap ((x:Int)-((x_1:Int)+(1:Int))))) (0:Int)))=gk (ab d.1) d.2 (bB (ab d.1) d.2 x) x x'/\i64.wrap ((x_1:Int)+(1:Int)+(1:Int))=(x':Int)+(1:Int))/\ae (bB (ab d.1) d.2 x)))/\(decide ((x_1:Int)+(1:Int)<=(x:Int))=false->True/\(Ty.wf ah (b7 d.1 (gk (ab d.1) d.2 (bB (ab d.1) d.2 x) x x_1) (a_ d.1 (d.2.getD ((0:Int).toNat) (0:Int)) (-1:Int)))->(List.length (bB (ab d.1) d.2 x)+List.length [b7 d.1 (gk (ab d.1) d.2 (bB (ab d.1) d.2 x) x x_1) (a_ d.1 (d.2.getD ((0:Int).toNat) (0:Int)) (-1:Int))])*(8:Nat)<=(140737488355328:Nat)/\∃(x':Nat),x'<=d.2.length/\d.2.length-x'<d.2.length-x/\(d.1=d.1/\d.2=d.2/\aQ/\ae (a_ d.1 (d.2.getD ((0:Int).toNat) (0:Int)) (-1:Int))/\i64.wrap ((x:Int)+(1:Int))=(x':Int))/\bB (ab d.1) d.2 x++[b7 d.1 (gk (ab d.1) d.2 (bB (ab d.1) d.2 x) x x_1) (a_ d.1 (d.2.getD ((0:Int).toNat) (0:Int)) (-1:Int))]=bB (ab d.1) d.2 x'))))/\(decide ((x:Int)<(d.2.length:Int))=false->(bB (ab d.1) d.2 x,true)=cm d.1 d.2)))):=by
  intro (d:Int×List Int) hw hp
  obtain⟨f,a⟩:=d
  simp only[exists_const,forall_const,decide_eq_true_eq,decide_eq_false_iff_not,beq_iff_eq,sxS]
  refine⟨fun h=>(CJ (by simp[h])).symm,fun h=>?_⟩
  obtain⟨h1,h2,hm,he⟩:=rS h
  have hq:=(bu hm).1
  refine⟨⟨by omega,by omega⟩,fun h0=>(CJ (fun hh=>hh.2 h0)).symm,fun h0=>⟨⟨by omega,by omega⟩,fun _=>?_⟩⟩
  replace h0:a.getD 0 0≠0:=h0
  have hz:a_ f (a.getD (Int.toNat 0) 0) (-1)=aR (ab f) (a.getD 0 0):=vJ hm (by
   have hh:=dr hq he 0
   unfold El at hh
   rw[show (Int.toNat 0)=0 from rfl,Int.emod_eq_of_lt hh.1 hh.2];exact h0)
  refine⟨by omega,⟨rfl,rfl⟩,fun x hx=>?_⟩
  have body:∀ x_1:Nat,x_1<=x->x<a.length->((x_1:Int)+1<=(x:Int) →
   (0<=(x_1:Int)+1/\(x_1:Int)+1<(a.length:Int))/\(0<=i64.wrap ((x:Int)-((x_1:Int)+1))/\i64.wrap ((x:Int)-((x_1:Int)+1))<((bB (ab f) a x).length:Int)) ∧
   (ah.wf (fA f (gk (ab f) a (bB (ab f) a x) x x_1) (b7 f (a.getD ((x_1:Int)+1).toNat 0) ((bB (ab f) a x).getD (i64.wrap ((x:Int)-((x_1:Int)+1))).toNat 0))) →
    ah.wf (b7 f (a.getD ((x_1:Int)+1).toNat 0) ((bB (ab f) a x).getD (i64.wrap ((x:Int)-((x_1:Int)+1))).toNat 0)) →
    ∃ x',x'<=x/\x-x'<x-x_1/\fA f (gk (ab f) a (bB (ab f) a x) x x_1) (b7 f (a.getD ((x_1:Int)+1).toNat 0) ((bB (ab f) a x).getD (i64.wrap ((x:Int)-((x_1:Int)+1))).toNat 0))=gk (ab f) a (bB (ab f) a x) x x'/\i64.wrap ((x_1:Int)+1+1)=(x':Int)+1)) ∧
   (¬(x_1:Int)+1<=(x:Int)->ah.wf (b7 f (gk (ab f) a (bB (ab f) a x) x x_1) (a_ f (a.getD (Int.toNat 0) 0) (-1))) →
    ((bB (ab f) a x).length+[b7 f (gk (ab f) a (bB (ab f) a x) x x_1) (a_ f (a.getD (Int.toNat 0) 0) (-1))].length)*8<=140737488355328 ∧
    ∃ x',x'<=a.length/\a.length-x'<a.length-x/\i64.wrap ((x:Int)+1)=(x':Int) ∧
     bB (ab f) a x++[b7 f (gk (ab f) a (bB (ab f) a x) x x_1) (a_ f (a.getD (Int.toNat 0) 0) (-1))]=bB (ab f) a x'):=by
   intro y hy jY
   have nd:y+1<=x->i64.wrap ((x:Int)-((y:Int)+1))=((x-(y+1):Nat):Int):=fun _=>by rw[wrap_small (by omega)];omega
   rw[Ap]
   refine⟨fun h3=>?_,fun h3 _=>?_⟩
   ·rw[nd (by omega),Int.toNat_natCast,show ((y:Int)+1).toNat=y+1 by omega]
    refine⟨⟨by omega,by omega⟩,⟨by omega,by omega⟩,fun _ _=>⟨y+1,by omega,by omega,?_,?_⟩⟩
    ·rw[rT hm,iv hm];rfl
    ·rw[wrap_small (by omega)];omega
   ·rw[hz,iv hm,show y=x by omega]
    exact⟨by simp only[List.length_cons,List.length_nil];omega,x+1,by omega,by omega,aC (by omega),rfl⟩
  refine⟨fun h3=>⟨fun h4=>⟨by omega,⟨?_,rfl⟩,fun y hy=>body y hy (by omega)⟩,fun h4=>⟨by omega,⟨?_,rfl⟩,fun y hy=>body y hy (by omega)⟩⟩,fun h3=>?_⟩
  ·show _=if _ then _ else _
   rw[if_pos (by omega)]
  ·show _=if _ then _ else _
   rw[if_neg (by omega)]
  ·rw[L0 h h0,show x=a.length by omega]
theorem Ch :
 ∀(d:(Int×Int×Int)×List Int),Ty.wf bm d.1/\Ty.wf ai d.2->an d.1.1/\ak d.1.1 d.2=true/\(1:Nat)<=d.2.length/\d.2.length<=(64:Nat)->((0:Int)<=(0:Int)/\(0:Int)<(d.2.length:Int))/\(an d.1.1/\El d.1.1 (d.2.getD ((0:Int).toNat) (0:Int)))/\(Ty.wf ah (aR d.1.1 (d.2.getD ((0:Int).toNat) (0:Int)))->((1:Nat)<=(1:Nat)/\(1:Nat)<=d.2.length)/\(((ae d.1.1/\ae d.1.2.1/\ae d.1.2.2)/\d.2=d.2/\aQ/\ae (aR d.1.1 (d.2.getD ((0:Int).toNat) (0:Int)))/\(1:Int)=(↑(1:Nat):Int))/\(ae d.1.1/\ae d.1.2.1/\ae d.1.2.2)/\[aR d.1.1 (d.2.getD ((0:Int).toNat) (0:Int))]=bB d.1.1 d.2 (1:Nat))/\∀(x:Nat),(1:Nat)<=x/\x<=d.2.length->(decide ((x:Int)<(d.2.length:Int))=true->(0:Nat)<=x/\(((ae d.1.1/\ae d.1.2.1/\ae d.1.2.2)/\d.2=d.2/\aQ/\ae (aR d.1.1 (d.2.getD ((0:Int).toNat) (0:Int)))/\ae (x:Int)/\(0:Int)=lW d.1.1 d.2 (bB d.1.1 d.2 x) x (0:Nat)/\(1:Int)=(↑(0:Nat):Int)+(1:Int))/\(ae d.1.1/\ae d.1.2.1/\ae d.1.2.2)/\ae (bB d.1.1 d.2 x))/\∀(x_1:Nat),x_1<=x->(decide ((x_1:Int)+(1:Int)<=(x:Int))=true->((0:Int)<=(x_1:Int)+(1:Int)/\(x_1:Int)+(1:Int)<(d.2.length:Int))/\((0:Int)<=i64.wrap ((x:Int)-((x_1:Int)+(1:Int)))/\i64.wrap ((x:Int)-((x_1:Int)+(1:Int)))<(↑(List.length (bB d.1.1 d.2 x)):Int))/\(an d.1.1/\El d.1.1 (d.2.getD (Int.toNat ((x_1:Int)+(1:Int))) (0:Int))/\El d.1.1 (List.getD (bB d.1.1 d.2 x) (Int.toNat (i64.wrap ((x:Int)-((x_1:Int)+(1:Int))))) (0:Int)))/\(an d.1.1/\El d.1.1 (lW d.1.1 d.2 (bB d.1.1 d.2 x) x x_1)/\El d.1.1 (mulM d.1.1 (d.2.getD (Int.toNat ((x_1:Int)+(1:Int))) (0:Int)) (List.getD (bB d.1.1 d.2 x) (Int.toNat (i64.wrap ((x:Int)-((x_1:Int)+(1:Int))))) (0:Int))))/\(Ty.wf ah (c_ d.1.1 (lW d.1.1 d.2 (bB d.1.1 d.2 x) x x_1) (mulM d.1.1 (d.2.getD (Int.toNat ((x_1:Int)+(1:Int))) (0:Int)) (List.getD (bB d.1.1 d.2 x) (Int.toNat (i64.wrap ((x:Int)-((x_1:Int)+(1:Int))))) (0:Int))))->Ty.wf ah (mulM d.1.1 (d.2.getD (Int.toNat ((x_1:Int)+(1:Int))) (0:Int)) (List.getD (bB d.1.1 d.2 x) (Int.toNat (i64.wrap ((x:Int)-((x_1:Int)+(1:Int))))) (0:Int)))->∃(x':Nat),x'<=x/\x-x'<x-x_1/\((ae d.1.1/\ae d.1.2.1/\ae d.1.2.2)/\d.2=d.2/\aQ/\ae (aR d.1.1 (d.2.getD ((0:Int).toNat) (0:Int)))/\ae (x:Int)/\c_ d.1.1 (lW d.1.1 d.2 (bB d.1.1 d.2 x) x x_1) (mulM d.1.1 (d.2.getD (Int.toNat ((x_1:Int)+(1:Int))) (0:Int)) (List.getD (bB d.1.1 d.2 x) (Int.toNat (i64.wrap ((x:Int)-((x_1:Int)+(1:Int))))) (0:Int)))=lW d.1.1 d.2 (bB d.1.1 d.2 x) x x'/\i64.wrap ((x_1:Int)+(1:Int)+(1:Int))=(x':Int)+(1:Int))/\(ae d.1.1/\ae d.1.2.1/\ae d.1.2.2)/\ae (bB d.1.1 d.2 x)))/\(decide ((x_1:Int)+(1:Int)<=(x:Int))=false->(an d.1.1/\El d.1.1 (0:Int)/\El d.1.1 (lW d.1.1 d.2 (bB d.1.1 d.2 x) x x_1))/\(an d.1.1/\El d.1.1 (bd d.1.1 (0:Int) (lW d.1.1 d.2 (bB d.1.1 d.2 x) x x_1))/\El d.1.1 (aR d.1.1 (d.2.getD ((0:Int).toNat) (0:Int))))/\(Ty.wf ah (mulM d.1.1 (bd d.1.1 (0:Int) (lW d.1.1 d.2 (bB d.1.1 d.2 x) x x_1)) (aR d.1.1 (d.2.getD ((0:Int).toNat) (0:Int))))->Ty.wf ah (bd d.1.1 (0:Int) (lW d.1.1 d.2 (bB d.1.1 d.2 x) x x_1))->(List.length (bB d.1.1 d.2 x)+List.length [mulM d.1.1 (bd d.1.1 (0:Int) (lW d.1.1 d.2 (bB d.1.1 d.2 x) x x_1)) (aR d.1.1 (d.2.getD ((0:Int).toNat) (0:Int)))])*(8:Nat)<=(140737488355328:Nat)/\∃(x':Nat),((1:Nat)<=x'/\x'<=d.2.length)/\d.2.length-x'<d.2.length-x/\((ae d.1.1/\ae d.1.2.1/\ae d.1.2.2)/\d.2=d.2/\aQ/\ae (aR d.1.1 (d.2.getD ((0:Int).toNat) (0:Int)))/\i64.wrap ((x:Int)+(1:Int))=(x':Int))/\(ae d.1.1/\ae d.1.2.1/\ae d.1.2.2)/\bB d.1.1 d.2 x++[mulM d.1.1 (bd d.1.1 (0:Int) (lW d.1.1 d.2 (bB d.1.1 d.2 x) x x_1)) (aR d.1.1 (d.2.getD ((0:Int).toNat) (0:Int)))]=bB d.1.1 d.2 x')))/\(decide ((x:Int)<(d.2.length:Int))=false->bB d.1.1 d.2 x=bB d.1.1 d.2 d.2.length)):=by
  intro (d:Fd×List Int) hw hp
  obtain⟨⟨p,g,t⟩,a⟩:=d
  replace hp:an p/\ak p a=true/\1<=a.length/\a.length<=64:=hp
  simp only[exists_const,forall_const,decide_eq_true_eq,decide_eq_false_iff_not,beq_iff_eq,sxS]
  obtain⟨hq,he,h1,h2⟩:=hp
  refine⟨⟨by omega,by omega⟩,⟨hq,dr hq he _⟩,fun _=>⟨⟨by omega,by omega⟩,⟨rfl,Rf hq a⟩,fun x hx=>⟨fun h3=>⟨by omega,⟨rfl,rfl⟩,fun y hy=>?_⟩,fun h3=>by rw[show x=a.length by omega]⟩⟩⟩
  have nd:y+1<=x->i64.wrap ((x:Int)-((y:Int)+1))=((x-(y+1):Nat):Int):=fun _=>by rw[wrap_small (by omega)];omega
  rw[Ap]
  refine⟨fun h4=>?_,fun h4=>⟨⟨hq,ep hq,LY hq _ _ _ _⟩,⟨hq,iq hq _ _,oF hq _⟩,fun _ _=>⟨by simp only[List.length_cons,List.length_nil];omega,x+1,⟨by omega,by omega⟩,by omega,aC (by omega),?_⟩⟩⟩
  ·rw[nd (by omega),Int.toNat_natCast,show ((y:Int)+1).toNat=y+1 by omega]
   refine⟨⟨by omega,by omega⟩,⟨by omega,by omega⟩,⟨hq,dr hq he _,dr hq (LZ hq a x) _⟩,⟨hq,LY hq _ _ _ _,ea hq _ _⟩,fun _ _=>⟨y+1,by omega,by omega,rfl,?_⟩⟩
   rw[wrap_small (by omega)];omega
  ·rw[Pl (by omega),show y=x by omega]
   rfl
theorem Md{k:Int}(h1:1<=k)(h2:k<=11):jj k=ek k:=by
 unfold jj ek
 rw[decide_eq_decide]
 omega
theorem uJ{k f:Int}{a b:List Int}{c:Int}:aF (k,f,a,b,c)=true↔((1<=k/\k<=11)/\ab f≠0/\¬(k=6/\f≠0))/\bD a=true/\bD b=true/\(0<=c/\c<=400)/\(ek k=true\/b.length=0)/\(k=11\/c=0):=by
 unfold aF
 simp only[Bool.and_eq_true,Bool.or_eq_true,decide_eq_true_eq]
 constructor
 ·rintro⟨⟨⟨⟨⟨⟨⟨h1,h2⟩,h3⟩,h4⟩,h5⟩,h6⟩,h7⟩,h8⟩;exact⟨⟨h1,h2,h3⟩,h4,h5,h6,h7,h8⟩
 ·rintro⟨⟨h1,h2,h3⟩,h4,h5,h6,h7,h8⟩;exact⟨⟨⟨⟨⟨⟨⟨h1,h2⟩,h3⟩,h4⟩,h5⟩,h6⟩,h7⟩,h8⟩
theorem lz{k f:Int}{a b:List Int}{c:Int}(h:¬(((1<=k/\k<=11)/\ab f≠0/\¬(k=6/\f≠0))/\bD a=true/\bD b=true/\(0<=c/\c<=400)/\(ek k=true\/b.length=0)/\(k=11\/c=0))):false=aF (k,f,a,b,c):=by
 cases e:aF (k,f,a,b,c)
 ·rfl
 ·exact absurd (uJ.1 e) h
theorem OZ{k f:Int}{a b:List Int}{c:Int}{Q:Prop}[Decidable Q](h:Q↔(((1<=k/\k<=11)/\ab f≠0/\¬(k=6/\f≠0))/\bD a=true/\bD b=true/\(0<=c/\c<=400)/\(ek k=true\/b.length=0)/\(k=11\/c=0))):decide Q=aF (k,f,a,b,c):=by
 cases e:aF (k,f,a,b,c)
 ·rw[decide_eq_false_iff_not];intro hQ;rw[uJ.2 (h.1 hQ)] at e;cases e
 ·rw[decide_eq_true_eq];exact h.2 (uJ.1 e)
theorem MX{k f:Int}{a b:List Int}{c:Int}(h:((1<=k/\k<=11)/\ab f≠0/\¬(k=6/\f≠0))/\bD a=true/\bD b=true/\(0<=c/\c<=400)/\(ek k=true\/b.length=0)/\(k=11\/c=0)):true=aF (k,f,a,b,c):=(uJ.2 h).symm
theorem rk{f:Int}:(al f).2=true↔ab f≠0:=by
 rw[et]
 refine⟨fun h=>?_,fun h=>(bu h).2⟩
 have:=gL h
 omega
theorem FI :
 ∀(d:Int),Ty.wf ah d->True->True/\sF [(3:Int),(4:Int),(5:Int),(6:Int),(8:Int),(9:Int),(10:Int),(11:Int)] d=ek d:=by
  intro d hw hp
  simp only[exists_const,forall_const,decide_eq_true_eq,decide_eq_false_iff_not,beq_iff_eq,sxS]
  unfold ek
  unfold sF
  rw[decide_eq_decide]
  simp only[List.mem_cons,List.not_mem_nil,or_false]
theorem Mi :
 ∀(d:Int),Ty.wf ah d->True->((!decide (d=(1:Int)))=true->((!decide (d=(2:Int)))=true->(!decide (d=(7:Int)))=jj d)/\((!decide (d=(2:Int)))=false->false=jj d))/\((!decide (d=(1:Int)))=false->false=jj d):=by
  intro d hw hp
  simp only[exists_const,forall_const,decide_eq_true_eq,decide_eq_false_iff_not,beq_iff_eq,sxS]
  unfold jj
  refine⟨fun h1=>⟨fun h2=>?_,fun h2=>?_⟩,fun h1=>?_⟩
  ·by_cases h:d=7<;>simp[h,h1,h2]
  ·simp[h2]
  ·simp[h1]
theorem Me :
 ∀(d:Int×Int×List Int×List Int×Int),Ty.wf nS d->True->True/\(Ty.wf bm (al d.2.1).1/\Ty.wf Ty.bool (al d.2.1).2->((!(al d.2.1).2)=true->false=aF d)/\((!(al d.2.1).2)=false->(decide (d.1<(1:Int))=true->false=aF d)/\(decide (d.1<(1:Int))=false->(decide ((11:Int)<d.1)=true->false=aF d)/\(decide ((11:Int)<d.1)=false->(decide (d.1=(6:Int))=true->((!decide (d.2.1=(0:Int)))=true->false=aF d)/\((!decide (d.2.1=(0:Int)))=false->True/\((!bD d.2.2.1)=true->false=aF d)/\((!bD d.2.2.1)=false->True/\((!bD d.2.2.2.1)=true->false=aF d)/\((!bD d.2.2.2.1)=false->(decide (d.2.2.2.2<(0:Int))=true->false=aF d)/\(decide (d.2.2.2.2<(0:Int))=false->(decide ((400:Int)<d.2.2.2.2)=true->false=aF d)/\(decide ((400:Int)<d.2.2.2.2)=false->True/\(jj d.1=true->(decide (d.1=(11:Int))=true->true=aF d)/\(decide (d.1=(11:Int))=false->decide (d.2.2.2.2=(0:Int))=aF d))/\(jj d.1=false->(decide ((d.2.2.2.1.length:Int)=(0:Int))=true->(decide (d.1=(11:Int))=true->true=aF d)/\(decide (d.1=(11:Int))=false->decide (d.2.2.2.2=(0:Int))=aF d))/\(decide ((d.2.2.2.1.length:Int)=(0:Int))=false->false=aF d))))))))/\(decide (d.1=(6:Int))=false->True/\((!bD d.2.2.1)=true->false=aF d)/\((!bD d.2.2.1)=false->True/\((!bD d.2.2.2.1)=true->false=aF d)/\((!bD d.2.2.2.1)=false->(decide (d.2.2.2.2<(0:Int))=true->false=aF d)/\(decide (d.2.2.2.2<(0:Int))=false->(decide ((400:Int)<d.2.2.2.2)=true->false=aF d)/\(decide ((400:Int)<d.2.2.2.2)=false->True/\(jj d.1=true->(decide (d.1=(11:Int))=true->true=aF d)/\(decide (d.1=(11:Int))=false->decide (d.2.2.2.2=(0:Int))=aF d))/\(jj d.1=false->(decide ((d.2.2.2.1.length:Int)=(0:Int))=true->(decide (d.1=(11:Int))=true->true=aF d)/\(decide (d.1=(11:Int))=false->decide (d.2.2.2.2=(0:Int))=aF d))/\(decide ((d.2.2.2.1.length:Int)=(0:Int))=false->false=aF d))))))))))):=by
  intro d hw hp
  obtain⟨k,f,a,b,c⟩:=d
  simp only[exists_const,forall_const,decide_eq_true_eq,decide_eq_false_iff_not,beq_iff_eq,sxS]
  intro _
  have e:¬(al f).2=true↔ab f=0:=by rw[rk];exact Classical.not_not
  refine⟨fun h=>lz (fun hh=>hh.1.2.1 (e.1 (by rw[h];decide))),fun h=>?_⟩
  have hm:=rk.1 h
  refine⟨fun h=>lz (by omega),fun h1=>⟨fun h=>lz (by omega),fun h2=>?_⟩⟩
  have hu:=Md (k:=k) (by omega) (by omega)
  rw[hu]
  have T:(¬(k=6/\f≠0))->(bD a=false->false=aF (k,f,a,b,c)) ∧
             (bD a=true →
               (bD b=false->false=aF (k,f,a,b,c)) ∧
                 (bD b=true →
                   (c<0->false=aF (k,f,a,b,c)) ∧
                     (¬c<0 →
                       (400<c->false=aF (k,f,a,b,c)) ∧
                         (¬400<c →
                           (ek k=true →
                             (k=11->true=aF (k,f,a,b,c)) ∧
                               (¬k=11->decide (c=0)=aF (k,f,a,b,c))) ∧
                             (ek k=false →
                               ((b.length:Int)=0 →
                                  (k=11->true=aF (k,f,a,b,c)) ∧
                                    (¬k=11->decide (c=0)=aF (k,f,a,b,c))) ∧
                                 (¬(b.length:Int)=0->false=aF (k,f,a,b,c))))))):=by
   intro h6
   refine⟨fun h=>lz (by simp[h]),fun ha=>⟨fun h=>lz (by simp[h]),fun hb=>⟨fun h=>lz (by omega),fun h3=>⟨fun h=>lz (by omega),fun h4=>?_⟩⟩⟩⟩
   have go:ek k=true\/b.length=0->(k=11->true=aF (k,f,a,b,c))/\(¬k=11->decide (c=0)=aF (k,f,a,b,c)):=fun hx =>
    ⟨fun h=>MX ⟨⟨⟨by omega,by omega⟩,hm,h6⟩,ha,hb,⟨by omega,by omega⟩,hx,Or.inl h⟩,
     fun h=>OZ ⟨fun hc=>⟨⟨⟨by omega,by omega⟩,hm,h6⟩,ha,hb,⟨by omega,by omega⟩,hx,Or.inr hc⟩,fun hh=>by rcases hh.2.2.2.2.2 with h7|h7;exact absurd h7 h;exact h7⟩⟩
   refine⟨fun h=>go (Or.inl h),fun h=>⟨fun h5=>go (Or.inr (by omega)),fun h5=>lz (fun hh=>?_)⟩⟩
   rcases hh.2.2.2.2.1 with h7|h7
   ·rw[h] at h7;cases h7
   ·omega
  exact⟨fun h=>⟨fun h0=>lz (fun hh=>hh.1.2.2 ⟨h,h0⟩),fun h0=>T (fun hh=>hh.2 h0)⟩,fun h=>T (fun hh=>h hh.1)⟩
set_option maxRecDepth 10000
theorem Db{a b:List Int}{x:Nat}(hb:max a.length b.length<=4096)(hn:¬(x<a.length/\x<b.length/\a.getD x 0=b.getD x 0))(aK:x<max a.length b.length):∃ x',x'<=max a.length b.length/\max a.length b.length-x'<max a.length b.length-x/\i64.wrap (((cC a b x:Nat):Int)+1)=((cC a b x':Nat):Int)/\i64.wrap ((x:Int)+1)=(x':Int):=by
 have hd:=ym a b x
 exact⟨x+1,by omega,by omega,by rw[w_ hn];exact aC (by omega),aC (by omega)⟩
theorem G5 :
 ∀(d:Int×List Int×Int),Ty.wf ah d.1/\Ty.wf ai d.2.1/\Ty.wf ah d.2.2->True->(decide ((d.2.1.length:Int)<=(10:Int))=true->True/\(bn d.1 d.2.1=true->True/\(decide ((1:Int)<=d.2.2)&&decide (d.2.2<=(d.2.1.length:Int)))=dG d.1 d.2.1 d.2.2)/\(bn d.1 d.2.1=false->false=dG d.1 d.2.1 d.2.2))/\(decide ((d.2.1.length:Int)<=(10:Int))=false->false=dG d.1 d.2.1 d.2.2):=by
  intro (d:Int×List Int×Int) hw hp
  obtain⟨f,xs,k⟩:=d
  simp only[exists_const,forall_const,decide_eq_true_eq,decide_eq_false_iff_not,beq_iff_eq,sxS]
  unfold dG
  refine⟨fun h=>⟨fun h1=>?_,fun h1=>?_⟩,fun h=>?_⟩
  ·rw[decide_eq_true (show xs.length<=10 by omega),h1,Bool.true_and,Bool.true_and,Bool.decide_and]
  ·rw[h1,Bool.and_false];rfl
  ·rw[decide_eq_false (show ¬xs.length<=10 by omega)];rfl
theorem Cd :
 ∀(d:Int×List Int×Int),Ty.wf ah d.1/\Ty.wf ai d.2.1/\Ty.wf ah d.2.2->True->True/\(Ty.wf bm (fj d.1 d.2.1).1/\Ty.wf Ty.bool (fj d.1 d.2.1).2->((!(fj d.1 d.2.1).2)=true->(((0:Int),(0:Int),(0:Int)),false)=ba d.1 d.2.1 d.2.2)/\((!(fj d.1 d.2.1).2)=false->(decide ((10:Int)<(d.2.1.length:Int))=true->(((0:Int),(0:Int),(0:Int)),false)=ba d.1 d.2.1 d.2.2)/\(decide ((10:Int)<(d.2.1.length:Int))=false->(decide (d.2.2<(1:Int))=true->(((0:Int),(0:Int),(0:Int)),false)=ba d.1 d.2.1 d.2.2)/\(decide (d.2.2<(1:Int))=false->(decide ((d.2.1.length:Int)<d.2.2)=true->(((0:Int),(0:Int),(0:Int)),false)=ba d.1 d.2.1 d.2.2)/\(decide ((d.2.1.length:Int)<d.2.2)=false->((Prod.fst (fj d.1 d.2.1).1,(fj d.1 d.2.1).1.2.1,(fj d.1 d.2.1).1.2.2),true)=ba d.1 d.2.1 d.2.2))))):=by
  intro (d:Int×List Int×Int) hw hp
  obtain⟨f,xs,k⟩:=d
  simp only[exists_const,forall_const,decide_eq_true_eq,decide_eq_false_iff_not,beq_iff_eq,sxS]
  intro _
  have no:(dG f xs k=true->False)->((0,0,0),false)=ba f xs k:=fun h=>by
   unfold ba
   cases hc:dG f xs k with
   | false=>rfl
   | true=>exact (h hc).elim
  rw[LC]
  refine⟨fun h=>no (fun hc=>?_),fun h=>⟨fun h1=>no (fun hc=>?_),fun h1=>⟨fun h2=>no (fun hc=>?_),fun h2=>⟨fun h3=>no (fun hc=>?_),fun h3=>?_⟩⟩⟩⟩
  ·rw[(ma hc).1] at h;cases h
  ·have:=(ma hc).2.1;omega
  ·have:=(ma hc).2.2.1;omega
  ·have:=(ma hc).2.2.2;omega
  ·unfold ba
   rw[if_pos (OF h (by omega) (by omega) (by omega)),y6 h]
theorem AB :
 ∀(d:Int×List Int×List Int),Ty.wf ah d.1/\Ty.wf ai d.2.1/\Ty.wf ai d.2.2->True->True/\((!dG d.1 d.2.1 (d.2.2.length:Int))=true->[]=ki d.1 d.2.1 d.2.2)/\((!dG d.1 d.2.1 (d.2.2.length:Int))=false->True/\((!aw d.1 d.2.2)=true->[]=ki d.1 d.2.1 d.2.2)/\((!aw d.1 d.2.2)=false->(0:Nat)<=d.2.1.length/\((d.1=d.1/\ae d.2.1/\ae d.2.2/\aQ/\(0:Int)=(↑(0:Nat):Int))/\[]=dC (ab d.1) (bz d.2.2) d.2.1 (0:Nat))/\∀(x:Nat),x<=d.2.1.length->(decide ((x:Int)<(d.2.1.length:Int))=true->d.2.2.length<=(1048576:Nat)/\((0:Int)<=(x:Int)/\(x:Int)<(d.2.1.length:Int))/\True/\(Ty.wf ah (pP d.1 (bz d.2.2) (d.2.1.getD ((x:Int).toNat) (0:Int)))->Ty.wf ai (bz d.2.2)->(List.length (dC (ab d.1) (bz d.2.2) d.2.1 x)+List.length [pP d.1 (bz d.2.2) (d.2.1.getD ((x:Int).toNat) (0:Int))])*(8:Nat)<=(140737488355328:Nat)/\∃(x':Nat),x'<=d.2.1.length/\d.2.1.length-x'<d.2.1.length-x/\(d.1=d.1/\ae d.2.1/\ae d.2.2/\aQ/\i64.wrap ((x:Int)+(1:Int))=(x':Int))/\dC (ab d.1) (bz d.2.2) d.2.1 x++[pP d.1 (bz d.2.2) (d.2.1.getD ((x:Int).toNat) (0:Int))]=dC (ab d.1) (bz d.2.2) d.2.1 x'))/\(decide ((x:Int)<(d.2.1.length:Int))=false->dC (ab d.1) (bz d.2.2) d.2.1 x=ki d.1 d.2.1 d.2.2))):=by
  intro (d:Int×List Int×List Int) hw hp
  obtain⟨f,xs,m⟩:=d
  simp only[exists_const,forall_const,decide_eq_true_eq,decide_eq_false_iff_not,beq_iff_eq,sxS]
  refine⟨fun h=>by unfold ki;rw[h];rfl,fun h=>⟨fun h1=>by unfold ki;rw[h1,Bool.and_false];rfl,fun h1=>?_⟩⟩
  obtain⟨lS,hl,NV,DA⟩:=ma h
  obtain⟨hm,he⟩:=fF h1
  have Rz:aL f (bz m)=true:=iw hm (th he) (by rw[mF];have:=vw m;omega) (pJ m)
  refine⟨by omega,⟨rfl,rfl⟩,fun x hx=>⟨fun h2=>⟨by omega,⟨by omega,by omega⟩,fun _ _=>?_⟩,fun h2=>?_⟩⟩
  ·rw[kz]
   refine⟨by simp only[List.length_cons,List.length_nil];omega,x+1,by omega,by omega,aC (by omega),?_⟩
   unfold pP
   rw[if_pos Rz]
   exact xk _ _ _ _
  ·rw[show x=xs.length by omega]
   unfold ki
   rw[h,h1];rfl
theorem JQ :
 ∀(d:List Int×List Int),Ty.wf ai d.1/\Ty.wf ai d.2->True->(decide ((4096:Int)<(d.1.length:Int))=true->(-1:Int)=mb d.1 d.2)/\(decide ((4096:Int)<(d.1.length:Int))=false->(decide ((4096:Int)<(d.2.length:Int))=true->(-1:Int)=mb d.1 d.2)/\(decide ((4096:Int)<(d.2.length:Int))=false->(0:Nat)<=max d.1.length d.2.length/\(d.1=d.1/\d.2=d.2/\ae (0:Int)/\(0:Int)=(↑(cC d.1 d.2 (0:Nat)):Int)/\(0:Int)=(↑(0:Nat):Int))/\∀(x:Nat),x<=max d.1.length d.2.length->(decide ((x:Int)<(d.1.length:Int))=true->(decide ((d.1.length:Int)<=(x:Int))=true->∃(x':Nat),x'<=max d.1.length d.2.length/\max d.1.length d.2.length-x'<max d.1.length d.2.length-x/\d.1=d.1/\d.2=d.2/\ae (0:Int)/\i64.wrap ((cC d.1 d.2 x:Int)+(1:Int))=(cC d.1 d.2 x':Int)/\i64.wrap ((x:Int)+(1:Int))=(x':Int))/\(decide ((d.1.length:Int)<=(x:Int))=false->(decide ((d.2.length:Int)<=(x:Int))=true->∃(x':Nat),x'<=max d.1.length d.2.length/\max d.1.length d.2.length-x'<max d.1.length d.2.length-x/\d.1=d.1/\d.2=d.2/\ae (0:Int)/\i64.wrap ((cC d.1 d.2 x:Int)+(1:Int))=(cC d.1 d.2 x':Int)/\i64.wrap ((x:Int)+(1:Int))=(x':Int))/\(decide ((d.2.length:Int)<=(x:Int))=false->((0:Int)<=(x:Int)/\(x:Int)<(d.1.length:Int))/\((0:Int)<=(x:Int)/\(x:Int)<(d.2.length:Int))/\((!decide (d.1.getD ((x:Int).toNat) (0:Int)=d.2.getD ((x:Int).toNat) (0:Int)))=true->∃(x':Nat),x'<=max d.1.length d.2.length/\max d.1.length d.2.length-x'<max d.1.length d.2.length-x/\d.1=d.1/\d.2=d.2/\ae (0:Int)/\i64.wrap ((cC d.1 d.2 x:Int)+(1:Int))=(cC d.1 d.2 x':Int)/\i64.wrap ((x:Int)+(1:Int))=(x':Int))/\((!decide (d.1.getD ((x:Int).toNat) (0:Int)=d.2.getD ((x:Int).toNat) (0:Int)))=false->∃(x':Nat),x'<=max d.1.length d.2.length/\max d.1.length d.2.length-x'<max d.1.length d.2.length-x/\d.1=d.1/\d.2=d.2/\ae (0:Int)/\(cC d.1 d.2 x:Int)=(cC d.1 d.2 x':Int)/\i64.wrap ((x:Int)+(1:Int))=(x':Int)))))/\(decide ((x:Int)<(d.1.length:Int))=false->(decide ((x:Int)<(d.2.length:Int))=true->(decide ((d.1.length:Int)<=(x:Int))=true->∃(x':Nat),x'<=max d.1.length d.2.length/\max d.1.length d.2.length-x'<max d.1.length d.2.length-x/\d.1=d.1/\d.2=d.2/\ae (0:Int)/\i64.wrap ((cC d.1 d.2 x:Int)+(1:Int))=(cC d.1 d.2 x':Int)/\i64.wrap ((x:Int)+(1:Int))=(x':Int))/\(decide ((d.1.length:Int)<=(x:Int))=false->(decide ((d.2.length:Int)<=(x:Int))=true->∃(x':Nat),x'<=max d.1.length d.2.length/\max d.1.length d.2.length-x'<max d.1.length d.2.length-x/\d.1=d.1/\d.2=d.2/\ae (0:Int)/\i64.wrap ((cC d.1 d.2 x:Int)+(1:Int))=(cC d.1 d.2 x':Int)/\i64.wrap ((x:Int)+(1:Int))=(x':Int))/\(decide ((d.2.length:Int)<=(x:Int))=false->((0:Int)<=(x:Int)/\(x:Int)<(d.1.length:Int))/\((0:Int)<=(x:Int)/\(x:Int)<(d.2.length:Int))/\((!decide (d.1.getD ((x:Int).toNat) (0:Int)=d.2.getD ((x:Int).toNat) (0:Int)))=true->∃(x':Nat),x'<=max d.1.length d.2.length/\max d.1.length d.2.length-x'<max d.1.length d.2.length-x/\d.1=d.1/\d.2=d.2/\ae (0:Int)/\i64.wrap ((cC d.1 d.2 x:Int)+(1:Int))=(cC d.1 d.2 x':Int)/\i64.wrap ((x:Int)+(1:Int))=(x':Int))/\((!decide (d.1.getD ((x:Int).toNat) (0:Int)=d.2.getD ((x:Int).toNat) (0:Int)))=false->∃(x':Nat),x'<=max d.1.length d.2.length/\max d.1.length d.2.length-x'<max d.1.length d.2.length-x/\d.1=d.1/\d.2=d.2/\ae (0:Int)/\(cC d.1 d.2 x:Int)=(cC d.1 d.2 x':Int)/\i64.wrap ((x:Int)+(1:Int))=(x':Int)))))/\(decide ((x:Int)<(d.2.length:Int))=false->(cC d.1 d.2 x:Int)=mb d.1 d.2)))):=by
  intro (d:List Int×List Int) hw hp
  obtain⟨a,b⟩:=d
  simp only[exists_const,forall_const,decide_eq_true_eq,decide_eq_false_iff_not,beq_iff_eq,sxS]
  refine⟨fun h=>by unfold mb;rw[if_pos (by omega)],fun h=>⟨fun h1=>by unfold mb;rw[if_pos (by omega)],fun h1=>⟨by omega,⟨rfl,rfl⟩,fun x hx=>?_⟩⟩⟩
  have hd:=ym a b x
  refine⟨fun h2=>⟨fun h3=>absurd h3 (by omega),fun h3=>⟨fun h4=>Db (by omega) (fun hh=>absurd hh.2.1 (by omega)) (by omega),fun h4=>⟨⟨by omega,by omega⟩,⟨by omega,by omega⟩,fun h5=>Db (by omega) (fun hh=>h5 hh.2.2) (by omega),fun h5=>⟨x+1,by omega,by omega,by rw[Dc ⟨by omega,by omega,h5⟩],aC (by omega)⟩⟩⟩⟩,fun h2=>⟨fun h3=>⟨fun h4=>Db (by omega) (fun hh=>absurd hh.1 (by omega)) (by omega),fun h4=>absurd h2 (by omega)⟩,fun h3=>?_⟩⟩
  rw[yl (by omega) (by omega),show x=max a.length b.length by omega];rfl
theorem JH :
 ∀(d:List Int×List Int),Ty.wf ai d.1/\Ty.wf ai d.2->d.1.length<=(1048576:Nat)/\d.2.length<=(1048576:Nat)->(0:Nat)<=min d.1.length d.2.length/\(d.1=d.1/\d.2=d.2/\ae (0:Int)/\i64.wrap (imax (d.1.length:Int) (d.2.length:Int)-ly (d.1.length:Int) (d.2.length:Int))=(↑(max d.1.length d.2.length-min d.1.length d.2.length+cC d.1 d.2 (0:Nat)):Int)/\ae (ly (d.1.length:Int) (d.2.length:Int))/\(0:Int)=(↑(0:Nat):Int))/\∀(x:Nat),x<=min d.1.length d.2.length->(decide ((x:Int)<ly (d.1.length:Int) (d.2.length:Int))=true->((0:Int)<=(x:Int)/\(x:Int)<(d.1.length:Int))/\((0:Int)<=(x:Int)/\(x:Int)<(d.2.length:Int))/\((!decide (d.1.getD ((x:Int).toNat) (0:Int)=d.2.getD ((x:Int).toNat) (0:Int)))=true->∃(x':Nat),x'<=min d.1.length d.2.length/\min d.1.length d.2.length-x'<min d.1.length d.2.length-x/\d.1=d.1/\d.2=d.2/\ae (0:Int)/\i64.wrap ((↑(max d.1.length d.2.length-min d.1.length d.2.length+cC d.1 d.2 x):Int)+(1:Int))=(↑(max d.1.length d.2.length-min d.1.length d.2.length+cC d.1 d.2 x'):Int)/\ae (ly (d.1.length:Int) (d.2.length:Int))/\i64.wrap ((x:Int)+(1:Int))=(x':Int))/\((!decide (d.1.getD ((x:Int).toNat) (0:Int)=d.2.getD ((x:Int).toNat) (0:Int)))=false->∃(x':Nat),x'<=min d.1.length d.2.length/\min d.1.length d.2.length-x'<min d.1.length d.2.length-x/\d.1=d.1/\d.2=d.2/\ae (0:Int)/\(↑(max d.1.length d.2.length-min d.1.length d.2.length+cC d.1 d.2 x):Int)=(↑(max d.1.length d.2.length-min d.1.length d.2.length+cC d.1 d.2 x'):Int)/\ae (ly (d.1.length:Int) (d.2.length:Int))/\i64.wrap ((x:Int)+(1:Int))=(x':Int)))/\(decide ((x:Int)<ly (d.1.length:Int) (d.2.length:Int))=false->(↑(max d.1.length d.2.length-min d.1.length d.2.length+cC d.1 d.2 x):Int)=kU d.1 d.2):=by
  intro (d:List Int×List Int) hw hp
  obtain⟨a,b⟩:=d
  replace hp:a.length<=1048576/\b.length<=1048576:=hp
  simp only[exists_const,forall_const,decide_eq_true_eq,decide_eq_false_iff_not,beq_iff_eq,sxS]
  obtain⟨ha,hb⟩:=hp
  have Qm:imax (a.length:Int) (b.length:Int)=((max a.length b.length:Nat):Int):=by unfold imax;split<;>omega
  have TO:ly (a.length:Int) (b.length:Int)=((min a.length b.length:Nat):Int):=by unfold ly;split<;>omega
  rw[Qm,TO]
  refine⟨by omega,⟨?_,rfl⟩,fun x hx=>?_⟩
  ·rw[wrap_small (by omega),show cC a b 0=0 from rfl];omega
  have hd:=ym a b x
  refine⟨fun h=>⟨⟨by omega,by omega⟩,⟨by omega,by omega⟩,fun h1=>⟨x+1,by omega,by omega,?_,aC (by omega)⟩,fun h1=>⟨x+1,by omega,by omega,by rw[Dc ⟨by omega,by omega,h1⟩],aC (by omega)⟩⟩,fun h=>?_⟩
  ·rw[w_ (fun hh=>h1 hh.2.2)];exact aC (by omega)
  ·obtain rfl:x=min a.length b.length:=by omega
   have:=Dd (a:=a) (b:=b) rfl (max a.length b.length-min a.length b.length)
   unfold kU
   rw[show max a.length b.length=min a.length b.length+(max a.length b.length-min a.length b.length) by omega,this]
   congr 2
   omega
theorem Fp :
 ∀(d:(Int×Int×Int)×List Int×List Int),Ty.wf bm d.1/\Ty.wf ai d.2.1/\Ty.wf ai d.2.2->an d.1.1/\ak d.1.1 d.2.1=true/\ak d.1.1 d.2.2=true/\d.2.2.length<=(1000:Nat)->(0:Nat)<=d.2.2.length/\(((ae d.1.1/\ae d.1.2.1/\ae d.1.2.2)/\ae d.2.1/\ae d.2.2/\aQ/\ae d.2.2/\ae (d.2.2.length:Int)/\(0:Int)=(↑(0:Nat):Int))/\(ae d.1.1/\ae d.1.2.1/\ae d.1.2.2)/\[]=dC d.1.1 d.2.1 d.2.2 (0:Nat))/\∀(x:Nat),x<=d.2.2.length->(decide ((x:Int)<(d.2.2.length:Int))=true->((0:Int)<=(x:Int)/\(x:Int)<(d.2.2.length:Int))/\(an d.1.1/\ak d.1.1 d.2.1=true/\El d.1.1 (d.2.2.getD ((x:Int).toNat) (0:Int)))/\(Ty.wf ah (m7 d.1.1 d.2.1 (d.2.2.getD ((x:Int).toNat) (0:Int)))->(List.length (dC d.1.1 d.2.1 d.2.2 x)+List.length [m7 d.1.1 d.2.1 (d.2.2.getD ((x:Int).toNat) (0:Int))])*(8:Nat)<=(140737488355328:Nat)/\∃(x':Nat),x'<=d.2.2.length/\d.2.2.length-x'<d.2.2.length-x/\((ae d.1.1/\ae d.1.2.1/\ae d.1.2.2)/\ae d.2.1/\ae d.2.2/\aQ/\ae d.2.2/\ae (d.2.2.length:Int)/\i64.wrap ((x:Int)+(1:Int))=(x':Int))/\(ae d.1.1/\ae d.1.2.1/\ae d.1.2.2)/\dC d.1.1 d.2.1 d.2.2 x++[m7 d.1.1 d.2.1 (d.2.2.getD ((x:Int).toNat) (0:Int))]=dC d.1.1 d.2.1 d.2.2 x'))/\(decide ((x:Int)<(d.2.2.length:Int))=false->dC d.1.1 d.2.1 d.2.2 x=dC d.1.1 d.2.1 d.2.2 d.2.2.length):=by
  intro (d:Fd×List Int×List Int) hw hp
  obtain⟨⟨p,g,t⟩,a,xs⟩:=d
  replace hp:an p/\ak p a=true/\ak p xs=true/\xs.length<=1000:=hp
  simp only[exists_const,forall_const,decide_eq_true_eq,decide_eq_false_iff_not,beq_iff_eq,sxS]
  obtain⟨h0,h1,h2,h3⟩:=hp
  refine⟨by omega,⟨rfl,rfl⟩,fun x hx=>⟨fun h=>⟨⟨by omega,by omega⟩,⟨h0,h1,dr h0 h2 _⟩,fun _=>⟨by rw[kz];simp only[List.length_cons,List.length_nil];omega,x+1,by omega,by omega,aC (by omega),xk _ _ _ _⟩⟩,fun h=>by rw[show x=xs.length by omega]⟩⟩
theorem AA :
 ∀(d:Int×List Int×List Int×Int),Ty.wf ah d.1/\Ty.wf ai d.2.1/\Ty.wf ai d.2.2.1/\Ty.wf ah d.2.2.2->True->True/\((!dG d.1 d.2.1 d.2.2.2)=true->([],(0:Int),false)=cM d.1 d.2.1 d.2.2.1 d.2.2.2)/\((!dG d.1 d.2.1 d.2.2.2)=false->((!decide ((d.2.2.1.length:Int)=(d.2.1.length:Int)))=true->([],(0:Int),false)=cM d.1 d.2.1 d.2.2.1 d.2.2.2)/\((!decide ((d.2.2.1.length:Int)=(d.2.1.length:Int)))=false->True/\((!aw d.1 d.2.2.1)=true->([],(0:Int),false)=cM d.1 d.2.1 d.2.2.1 d.2.2.2)/\((!aw d.1 d.2.2.1)=false->jK (ab d.1) d.2.1 d.2.2.1 d.2.2.2.toNat (0:Nat)/\(d.1=d.1/\ae d.2.1/\ae d.2.2.1/\ae d.2.2.2/\ae (d.2.1.length:Int)/\(0:Int)=(↑(0:Nat):Int))/\∀(x:Nat),jK (ab d.1) d.2.1 d.2.2.1 d.2.2.2.toNat x->(0:Int)<=IntKind.wrap IntKind.u64 (d.2.1.length:Int)/\(decide ((x:Int)<bb i64 (1:Int) (IntKind.wrap IntKind.u64 (d.2.1.length:Int)))=true->(0:Nat)<=d.2.1.length/\((d.1=d.1/\ae d.2.1/\ae d.2.2.1/\ae d.2.2.2/\ae (d.2.1.length:Int)/\ae (x:Int)/\(0:Int)=(↑(0:Nat):Int))/\[]=aT d.2.1 x (0:Nat)/\[]=aT d.2.2.1 x (0:Nat))/\∀(x_1:Nat),x_1<=d.2.1.length->(decide ((x_1:Int)<(d.2.1.length:Int))=true->(0:Int)<=IntKind.wrap IntKind.u64 (x_1:Int)/\(2:Int)≠(0:Int)/\(decide (Int.tmod (iB i64 (x:Int) (IntKind.wrap IntKind.u64 (x_1:Int))) (2:Int)=(1:Int))=true->((0:Int)<=(x_1:Int)/\(x_1:Int)<(d.2.1.length:Int))/\(List.length (aT d.2.1 x x_1)+List.length [d.2.1.getD ((x_1:Int).toNat) (0:Int)])*(8:Nat)<=(140737488355328:Nat)/\((0:Int)<=(x_1:Int)/\(x_1:Int)<(d.2.2.1.length:Int))/\(List.length (aT d.2.2.1 x x_1)+List.length [d.2.2.1.getD ((x_1:Int).toNat) (0:Int)])*(8:Nat)<=(140737488355328:Nat)/\∃(x':Nat),x'<=d.2.1.length/\d.2.1.length-x'<d.2.1.length-x_1/\(d.1=d.1/\ae d.2.1/\ae d.2.2.1/\ae d.2.2.2/\ae (d.2.1.length:Int)/\ae (x:Int)/\i64.wrap ((x_1:Int)+(1:Int))=(x':Int))/\aT d.2.1 x x_1++[d.2.1.getD ((x_1:Int).toNat) (0:Int)]=aT d.2.1 x x'/\aT d.2.2.1 x x_1++[d.2.2.1.getD ((x_1:Int).toNat) (0:Int)]=aT d.2.2.1 x x')/\(decide (Int.tmod (iB i64 (x:Int) (IntKind.wrap IntKind.u64 (x_1:Int))) (2:Int)=(1:Int))=false->∃(x':Nat),x'<=d.2.1.length/\d.2.1.length-x'<d.2.1.length-x_1/\(d.1=d.1/\ae d.2.1/\ae d.2.2.1/\ae d.2.2.2/\ae (d.2.1.length:Int)/\ae (x:Int)/\i64.wrap ((x_1:Int)+(1:Int))=(x':Int))/\aT d.2.1 x x_1=aT d.2.1 x x'/\aT d.2.2.1 x x_1=aT d.2.2.1 x x'))/\(decide ((x_1:Int)<(d.2.1.length:Int))=false->((!decide ((↑(List.length (aT d.2.1 x x_1)):Int)=d.2.2.2))=true->∃(x':Nat),jK (ab d.1) d.2.1 d.2.2.1 d.2.2.2.toNat x'/\(2:Nat)^d.2.1.length-x'<(2:Nat)^d.2.1.length-x/\d.1=d.1/\ae d.2.1/\ae d.2.2.1/\ae d.2.2.2/\ae (d.2.1.length:Int)/\i64.wrap ((x:Int)+(1:Int))=(x':Int))/\((!decide ((↑(List.length (aT d.2.1 x x_1)):Int)=d.2.2.2))=false->(bn d.1 (aT d.2.1 x x_1)=true/\List.length (aT d.2.2.1 x x_1)=List.length (aT d.2.1 x x_1))/\(Ty.wf ai (eu (ab d.1) (aT d.2.1 x x_1) (aT d.2.2.1 x x_1))->List.length (cD (ab d.1) d.2.1 d.2.2.1 x)+(0:Nat)<=d.2.2.2.toNat/\((d.1=d.1/\ae d.2.1/\ae d.2.2.1/\ae d.2.2.2/\ae (d.2.1.length:Int)/\ae (x:Int)/\ae (x_1:Int))/\ae (aT d.2.1 x x_1)/\ae (aT d.2.2.1 x x_1)/\eu (ab d.1) (aT d.2.1 x x_1) (aT d.2.2.1 x x_1)=cD (ab d.1) d.2.1 d.2.2.1 x++List.replicate (0:Nat) (0:Int))/\∀(x_2:Nat),List.length (cD (ab d.1) d.2.1 d.2.2.1 x)+x_2<=d.2.2.2.toNat->(decide ((↑(List.length (cD (ab d.1) d.2.1 d.2.2.1 x++List.replicate x_2 (0:Int))):Int)<d.2.2.2)=true->(List.length (cD (ab d.1) d.2.1 d.2.2.1 x++List.replicate x_2 (0:Int))+List.length [(0:Int)])*(8:Nat)<=(140737488355328:Nat)/\∃(x':Nat),List.length (cD (ab d.1) d.2.1 d.2.2.1 x)+x'<=d.2.2.2.toNat/\d.2.2.2.toNat-x'<d.2.2.2.toNat-x_2/\(d.1=d.1/\ae d.2.1/\ae d.2.2.1/\ae d.2.2.2/\ae (d.2.1.length:Int)/\ae (x:Int)/\ae (x_1:Int))/\ae (aT d.2.1 x x_1)/\ae (aT d.2.2.1 x x_1)/\cD (ab d.1) d.2.1 d.2.2.1 x++List.replicate x_2 (0:Int)++[(0:Int)]=cD (ab d.1) d.2.1 d.2.2.1 x++List.replicate x' (0:Int))/\(decide ((↑(List.length (cD (ab d.1) d.2.1 d.2.2.1 x++List.replicate x_2 (0:Int))):Int)<d.2.2.2)=false->True/\(Ty.wf ai (ki d.1 d.2.1 (cD (ab d.1) d.2.1 d.2.2.1 x++List.replicate x_2 (0:Int)))->True/\(Ty.wf ah (mb (ki d.1 d.2.1 (cD (ab d.1) d.2.1 d.2.2.1 x++List.replicate x_2 (0:Int))) d.2.2.1)->(2:Int)≠(0:Int)/\(decide (mb (ki d.1 d.2.1 (cD (ab d.1) d.2.1 d.2.2.1 x++List.replicate x_2 (0:Int))) d.2.2.1<=i64.wrap (Int.tdiv (i64.wrap ((d.2.1.length:Int)-d.2.2.2)) (2:Int)))=true->(cD (ab d.1) d.2.1 d.2.2.1 x++List.replicate x_2 (0:Int),mb (ki d.1 d.2.1 (cD (ab d.1) d.2.1 d.2.2.1 x++List.replicate x_2 (0:Int))) d.2.2.1,true)=cM d.1 d.2.1 d.2.2.1 d.2.2.2)/\(decide (mb (ki d.1 d.2.1 (cD (ab d.1) d.2.1 d.2.2.1 x++List.replicate x_2 (0:Int))) d.2.2.1<=i64.wrap (Int.tdiv (i64.wrap ((d.2.1.length:Int)-d.2.2.2)) (2:Int)))=false->∃(x':Nat),jK (ab d.1) d.2.1 d.2.2.1 d.2.2.2.toNat x'/\(2:Nat)^d.2.1.length-x'<(2:Nat)^d.2.1.length-x/\d.1=d.1/\ae d.2.1/\ae d.2.2.1/\ae d.2.2.2/\ae (d.2.1.length:Int)/\i64.wrap ((x:Int)+(1:Int))=(x':Int)))))))))/\(decide ((x:Int)<bb i64 (1:Int) (IntKind.wrap IntKind.u64 (d.2.1.length:Int)))=false->([],(0:Int),false)=cM d.1 d.2.1 d.2.2.1 d.2.2.2)))):=by
  intro (d:Int×List Int×List Int×Int) hw hp
  obtain⟨f,xs,ys,k⟩:=d
  simp only[exists_const,forall_const,decide_eq_true_eq,decide_eq_false_iff_not,beq_iff_eq,sxS]
  refine⟨fun h=>ra (by rw[h];rfl),fun h=>⟨fun h1=>ra (by rw[decide_eq_false (show ¬ys.length=xs.length by omega),Bool.and_false];rfl),fun h1=>⟨fun h2=>ra (by rw[h2,Bool.and_false]),fun h2=>⟨⟨Nat.zero_le _,fun t ht=>absurd ht (by omega)⟩,rfl,fun x hx=>?_⟩⟩⟩⟩
  obtain⟨lS,hl,NV,DA⟩:=ma h
  obtain⟨hm,KN,na,he,hn⟩:=iL lS
  have h0:=(lA hm).mod
  have tO:ys.length=xs.length:=by omega
  obtain⟨kk,rfl⟩:=Int.eq_ofNat_of_zero_le (show 0<=k by omega)
  simp only[Int.toNat_natCast] at hx ⊢
  have ie:=Em hl
  rw[Mb hl,HZ hl]
  refine⟨by omega,fun h3=>⟨by omega,⟨rfl,rfl,rfl⟩,fun y hy=>⟨fun h4=>?_,fun h4=>?_⟩⟩,fun h3=>Hj h tO h2 hx (by omega)⟩
  ·have QC:=(sub_sub (xs:=xs) x y (by omega)).length_le
   have S6:=oO ys xs x y
   rw[List.length_take] at QC
   rw[Mb (show y<=10 by omega),xx x y (by omega),Nn]
   refine⟨by omega,by decide,fun h5=>⟨⟨by omega,by omega⟩,by simp only[List.length_cons,List.length_nil];omega,⟨by omega,by omega⟩,by simp only[List.length_cons,List.length_nil];omega,y+1,by omega,by omega,aC (by omega),td (by omega),td (by omega)⟩,fun h5=>⟨y+1,by omega,by omega,aC (by omega),tc (by omega),tc (by omega)⟩⟩
  ·obtain rfl:y=xs.length:=by omega
   have Lw:kl (ab f) xs ys kk x=false->∃ x',jK (ab f) xs ys kk x'/\2^xs.length-x'<2^xs.length-x/\i64.wrap ((x:Int)+1)=(x':Int) :=
    fun hh=>⟨x+1,E7 hx (by omega) hh,by omega,aC (by omega)⟩
   refine⟨fun h5=>Lw (by unfold kl;rw[decide_eq_false (by omega)];rfl),fun h5=>⟨⟨L3 lS (by omega),oO _ _ _ _⟩,fun _=>?_⟩⟩
   obtain⟨p6,NY⟩:=Ls lS tO x
   refine⟨by omega,by rw[List.replicate_zero,List.append_nil];rfl,fun z hz=>⟨fun h6=>?_,fun h6 _ _=>⟨by decide,?_⟩⟩⟩
   ·rw[List.length_append,List.length_replicate] at h6 ⊢
    refine⟨by simp only[List.length_cons,List.length_nil];omega,z+1,by omega,by omega,?_⟩
    rw[List.append_assoc,List.replicate_succ']
   ·rw[List.length_append,List.length_replicate] at h6
    have QN:z=kk-(cD (ab f) xs ys x).length:=by omega
    have HB:(cD (ab f) xs ys x++List.replicate z 0).length=kk:=by rw[List.length_append,List.length_replicate];omega
    have SM:ki f xs (cD (ab f) xs ys x++List.replicate z 0)=dC (ab f) (cD (ab f) xs ys x) xs xs.length:=by
     unfold ki
     rw[HB,h,fb hm (LA h0 p6 z)]
     exact OS h0 (fun t=>by rw[vk,E2]) _ _
    have MK:mb (ki f xs (cD (ab f) xs ys x++List.replicate z 0)) ys=((r_ (ab f) xs ys x:Nat):Int):=by
     rw[SM,yl (by rw[kz];omega) (by omega),Hn (kz _ _ _ _) tO];rfl
    rw[MK,Dv (by omega) hl]
    refine⟨fun h7=>?_,fun h7=>Lw (by unfold kl;rw[decide_eq_false (show ¬r_ (ab f) xs ys x<=(xs.length-kk)/2 by omega),Bool.and_false])⟩
    have hh:kl (ab f) xs ys (kk:Int).toNat x=true:=by
     unfold kl
     rw[Int.toNat_natCast,decide_eq_true (show (aT xs x xs.length).length=kk by omega),decide_eq_true (show r_ (ab f) xs ys x<=(xs.length-kk)/2 by omega)];rfl
    rw[Hk h tO h2 (s:=x) (by rw[Int.toNat_natCast];exact hx) (by omega) hh,Int.toNat_natCast,QN]
    rfl
theorem Av :
 ∀(d:Int×List Int×List Int×Int),Ty.wf ah d.1/\Ty.wf ai d.2.1/\Ty.wf ai d.2.2.1/\Ty.wf ah d.2.2.2->True->True/\(Ty.wf bm (ba d.1 d.2.1 d.2.2.2).1/\Ty.wf Ty.bool (ba d.1 d.2.1 d.2.2.2).2->((!(ba d.1 d.2.1 d.2.2.2).2)=true->([],(0:Int),false)=cM d.1 d.2.1 d.2.2.1 d.2.2.2)/\((!(ba d.1 d.2.1 d.2.2.2).2)=false->((!decide ((d.2.2.1.length:Int)=(d.2.1.length:Int)))=true->([],(0:Int),false)=cM d.1 d.2.1 d.2.2.1 d.2.2.2)/\((!decide ((d.2.2.1.length:Int)=(d.2.1.length:Int)))=false->True/\((!ak (ba d.1 d.2.1 d.2.2.2).1.1 d.2.2.1)=true->([],(0:Int),false)=cM d.1 d.2.1 d.2.2.1 d.2.2.2)/\((!ak (ba d.1 d.2.1 d.2.2.2).1.1 d.2.2.1)=false->(0:Int)<=(d.2.1.length:Int)/\jK (ab d.1) d.2.1 d.2.2.1 d.2.2.2.toNat (0:Nat)/\((d.1=d.1/\ae d.2.1/\ae d.2.2.1/\ae d.2.2.2/\ae ((ba d.1 d.2.1 d.2.2.2).2)/\ae (bb i64 (1:Int) (d.2.1.length:Int))/\(0:Int)=(↑(0:Nat):Int))/\ae ((ba d.1 d.2.1 d.2.2.2).1.1)/\ae ((ba d.1 d.2.1 d.2.2.2).1.2.1)/\ae ((ba d.1 d.2.1 d.2.2.2).1.2.2))/\∀(x:Nat),jK (ab d.1) d.2.1 d.2.2.1 d.2.2.2.toNat x->(decide ((x:Int)<bb i64 (1:Int) (d.2.1.length:Int))=true->(0:Nat)<=d.2.1.length/\((d.1=d.1/\ae d.2.1/\ae d.2.2.1/\ae d.2.2.2/\ae ((ba d.1 d.2.1 d.2.2.2).2)/\ae (x:Int)/\ae (bb i64 (1:Int) (d.2.1.length:Int))/\ae (x:Int)/\ae d.2.1/\ae (d.2.1.length:Int)/\(0:Int)=(↑(0:Nat):Int))/\(Prod.fst (ba d.1 d.2.1 d.2.2.2).1=(ba d.1 d.2.1 d.2.2.2).1.1/\ae ((ba d.1 d.2.1 d.2.2.2).1.2.1)/\ae ((ba d.1 d.2.1 d.2.2.2).1.2.2))/\[]=aT d.2.1 x (0:Nat)/\[]=aT d.2.2.1 x (0:Nat))/\∀(x_1:Nat),x_1<=d.2.1.length->(decide ((x_1:Int)<(d.2.1.length:Int))=true->((0:Int)<=(x_1:Int)/\(x_1:Int)<(d.2.1.length:Int))/\(0:Int)<=(x_1:Int)/\(decide (sM i64 (iB i64 (x:Int) (x_1:Int)) (1:Int)=(1:Int))=true->(List.length (aT d.2.1 x x_1)+List.length [d.2.1.getD ((x_1:Int).toNat) (0:Int)])*(8:Nat)<=(140737488355328:Nat)/\((0:Int)<=(x_1:Int)/\(x_1:Int)<(d.2.2.1.length:Int))/\(List.length (aT d.2.2.1 x x_1)+List.length [d.2.2.1.getD ((x_1:Int).toNat) (0:Int)])*(8:Nat)<=(140737488355328:Nat)/\∃(x':Nat),x'<=d.2.1.length/\d.2.1.length-x'<d.2.1.length-x_1/\(d.1=d.1/\ae d.2.1/\ae d.2.2.1/\ae d.2.2.2/\ae ((ba d.1 d.2.1 d.2.2.2).2)/\ae (x:Int)/\ae (bb i64 (1:Int) (d.2.1.length:Int))/\ae (x:Int)/\ae d.2.1/\ae (d.2.1.length:Int)/\i64.wrap ((x_1:Int)+(1:Int))=(x':Int))/\(Prod.fst (ba d.1 d.2.1 d.2.2.2).1=(ba d.1 d.2.1 d.2.2.2).1.1/\ae ((ba d.1 d.2.1 d.2.2.2).1.2.1)/\ae ((ba d.1 d.2.1 d.2.2.2).1.2.2))/\aT d.2.1 x x_1++[d.2.1.getD ((x_1:Int).toNat) (0:Int)]=aT d.2.1 x x'/\aT d.2.2.1 x x_1++[d.2.2.1.getD ((x_1:Int).toNat) (0:Int)]=aT d.2.2.1 x x')/\(decide (sM i64 (iB i64 (x:Int) (x_1:Int)) (1:Int)=(1:Int))=false->∃(x':Nat),x'<=d.2.1.length/\d.2.1.length-x'<d.2.1.length-x_1/\(d.1=d.1/\ae d.2.1/\ae d.2.2.1/\ae d.2.2.2/\ae ((ba d.1 d.2.1 d.2.2.2).2)/\ae (x:Int)/\ae (bb i64 (1:Int) (d.2.1.length:Int))/\ae (x:Int)/\ae d.2.1/\ae (d.2.1.length:Int)/\i64.wrap ((x_1:Int)+(1:Int))=(x':Int))/\(Prod.fst (ba d.1 d.2.1 d.2.2.2).1=(ba d.1 d.2.1 d.2.2.2).1.1/\ae ((ba d.1 d.2.1 d.2.2.2).1.2.1)/\ae ((ba d.1 d.2.1 d.2.2.2).1.2.2))/\aT d.2.1 x x_1=aT d.2.1 x x'/\aT d.2.2.1 x x_1=aT d.2.2.1 x x'))/\(decide ((x_1:Int)<(d.2.1.length:Int))=false->((!decide ((↑(List.length (aT d.2.1 x x_1)):Int)=d.2.2.2))=true->∃(x':Nat),jK (ab d.1) d.2.1 d.2.2.1 d.2.2.2.toNat x'/\(2:Nat)^d.2.1.length-x'<(2:Nat)^d.2.1.length-x/\(d.1=d.1/\ae d.2.1/\ae d.2.2.1/\ae d.2.2.2/\ae ((ba d.1 d.2.1 d.2.2.2).2)/\ae (bb i64 (1:Int) (d.2.1.length:Int))/\i64.wrap ((x:Int)+(1:Int))=(x':Int))/\ae ((ba d.1 d.2.1 d.2.2.2).1.1)/\ae ((ba d.1 d.2.1 d.2.2.2).1.2.1)/\ae ((ba d.1 d.2.1 d.2.2.2).1.2.2))/\((!decide ((↑(List.length (aT d.2.1 x x_1)):Int)=d.2.2.2))=false->((∃(f:Int),bn f (aT d.2.1 x x_1)=true/\ab f=(ba d.1 d.2.1 d.2.2.2).1.1)/\ak (ba d.1 d.2.1 d.2.2.2).1.1 (aT d.2.2.1 x x_1)=true/\List.length (aT d.2.2.1 x x_1)=List.length (aT d.2.1 x x_1))/\(Ty.wf ai (eu (ba d.1 d.2.1 d.2.2.2).1.1 (aT d.2.1 x x_1) (aT d.2.2.1 x x_1))->(an (ba d.1 d.2.1 d.2.2.2).1.1/\ak (ba d.1 d.2.1 d.2.2.2).1.1 (eu (ba d.1 d.2.1 d.2.2.2).1.1 (aT d.2.1 x x_1) (aT d.2.2.1 x x_1))=true/\ak (ba d.1 d.2.1 d.2.2.2).1.1 d.2.1=true/\d.2.1.length<=(1000:Nat))/\(Ty.wf ai (dC (ba d.1 d.2.1 d.2.2.2).1.1 (eu (ba d.1 d.2.1 d.2.2.2).1.1 (aT d.2.1 x x_1) (aT d.2.2.1 x x_1)) d.2.1 d.2.1.length)->(List.length (dC (ba d.1 d.2.1 d.2.2.2).1.1 (eu (ba d.1 d.2.1 d.2.2.2).1.1 (aT d.2.1 x x_1) (aT d.2.2.1 x x_1)) d.2.1 d.2.1.length)<=(1048576:Nat)/\d.2.2.1.length<=(1048576:Nat))/\(Ty.wf ah (kU (dC (ba d.1 d.2.1 d.2.2.2).1.1 (eu (ba d.1 d.2.1 d.2.2.2).1.1 (aT d.2.1 x x_1) (aT d.2.2.1 x x_1)) d.2.1 d.2.1.length) d.2.2.1)->(2:Int)≠(0:Int)/\(decide (kU (dC (ba d.1 d.2.1 d.2.2.2).1.1 (eu (ba d.1 d.2.1 d.2.2.2).1.1 (aT d.2.1 x x_1) (aT d.2.2.1 x x_1)) d.2.1 d.2.1.length) d.2.2.1<=i64.wrap (Int.tdiv (i64.wrap ((d.2.1.length:Int)-d.2.2.2)) (2:Int)))=true->List.length (cD (ab d.1) d.2.1 d.2.2.1 x)+(0:Nat)<=d.2.2.2.toNat/\((d.1=d.1/\ae d.2.1/\ae d.2.2.1/\ae d.2.2.2/\ae ((ba d.1 d.2.1 d.2.2.2).2)/\ae (x:Int)/\ae (kU (dC (ba d.1 d.2.1 d.2.2.2).1.1 (eu (ba d.1 d.2.1 d.2.2.2).1.1 (aT d.2.1 x x_1) (aT d.2.2.1 x x_1)) d.2.1 d.2.1.length) d.2.2.1)/\ae (bb i64 (1:Int) (d.2.1.length:Int))/\ae (x:Int))/\(Prod.fst (ba d.1 d.2.1 d.2.2.2).1=(ba d.1 d.2.1 d.2.2.2).1.1/\ae ((ba d.1 d.2.1 d.2.2.2).1.2.1)/\ae ((ba d.1 d.2.1 d.2.2.2).1.2.2))/\ae (aT d.2.1 x x_1)/\ae (aT d.2.2.1 x x_1)/\eu (ba d.1 d.2.1 d.2.2.2).1.1 (aT d.2.1 x x_1) (aT d.2.2.1 x x_1)=cD (ab d.1) d.2.1 d.2.2.1 x++List.replicate (0:Nat) (0:Int)/\ae (dC (ba d.1 d.2.1 d.2.2.2).1.1 (eu (ba d.1 d.2.1 d.2.2.2).1.1 (aT d.2.1 x x_1) (aT d.2.2.1 x x_1)) d.2.1 d.2.1.length))/\∀(x_2:Nat),List.length (cD (ab d.1) d.2.1 d.2.2.1 x)+x_2<=d.2.2.2.toNat->(decide ((↑(List.length (cD (ab d.1) d.2.1 d.2.2.1 x++List.replicate x_2 (0:Int))):Int)<d.2.2.2)=true->(List.length (cD (ab d.1) d.2.1 d.2.2.1 x++List.replicate x_2 (0:Int))+List.length [(0:Int)])*(8:Nat)<=(140737488355328:Nat)/\∃(x':Nat),List.length (cD (ab d.1) d.2.1 d.2.2.1 x)+x'<=d.2.2.2.toNat/\d.2.2.2.toNat-x'<d.2.2.2.toNat-x_2/\(d.1=d.1/\ae d.2.1/\ae d.2.2.1/\ae d.2.2.2/\ae ((ba d.1 d.2.1 d.2.2.2).2)/\ae (x:Int)/\ae (kU (dC (ba d.1 d.2.1 d.2.2.2).1.1 (eu (ba d.1 d.2.1 d.2.2.2).1.1 (aT d.2.1 x x_1) (aT d.2.2.1 x x_1)) d.2.1 d.2.1.length) d.2.2.1)/\ae (bb i64 (1:Int) (d.2.1.length:Int))/\ae (x:Int))/\(Prod.fst (ba d.1 d.2.1 d.2.2.2).1=(ba d.1 d.2.1 d.2.2.2).1.1/\ae ((ba d.1 d.2.1 d.2.2.2).1.2.1)/\ae ((ba d.1 d.2.1 d.2.2.2).1.2.2))/\ae (aT d.2.1 x x_1)/\ae (aT d.2.2.1 x x_1)/\cD (ab d.1) d.2.1 d.2.2.1 x++List.replicate x_2 (0:Int)++[(0:Int)]=cD (ab d.1) d.2.1 d.2.2.1 x++List.replicate x' (0:Int)/\ae (dC (ba d.1 d.2.1 d.2.2.2).1.1 (eu (ba d.1 d.2.1 d.2.2.2).1.1 (aT d.2.1 x x_1) (aT d.2.2.1 x x_1)) d.2.1 d.2.1.length))/\(decide ((↑(List.length (cD (ab d.1) d.2.1 d.2.2.1 x++List.replicate x_2 (0:Int))):Int)<d.2.2.2)=false->(cD (ab d.1) d.2.1 d.2.2.1 x++List.replicate x_2 (0:Int),kU (dC (ba d.1 d.2.1 d.2.2.2).1.1 (eu (ba d.1 d.2.1 d.2.2.2).1.1 (aT d.2.1 x x_1) (aT d.2.2.1 x x_1)) d.2.1 d.2.1.length) d.2.2.1,true)=cM d.1 d.2.1 d.2.2.1 d.2.2.2))/\(decide (kU (dC (ba d.1 d.2.1 d.2.2.2).1.1 (eu (ba d.1 d.2.1 d.2.2.2).1.1 (aT d.2.1 x x_1) (aT d.2.2.1 x x_1)) d.2.1 d.2.1.length) d.2.2.1<=i64.wrap (Int.tdiv (i64.wrap ((d.2.1.length:Int)-d.2.2.2)) (2:Int)))=false->∃(x':Nat),jK (ab d.1) d.2.1 d.2.2.1 d.2.2.2.toNat x'/\(2:Nat)^d.2.1.length-x'<(2:Nat)^d.2.1.length-x/\(d.1=d.1/\ae d.2.1/\ae d.2.2.1/\ae d.2.2.2/\ae ((ba d.1 d.2.1 d.2.2.2).2)/\ae (bb i64 (1:Int) (d.2.1.length:Int))/\i64.wrap ((x:Int)+(1:Int))=(x':Int))/\ae ((ba d.1 d.2.1 d.2.2.2).1.1)/\ae ((ba d.1 d.2.1 d.2.2.2).1.2.1)/\ae ((ba d.1 d.2.1 d.2.2.2).1.2.2))))))))/\(decide ((x:Int)<bb i64 (1:Int) (d.2.1.length:Int))=false->([],(0:Int),false)=cM d.1 d.2.1 d.2.2.1 d.2.2.2))))):=by
  intro (d:Int×List Int×List Int×Int) hw hp
  obtain⟨f,xs,ys,k⟩:=d
  simp only[exists_const,forall_const,decide_eq_true_eq,decide_eq_false_iff_not,beq_iff_eq,sxS]
  intro _
  rw[OE]
  refine⟨fun h=>ra (by rw[h];rfl),fun h=>?_⟩
  rw[OD h]
  obtain⟨lS,hl,NV,DA⟩:=ma h
  obtain⟨hm,KN,na,he,hn⟩:=iL lS
  have h0:=(lA hm).mod
  refine⟨fun h1=>ra (by rw[decide_eq_false (show ¬ys.length=xs.length by omega),Bool.and_false];rfl),fun h1=>⟨fun h2=>ra ?_,fun h2=>⟨by omega,⟨Nat.zero_le _,fun t ht=>absurd ht (by omega)⟩,rfl,fun x hx=>?_⟩⟩⟩
  ·unfold aw
   rw[h2,Bool.and_false,Bool.and_false]
  have tK:=fb hm h2
  have tO:ys.length=xs.length:=by omega
  obtain⟨kk,rfl⟩:=Int.eq_ofNat_of_zero_le (show 0<=k by omega)
  simp only[Int.toNat_natCast] at hx ⊢
  have ie:=Em hl
  rw[HZ hl]
  refine⟨fun h3=>⟨by omega,⟨rfl,rfl,rfl⟩,fun y hy=>⟨fun h4=>?_,fun h4=>?_⟩⟩,fun h3=>Hj h tO tK hx (by omega)⟩
  ·have QC:=(sub_sub (xs:=xs) x y (by omega)).length_le
   have S6:=oO ys xs x y
   rw[List.length_take] at QC
   have hand:sM .i64 (((x/2^y:Nat)):Int) 1=((x/2^y%2:Nat):Int):=K1 ⟨x/2^y,by have:=Nat.div_le_self x (2^y);omega⟩
   rw[xx x y (by omega),hand]
   refine⟨⟨by omega,by omega⟩,by omega,fun h5=>⟨by simp only[List.length_cons,List.length_nil];omega,⟨by omega,by omega⟩,by simp only[List.length_cons,List.length_nil];omega,y+1,by omega,by omega,aC (by omega),td (by omega),td (by omega)⟩,fun h5=>⟨y+1,by omega,by omega,aC (by omega),tc (by omega),tc (by omega)⟩⟩
  ·obtain rfl:y=xs.length:=by omega
   have Lw:kl (ab f) xs ys kk x=false->∃ x',jK (ab f) xs ys kk x'/\2^xs.length-x'<2^xs.length-x/\i64.wrap ((x:Int)+1)=(x':Int) :=
    fun hh=>⟨x+1,E7 hx (by omega) hh,by omega,aC (by omega)⟩
   obtain⟨p6,NY⟩:=Ls lS tO x
   have TP:eu (ab f) (aT xs x xs.length) (aT ys x xs.length)=cD (ab f) xs ys x:=rfl
   have MK:kU (dC (ab f) (cD (ab f) xs ys x) xs xs.length) ys=((r_ (ab f) xs ys x:Nat):Int):=Hn (kz _ _ _ _) tO
   rw[TP,MK,kz]
   have QE:ak (ab f) (aT ys x xs.length)=true:=by
    have:=Aq (xs:=ys) x
    rw[tO] at this
    exact tR this h2
   refine⟨fun h5=>Lw (by unfold kl;rw[decide_eq_false (by omega)];rfl),fun h5=>⟨⟨⟨f,L3 lS (by omega),rfl⟩,QE,oO _ _ _ _⟩,fun _=>⟨⟨h0,p6,he,by omega⟩,fun _=>⟨⟨by omega,by omega⟩,fun _=>⟨by decide,?_⟩⟩⟩⟩⟩
   rw[Dv (by omega) hl]
   refine⟨fun h7=>⟨by omega,by rw[List.replicate_zero,List.append_nil],fun z hz=>⟨fun h6=>?_,fun h6=>?_⟩⟩,fun h7=>Lw (by unfold kl;rw[decide_eq_false (show ¬r_ (ab f) xs ys x<=(xs.length-kk)/2 by omega),Bool.and_false])⟩
   ·rw[List.length_append,List.length_replicate] at h6 ⊢
    refine⟨by simp only[List.length_cons,List.length_nil];omega,z+1,by omega,by omega,?_⟩
    rw[List.append_assoc,List.replicate_succ']
   ·rw[List.length_append,List.length_replicate] at h6
    have QN:z=kk-(cD (ab f) xs ys x).length:=by omega
    have hh:kl (ab f) xs ys (kk:Int).toNat x=true:=by
     unfold kl
     rw[Int.toNat_natCast,decide_eq_true (show (aT xs x xs.length).length=kk by omega),decide_eq_true (show r_ (ab f) xs ys x<=(xs.length-kk)/2 by omega)];rfl
    rw[Hk h tO tK (s:=x) (by rw[Int.toNat_natCast];exact hx) (by omega) hh,Int.toNat_natCast,QN]
    rfl
set_option maxRecDepth 10000
theorem qa{f:Int}{a:List Int}(h:aL f a=true->False):((0,0,0),false)=c6 f a:=by
 unfold c6;rw[if_neg h]
theorem I5{f:Int}{a:List Int}:(c6 f a).2=aL f a:=by
 unfold c6;split
 ·rename_i h;exact h.symm
 ·rename_i h;exact (Bool.eq_false_iff.2 h).symm
theorem I4{f:Int}{a:List Int}(h:aL f a=true):(c6 f a).1.1=ab f:=by unfold c6;rw[if_pos h];rfl
theorem Cf :
 ∀(d:Int×List (List Int)),Ty.wf ah d.1/\Ty.wf (Ty.sl ai) d.2->d.2.length=(1:Nat)->True/\(Ty.wf bm (al d.1).1/\Ty.wf Ty.bool (al d.1).2->((!(al d.1).2)=true->(((0:Int),(0:Int),(0:Int)),false)=c6 d.1 (d.2.getD (0:Nat) []))/\((!(al d.1).2)=false->((0:Nat)<=(1:Nat)/\((0:Nat)=(1:Nat)->aL d.1 (d.2.getD (0:Nat) [])=true))/\((d.1=d.1/\d.2=d.2/\ae ((al d.1).2)/\d.2=d.2/\ae (d.2.length:Int)/\(0:Int)=(↑(0:Nat):Int))/\(ae (0:Int)/\ae (0:Int)/\ae (0:Int))/\ae ((al d.1).1.1)/\ae ((al d.1).1.2.1)/\ae ((al d.1).1.2.2))/\∀(x:Nat),x<=(1:Nat)/\(x=(1:Nat)->aL d.1 (d.2.getD (0:Nat) [])=true)->(decide ((x:Int)<(d.2.length:Int))=true->((0:Int)<=(x:Int)/\(x:Int)<(d.2.length:Int))/\(decide ((400:Int)<(↑(List.length (d.2.getD ((x:Int).toNat) [])):Int))=true->(((0:Int),(0:Int),(0:Int)),false)=c6 d.1 (d.2.getD (0:Nat) []))/\(decide ((400:Int)<(↑(List.length (d.2.getD ((x:Int).toNat) [])):Int))=false->True/\((!ak (al d.1).1.1 (d.2.getD ((x:Int).toNat) []))=true->(((0:Int),(0:Int),(0:Int)),false)=c6 d.1 (d.2.getD (0:Nat) []))/\((!ak (al d.1).1.1 (d.2.getD ((x:Int).toNat) []))=false->(decide ((0:Int)<(↑(List.length (d.2.getD ((x:Int).toNat) [])):Int))=true->((0:Int)<=i64.wrap ((↑(List.length (d.2.getD ((x:Int).toNat) [])):Int)-(1:Int))/\i64.wrap ((↑(List.length (d.2.getD ((x:Int).toNat) [])):Int)-(1:Int))<(↑(List.length (d.2.getD ((x:Int).toNat) [])):Int))/\(decide (List.getD (d.2.getD ((x:Int).toNat) []) (Int.toNat (i64.wrap ((↑(List.length (d.2.getD ((x:Int).toNat) [])):Int)-(1:Int)))) (0:Int)=(0:Int))=true->(((0:Int),(0:Int),(0:Int)),false)=c6 d.1 (d.2.getD (0:Nat) []))/\(decide (List.getD (d.2.getD ((x:Int).toNat) []) (Int.toNat (i64.wrap ((↑(List.length (d.2.getD ((x:Int).toNat) [])):Int)-(1:Int)))) (0:Int)=(0:Int))=false->∃(x':Nat),(x'<=(1:Nat)/\(x'=(1:Nat)->aL d.1 (d.2.getD (0:Nat) [])=true))/\(1:Nat)-x'<(1:Nat)-x/\(d.1=d.1/\d.2=d.2/\ae ((al d.1).2)/\d.2=d.2/\ae (d.2.length:Int)/\i64.wrap ((x:Int)+(1:Int))=(x':Int))/\(ae (0:Int)/\ae (0:Int)/\ae (0:Int))/\ae ((al d.1).1.1)/\ae ((al d.1).1.2.1)/\ae ((al d.1).1.2.2)))/\(decide ((0:Int)<(↑(List.length (d.2.getD ((x:Int).toNat) [])):Int))=false->∃(x':Nat),(x'<=(1:Nat)/\(x'=(1:Nat)->aL d.1 (d.2.getD (0:Nat) [])=true))/\(1:Nat)-x'<(1:Nat)-x/\(d.1=d.1/\d.2=d.2/\ae ((al d.1).2)/\d.2=d.2/\ae (d.2.length:Int)/\i64.wrap ((x:Int)+(1:Int))=(x':Int))/\(ae (0:Int)/\ae (0:Int)/\ae (0:Int))/\ae ((al d.1).1.1)/\ae ((al d.1).1.2.1)/\ae ((al d.1).1.2.2)))))/\(decide ((x:Int)<(d.2.length:Int))=false->(Prod.fst (al d.1),true)=c6 d.1 (d.2.getD (0:Nat) [])))):=by
  intro (d:Int×List (List Int)) hw hp
  obtain⟨f,vs⟩:=d
  replace hp:vs.length=1:=hp
  obtain⟨v,rfl⟩:∃ v,vs=[v]:=by
   match vs,hp with
   | [v],_=>exact⟨v,rfl⟩
  have hl:v.length<=9223372036854775807:=(hw.2.2 v (List.mem_cons_self ..)).1
  simp only[exists_const,forall_const,decide_eq_true_eq,decide_eq_false_iff_not,beq_iff_eq,sxS]
  intro _
  simp only[List.getD_cons_zero]
  refine⟨fun h=>qa (fun hh=>?_),fun h=>?_⟩
  ·have hn:¬(0<=f/\f<9):=fun hh=>by rw[et.2 hh] at h;cases h
   exact (b6 hh).1 (kp hn)
  ·have hf:=et.1 h
   have hb:=gL hf
   have HE:ab f≠0:=by omega
   refine⟨⟨by omega,fun h=>by omega⟩,rfl,fun x hx=>⟨fun aK=>?_,fun dU=>?_⟩⟩
   ·have Bd:x=0:=by simp at aK;omega
    subst Bd
    simp only[List.getD_cons_zero,List.length_cons,List.length_nil,Int.toNat_zero] at *
    refine⟨⟨by omega,by omega⟩,fun h3=>qa (fun hh=>?_),fun h3=>⟨fun h4=>qa (fun hh=>?_),fun h4=>⟨fun h5=>?_,fun h5=>⟨1,⟨by omega,fun _=>?_⟩,by omega,rfl⟩⟩⟩⟩
    ·have:=(b6 hh).2.2.1;omega
    ·have:=(b6 hh).2.1
     rw[show ak (ab f) v=false from h4] at this;cases this
    ·have e1:IntKind.wrap i64 ((v.length:Int)-1)=((v.length-1:Nat):Int):=by rw[wrap_small (by omega)];omega
     rw[e1]
     refine⟨⟨by omega,by omega⟩,fun h6=>qa (fun hh=>?_),fun h6=>⟨1,⟨by omega,fun _=>?_⟩,by omega,rfl⟩⟩
     ·rcases (fG v).1 (b6 hh).2.2.2 with h7|h7
      ·omega
      ·exact h7 h6
     ·exact iw HE h4 (by omega) ((fG v).2 (.inr h6))
    ·exact iw HE h4 (by omega) ((fG v).2 (.inl (by omega)))
   ·have nf:x=1:=by simp at dU;omega
    have:=hx.2 nf
    unfold c6
    rw[if_pos this]
theorem Fi :
 ∀(d:Int×List Int×List Int),Ty.wf ah d.1/\Ty.wf ai d.2.1/\Ty.wf ai d.2.2->True->List.length [d.2.1]=(1:Nat)/\(Ty.wf bm (c6 d.1 (List.getD [d.2.1] (0:Nat) [])).1/\Ty.wf Ty.bool (c6 d.1 (List.getD [d.2.1] (0:Nat) [])).2->((!(c6 d.1 (List.getD [d.2.1] (0:Nat) [])).2)=true->[]=iR d.1 d.2.1 d.2.2)/\((!(c6 d.1 (List.getD [d.2.1] (0:Nat) [])).2)=false->(decide ((40:Int)<(d.2.2.length:Int))=true->[]=iR d.1 d.2.1 d.2.2)/\(decide ((40:Int)<(d.2.2.length:Int))=false->True/\((!ak (c6 d.1 (List.getD [d.2.1] (0:Nat) [])).1.1 d.2.2)=true->[]=iR d.1 d.2.1 d.2.2)/\((!ak (c6 d.1 (List.getD [d.2.1] (0:Nat) [])).1.1 d.2.2)=false->(an (c6 d.1 (List.getD [d.2.1] (0:Nat) [])).1.1/\ak (c6 d.1 (List.getD [d.2.1] (0:Nat) [])).1.1 d.2.1=true/\ak (c6 d.1 (List.getD [d.2.1] (0:Nat) [])).1.1 d.2.2=true/\d.2.2.length<=(1000:Nat))/\(Ty.wf ai (dC (c6 d.1 (List.getD [d.2.1] (0:Nat) [])).1.1 d.2.1 d.2.2 d.2.2.length)->dC (c6 d.1 (List.getD [d.2.1] (0:Nat) [])).1.1 d.2.1 d.2.2 d.2.2.length=iR d.1 d.2.1 d.2.2))))):=by
  intro (d:Int×List Int×List Int) hw hp
  obtain⟨f,a,xs⟩:=d
  simp only[exists_const,forall_const,decide_eq_true_eq,decide_eq_false_iff_not,beq_iff_eq,sxS]
  refine⟨rfl,fun _=>?_⟩
  simp only[List.getD_cons_zero]
  rw[I5]
  have no:((aL f a&&decide (xs.length<=40)&&aw f xs)=true->False)->[]=iR f a xs:=fun h=>by unfold iR;rw[if_neg h]
  refine⟨fun h=>no (fun hh=>?_),fun h=>⟨fun h1=>no (fun hh=>?_),fun h1=>?_⟩⟩
  ·rw[h] at hh;cases hh
  ·simp only[Bool.and_eq_true,decide_eq_true_eq] at hh;omega
  ·obtain⟨hm,he,_,_⟩:=b6 h
   rw[I4 h]
   refine⟨fun h2=>no (fun hh=>?_),fun h2=>⟨⟨(bu hm).1,he,h2,by omega⟩,fun _=>?_⟩⟩
   ·simp only[Bool.and_eq_true] at hh
    rw[(fF hh.2).2] at h2;cases h2
   ·unfold iR
    rw[if_pos (by rw[h,decide_eq_true (show xs.length<=40 by omega),fb hm h2];rfl)]
theorem pF{f:Int}{ls:List (List Int)}:(bH f ls).2=true↔ab f≠0/\∀ v∈ls,aL f v=true:=by
 unfold bH
 constructor
 ·intro h
  split at h
  ·rename_i h1
   simpa only[Bool.and_eq_true,decide_eq_true_eq] using h1
  ·cases h
 ·intro h
  rw[if_pos (by simpa only[Bool.and_eq_true,decide_eq_true_eq] using h)]
theorem Ef{f:Int}{ls:List (List Int)}(h:¬(ab f≠0/\∀ v∈ls,aL f v=true)):((0,0,0),false)=bH f ls:=by
 unfold bH
 rw[if_neg (by simpa only[Bool.and_eq_true,decide_eq_true_eq] using h)]
theorem uS{f:Int}{ls:List (List Int)}(h:ab f≠0/\∀ v∈ls,aL f v=true):((al f).1,true)=bH f ls:=by
 unfold bH
 rw[if_pos (by simpa only[Bool.and_eq_true,decide_eq_true_eq] using h)]
theorem Kv{ls:List (List Int)}{x:Nat}(h:x<ls.length):ls.getD x []∈ls:=by
 rw[List.getD_eq_getElem?_getD,List.getElem?_eq_getElem h]
 exact List.getElem_mem _
theorem uR{f:Int}{ls:List (List Int)}{x:Nat}(h:x<ls.length)(hb:aL f (ls.getD x [])=true->False):((0,0,0),false)=bH f ls:=Ef (fun hh=>hb (hh.2 _ (Kv h)))
theorem LW{f:Int}{a:List Int}:(fy f [a]).2=true↔gi f a=true:=by
 unfold fy
 rw[List.getD_cons_zero]
 split
 ·rename_i h;exact⟨fun _=>h,fun _=>rfl⟩
 ·rename_i h;exact⟨fun e=>(by cases e),fun e=>absurd e h⟩
theorem Pk{f:Int}{a:List Int}(h:gi f a=true):(fy f [a]).1.1=ab f:=by
 unfold fy
 rw[List.getD_cons_zero,if_pos h];rfl
theorem Re{f:Int}{a:List Int}(h1:1<=a.length)(h2:a.length<=64)(hm:ab f≠0)(he:ak (ab f) a=true):gi f a=true:=by
 unfold gi
 simp only[Bool.and_eq_true,decide_eq_true_eq]
 exact⟨⟨h1,h2⟩,fb hm he⟩
theorem vP{f:Int}{a:List Int}(h:¬gi f a=true):((0,0,0),false)=fy f [a]:=by
 unfold fy
 rw[List.getD_cons_zero,if_neg h]
theorem Ax :
 ∀(d:Int×List (List Int)),Ty.wf ah d.1/\Ty.wf (Ty.sl ai) d.2->d.2.length=(1:Nat)\/d.2.length=(2:Nat)->True/\(Ty.wf bm (al d.1).1/\Ty.wf Ty.bool (al d.1).2->((!(al d.1).2)=true->(((0:Int),(0:Int),(0:Int)),false)=bH d.1 d.2)/\((!(al d.1).2)=false->((0:Nat)<=d.2.length/\vp d.1 d.2 (0:Nat))/\((d.1=d.1/\d.2=d.2/\ae ((al d.1).2)/\d.2=d.2/\ae (d.2.length:Int)/\(0:Int)=(↑(0:Nat):Int))/\(ae (0:Int)/\ae (0:Int)/\ae (0:Int))/\ae ((al d.1).1.1)/\ae ((al d.1).1.2.1)/\ae ((al d.1).1.2.2))/\∀(x:Nat),x<=d.2.length/\vp d.1 d.2 x->(decide ((x:Int)<(d.2.length:Int))=true->((0:Int)<=(x:Int)/\(x:Int)<(d.2.length:Int))/\(decide ((400:Int)<(↑(List.length (d.2.getD ((x:Int).toNat) [])):Int))=true->(((0:Int),(0:Int),(0:Int)),false)=bH d.1 d.2)/\(decide ((400:Int)<(↑(List.length (d.2.getD ((x:Int).toNat) [])):Int))=false->True/\((!ak (al d.1).1.1 (d.2.getD ((x:Int).toNat) []))=true->(((0:Int),(0:Int),(0:Int)),false)=bH d.1 d.2)/\((!ak (al d.1).1.1 (d.2.getD ((x:Int).toNat) []))=false->(decide ((0:Int)<(↑(List.length (d.2.getD ((x:Int).toNat) [])):Int))=true->((0:Int)<=i64.wrap ((↑(List.length (d.2.getD ((x:Int).toNat) [])):Int)-(1:Int))/\i64.wrap ((↑(List.length (d.2.getD ((x:Int).toNat) [])):Int)-(1:Int))<(↑(List.length (d.2.getD ((x:Int).toNat) [])):Int))/\(decide (List.getD (d.2.getD ((x:Int).toNat) []) (Int.toNat (i64.wrap ((↑(List.length (d.2.getD ((x:Int).toNat) [])):Int)-(1:Int)))) (0:Int)=(0:Int))=true->(((0:Int),(0:Int),(0:Int)),false)=bH d.1 d.2)/\(decide (List.getD (d.2.getD ((x:Int).toNat) []) (Int.toNat (i64.wrap ((↑(List.length (d.2.getD ((x:Int).toNat) [])):Int)-(1:Int)))) (0:Int)=(0:Int))=false->∃(x':Nat),(x'<=d.2.length/\vp d.1 d.2 x')/\d.2.length-x'<d.2.length-x/\(d.1=d.1/\d.2=d.2/\ae ((al d.1).2)/\d.2=d.2/\ae (d.2.length:Int)/\i64.wrap ((x:Int)+(1:Int))=(x':Int))/\(ae (0:Int)/\ae (0:Int)/\ae (0:Int))/\ae ((al d.1).1.1)/\ae ((al d.1).1.2.1)/\ae ((al d.1).1.2.2)))/\(decide ((0:Int)<(↑(List.length (d.2.getD ((x:Int).toNat) [])):Int))=false->∃(x':Nat),(x'<=d.2.length/\vp d.1 d.2 x')/\d.2.length-x'<d.2.length-x/\(d.1=d.1/\d.2=d.2/\ae ((al d.1).2)/\d.2=d.2/\ae (d.2.length:Int)/\i64.wrap ((x:Int)+(1:Int))=(x':Int))/\(ae (0:Int)/\ae (0:Int)/\ae (0:Int))/\ae ((al d.1).1.1)/\ae ((al d.1).1.2.1)/\ae ((al d.1).1.2.2)))))/\(decide ((x:Int)<(d.2.length:Int))=false->(Prod.fst (al d.1),true)=bH d.1 d.2))):=by
  intro d hw hp
  obtain⟨f,ls⟩:=d
  replace hp:ls.length=1\/ls.length=2:=hp
  have hl:∀ v∈ls,v.length<=9223372036854775807:=fun v hv=>(hw.2.2 v hv).1
  simp only[exists_const,forall_const,decide_eq_true_eq,decide_eq_false_iff_not,beq_iff_eq,sxS]
  intro _
  refine⟨fun h=>Ef (fun hh=>?_),fun h=>?_⟩
  ·rw[rk.2 hh.1] at h;cases h
  ·have hm:=rk.1 h
   refine⟨⟨by omega,fun i hi=>absurd hi (Nat.not_lt_zero _)⟩,rfl,fun x hx=>⟨fun aK=>?_,fun dU=>?_⟩⟩
   ·have jY:x<ls.length:=by omega
    have hv:=hl _ (Kv jY)
    have step:aL f (ls.getD x [])=true->∃ x',(x'<=ls.length/\vp f ls x')/\ls.length-x'<ls.length-x/\i64.wrap ((x:Int)+1)=(x':Int):=fun hb =>
     ⟨x+1,⟨by omega,fun i hi=>by
       rcases Nat.lt_or_ge i x with h1|h1
       ·exact hx.2 i h1
       ·rw[show i=x by omega];exact hb⟩,by omega,aC (by omega)⟩
    generalize QK:ls.getD x []=v at *
    refine⟨⟨by omega,by omega⟩,fun h3=>uR jY (fun hh=>?_),fun h3=>⟨fun h4=>uR jY (fun hh=>?_),fun h4=>⟨fun h5=>?_,fun h5=>?_⟩⟩⟩
    ·rw[QK] at hh
     have:=(b6 hh).2.2.1;omega
    ·rw[QK] at hh
     have:=(b6 hh).2.1
     rw[show ak (ab f) v=false from h4] at this;cases this
    ·have e1:IntKind.wrap i64 ((v.length:Int)-1)=((v.length-1:Nat):Int):=by rw[wrap_small (by omega)];omega
     rw[e1]
     refine⟨⟨by omega,by omega⟩,fun h6=>uR jY (fun hh=>?_),fun h6=>step (iw hm h4 (by omega) ((fG v).2 (.inr h6)))⟩
     rw[QK] at hh
     rcases (fG v).1 (b6 hh).2.2.2 with h7|h7
     ·omega
     ·exact h7 h6
    ·exact step (iw hm h4 (by omega) ((fG v).2 (.inl (by omega))))
   ·refine uS ⟨hm,fun v hv=>?_⟩
    obtain⟨i,hi,rfl⟩:=List.getElem_of_mem hv
    have:=hx.2 i (by omega)
    rw[List.getD_eq_getElem?_getD,List.getElem?_eq_getElem hi] at this
    exact this
theorem JG :
 ∀(d:Int×List Int),Ty.wf ah d.1/\Ty.wf ai d.2->True->(List.length [d.2]=(1:Nat)\/List.length [d.2]=(2:Nat))/\(Ty.wf bm (bH d.1 [d.2]).1/\Ty.wf Ty.bool (bH d.1 [d.2]).2->(bH d.1 [d.2]).2=aL d.1 d.2):=by
  intro (d:Int×List Int) hw hp
  obtain⟨f,a⟩:=d
  simp only[exists_const,forall_const,decide_eq_true_eq,decide_eq_false_iff_not,beq_iff_eq,sxS]
  refine⟨.inl rfl,fun _=>?_⟩
  rw[Bool.eq_iff_iff,pF]
  exact⟨fun h=>h.2 a (List.mem_singleton.2 rfl),fun h=>⟨(b6 h).1,fun v hv=>by rw[List.mem_singleton.1 hv];exact h⟩⟩
theorem JE :
 ∀(d:Int×List Int×List Int),Ty.wf ah d.1/\Ty.wf ai d.2.1/\Ty.wf ai d.2.2->True->(List.length [d.2.1,d.2.2]=(1:Nat)\/List.length [d.2.1,d.2.2]=(2:Nat))/\(Ty.wf bm (bH d.1 [d.2.1,d.2.2]).1/\Ty.wf Ty.bool (bH d.1 [d.2.1,d.2.2]).2->((!(bH d.1 [d.2.1,d.2.2]).2)=true->([],[],false)=bK d.1 d.2.1 d.2.2)/\((!(bH d.1 [d.2.1,d.2.2]).2)=false->(decide ((d.2.2.length:Int)=(0:Int))=true->([],[],false)=bK d.1 d.2.1 d.2.2)/\(decide ((d.2.2.length:Int)=(0:Int))=false->Ig (bH d.1 [d.2.1,d.2.2]).1.1 d.2.1 d.2.2/\(Ty.wf ai (fx (bH d.1 [d.2.1,d.2.2]).1.1 d.2.1 d.2.2).1/\Ty.wf ai (fx (bH d.1 [d.2.1,d.2.2]).1.1 d.2.1 d.2.2).2->(Prod.fst (fx (bH d.1 [d.2.1,d.2.2]).1.1 d.2.1 d.2.2),(fx (bH d.1 [d.2.1,d.2.2]).1.1 d.2.1 d.2.2).2,true)=bK d.1 d.2.1 d.2.2)))):=by
  intro (d:Int×List Int×List Int) hw hp
  obtain⟨f,a,b⟩:=d
  simp only[exists_const,forall_const,decide_eq_true_eq,decide_eq_false_iff_not,beq_iff_eq,sxS]
  refine⟨.inr rfl,fun _=>⟨fun h=>?_,fun h=>?_⟩⟩
  ·unfold bK
   rw[if_neg (fun hh=>?_)]
   simp only[Bool.and_eq_true,decide_eq_true_eq] at hh
   have:(bH f [a,b]).2=true:=pF.2 ⟨(b6 hh.1.1).1,fun v hv=>by
    rcases List.mem_cons.1 hv with h1|h1
    ·rw[h1];exact hh.1.1
    ·rw[List.mem_singleton.1 h1];exact hh.1.2⟩
   rw[h] at this;cases this
  ·have hk:=pF.1 h
   have ha:=hk.2 a (List.mem_cons_self ..)
   have hb:=hk.2 b (List.mem_cons_of_mem _ (List.mem_cons_self ..))
   have HF:(bH f [a,b]).1.1=ab f:=by rw[<-uS hk];rfl
   rw[HF]
   refine⟨fun h1=>?_,fun h1=>⟨⟨f,rfl,ha,hb,by omega⟩,fun _=>?_⟩⟩
   ·unfold bK
    rw[if_neg (fun hh=>?_)]
    simp only[Bool.and_eq_true,decide_eq_true_eq] at hh
    omega
   ·unfold bK
    rw[if_pos (by simp only[Bool.and_eq_true,decide_eq_true_eq];exact⟨⟨ha,hb⟩,by omega⟩)]
theorem zC :
 ∀(d:Int×List (List Int)),Ty.wf ah d.1/\Ty.wf (Ty.sl ai) d.2->d.2.length=(1:Nat)->True/\(Ty.wf bm (al d.1).1/\Ty.wf Ty.bool (al d.1).2->((!(al d.1).2)=true->(((0:Int),(0:Int),(0:Int)),false)=fy d.1 d.2)/\((!(al d.1).2)=false->((0:Nat)<=(1:Nat)/\((0:Nat)=(1:Nat)->gi d.1 (d.2.getD (0:Nat) [])=true))/\((d.1=d.1/\d.2=d.2/\ae ((al d.1).2)/\d.2=d.2/\ae (d.2.length:Int)/\(0:Int)=(↑(0:Nat):Int))/\(ae (0:Int)/\ae (0:Int)/\ae (0:Int))/\ae ((al d.1).1.1)/\ae ((al d.1).1.2.1)/\ae ((al d.1).1.2.2))/\∀(x:Nat),x<=(1:Nat)/\(x=(1:Nat)->gi d.1 (d.2.getD (0:Nat) [])=true)->(decide ((x:Int)<(d.2.length:Int))=true->((0:Int)<=(x:Int)/\(x:Int)<(d.2.length:Int))/\(decide ((↑(List.length (d.2.getD ((x:Int).toNat) [])):Int)<(1:Int))=true->(((0:Int),(0:Int),(0:Int)),false)=fy d.1 d.2)/\(decide ((↑(List.length (d.2.getD ((x:Int).toNat) [])):Int)<(1:Int))=false->(decide ((64:Int)<(↑(List.length (d.2.getD ((x:Int).toNat) [])):Int))=true->(((0:Int),(0:Int),(0:Int)),false)=fy d.1 d.2)/\(decide ((64:Int)<(↑(List.length (d.2.getD ((x:Int).toNat) [])):Int))=false->True/\((!ak (al d.1).1.1 (d.2.getD ((x:Int).toNat) []))=true->(((0:Int),(0:Int),(0:Int)),false)=fy d.1 d.2)/\((!ak (al d.1).1.1 (d.2.getD ((x:Int).toNat) []))=false->((0:Int)<=(0:Int)/\(0:Int)<(d.2.length:Int))/\((!decide ((↑(List.length (d.2.getD ((x:Int).toNat) [])):Int)=(↑(List.length (d.2.getD ((0:Int).toNat) [])):Int)))=true->(((0:Int),(0:Int),(0:Int)),false)=fy d.1 d.2)/\((!decide ((↑(List.length (d.2.getD ((x:Int).toNat) [])):Int)=(↑(List.length (d.2.getD ((0:Int).toNat) [])):Int)))=false->∃(x':Nat),(x'<=(1:Nat)/\(x'=(1:Nat)->gi d.1 (d.2.getD (0:Nat) [])=true))/\(1:Nat)-x'<(1:Nat)-x/\(d.1=d.1/\d.2=d.2/\ae ((al d.1).2)/\d.2=d.2/\ae (d.2.length:Int)/\i64.wrap ((x:Int)+(1:Int))=(x':Int))/\(ae (0:Int)/\ae (0:Int)/\ae (0:Int))/\ae ((al d.1).1.1)/\ae ((al d.1).1.2.1)/\ae ((al d.1).1.2.2))))))/\(decide ((x:Int)<(d.2.length:Int))=false->(Prod.fst (al d.1),true)=fy d.1 d.2))):=by
  intro (d:Int×List (List Int)) hw hp
  obtain⟨f,vs⟩:=d
  replace hp:vs.length=1:=hp
  obtain⟨v,rfl⟩:∃ v,vs=[v]:=by
   match vs,hp with
   | [v],_=>exact⟨v,rfl⟩
  simp only[exists_const,forall_const,decide_eq_true_eq,decide_eq_false_iff_not,beq_iff_eq,sxS]
  intro _
  simp only[List.getD_cons_zero,Int.toNat_zero]
  refine⟨fun h=>vP (fun hh=>?_),fun h=>?_⟩
  ·rw[rk.2 (rS hh).2.2.1] at h;cases h
  ·have hm:=rk.1 h
   refine⟨⟨by omega,fun h=>by omega⟩,rfl,fun x hx=>⟨fun aK=>?_,fun dU=>?_⟩⟩
   ·have Bd:x=0:=by simp at aK;omega
    subst Bd
    simp only[List.getD_cons_zero,List.length_cons,List.length_nil] at *
    refine⟨⟨by omega,by omega⟩,fun h3=>vP (fun hh=>?_),fun h3=>⟨fun h4=>vP (fun hh=>?_),fun h4=>⟨fun h5=>vP (fun hh=>?_),fun h5=>⟨⟨by omega,by omega⟩,fun h6=>absurd (by trivial) h6,fun _=>⟨1,⟨by omega,fun _=>?_⟩,by omega,rfl⟩⟩⟩⟩⟩
    ·have:=(rS hh).1;omega
    ·have:=(rS hh).2.1;omega
    ·have:=(rS hh).2.2.2
     rw[show ak (ab f) v=false from h5] at this;cases this
    ·exact Re (by omega) (by omega) hm h5
   ·have nf:x=1:=by simp at dU;omega
    have:=hx.2 nf
    unfold fy
    rw[List.getD_cons_zero,if_pos this]
theorem Cc :
 ∀(d:Int×List Int),Ty.wf ah d.1/\Ty.wf ai d.2->True->List.length [d.2]=(1:Nat)/\(Ty.wf bm (fy d.1 [d.2]).1/\Ty.wf Ty.bool (fy d.1 [d.2]).2->((!(fy d.1 [d.2]).2)=true->([],false)=cm d.1 d.2)/\((!(fy d.1 [d.2]).2)=false->((0:Int)<=(0:Int)/\(0:Int)<(d.2.length:Int))/\(decide (d.2.getD ((0:Int).toNat) (0:Int)=(0:Int))=true->([],false)=cm d.1 d.2)/\(decide (d.2.getD ((0:Int).toNat) (0:Int)=(0:Int))=false->(an (fy d.1 [d.2]).1.1/\ak (fy d.1 [d.2]).1.1 d.2=true/\(1:Nat)<=d.2.length/\d.2.length<=(64:Nat))/\(Ty.wf ai (bB (fy d.1 [d.2]).1.1 d.2 d.2.length)->(bB (fy d.1 [d.2]).1.1 d.2 d.2.length,true)=cm d.1 d.2)))):=by
  intro (d:Int×List Int) hw hp
  obtain⟨f,a⟩:=d
  simp only[exists_const,forall_const,decide_eq_true_eq,decide_eq_false_iff_not,beq_iff_eq,sxS]
  refine⟨rfl,fun _=>⟨fun h=>?_,fun h=>?_⟩⟩
  ·exact (CJ (fun hh=>by rw[LW.2 hh.1] at h;cases h)).symm
  ·have hs:=LW.1 h
   obtain⟨h1,h2,hm,he⟩:=rS hs
   rw[Pk hs]
   refine⟨⟨by omega,by omega⟩,fun h0=>(CJ (fun hh=>hh.2 h0)).symm,fun h0=>⟨⟨(bu hm).1,he,h1,h2⟩,fun _=>(L0 hs h0).symm⟩⟩
theorem FB :
 ∀(d:Int×List Int×List Int),Ty.wf ah d.1/\Ty.wf ai d.2.1/\Ty.wf ai d.2.2->True->True/\((!aL d.1 d.2.1)=true->[]=dn d.1 d.2.1 d.2.2)/\((!aL d.1 d.2.1)=false->(decide ((40:Int)<(d.2.2.length:Int))=true->[]=dn d.1 d.2.1 d.2.2)/\(decide ((40:Int)<(d.2.2.length:Int))=false->True/\((!aw d.1 d.2.2)=true->[]=dn d.1 d.2.1 d.2.2)/\((!aw d.1 d.2.2)=false->(0:Nat)<=d.2.2.length/\((d.1=d.1/\ae d.2.1/\ae d.2.2/\aQ/\(0:Int)=(↑(0:Nat):Int))/\[]=dC (ab d.1) d.2.1 d.2.2 (0:Nat))/\∀(x:Nat),x<=d.2.2.length->(decide ((x:Int)<(d.2.2.length:Int))=true->((0:Int)<=(x:Int)/\(x:Int)<(d.2.2.length:Int))/\True/\(Ty.wf ah (pP d.1 d.2.1 (d.2.2.getD ((x:Int).toNat) (0:Int)))->(List.length (dC (ab d.1) d.2.1 d.2.2 x)+List.length [pP d.1 d.2.1 (d.2.2.getD ((x:Int).toNat) (0:Int))])*(8:Nat)<=(140737488355328:Nat)/\∃(x':Nat),x'<=d.2.2.length/\d.2.2.length-x'<d.2.2.length-x/\(d.1=d.1/\ae d.2.1/\ae d.2.2/\aQ/\i64.wrap ((x:Int)+(1:Int))=(x':Int))/\dC (ab d.1) d.2.1 d.2.2 x++[pP d.1 d.2.1 (d.2.2.getD ((x:Int).toNat) (0:Int))]=dC (ab d.1) d.2.1 d.2.2 x'))/\(decide ((x:Int)<(d.2.2.length:Int))=false->dC (ab d.1) d.2.1 d.2.2 x=dn d.1 d.2.1 d.2.2)))):=by
  intro (d:Int×List Int×List Int) hw hp
  obtain⟨f,a,xs⟩:=d
  simp only[exists_const,forall_const,decide_eq_true_eq,decide_eq_false_iff_not,beq_iff_eq,sxS]
  have no:¬(aL f a=true/\xs.length<=40/\aw f xs=true)->[]=dn f a xs:=fun h=>by
   unfold dn jq
   rw[if_neg (fun hh=>h ?_)]
   simp only[Bool.and_eq_true,decide_eq_true_eq] at hh
   exact⟨hh.1.1,hh.1.2,hh.2⟩
  refine⟨fun h=>no (by simp[h]),fun h=>⟨fun h1=>no (by omega),fun h1=>⟨fun h2=>no (by simp[h2]),fun h2=>⟨by omega,⟨rfl,rfl⟩,fun x hx=>⟨fun h3=>⟨⟨by omega,by omega⟩,fun _=>⟨?_,x+1,by omega,by omega,aC (by omega),?_⟩⟩,fun h3=>?_⟩⟩⟩⟩⟩
  ·rw[kz]
   simp only[List.length_cons,List.length_nil];omega
  ·rw[show pP f a (xs.getD x 0)=m7 (ab f) a (xs.getD x 0) by unfold pP;rw[if_pos h]]
   exact xk _ _ _ _
  ·unfold dn jq
   rw[if_pos (by simp only[Bool.and_eq_true,decide_eq_true_eq];exact⟨⟨h,by omega⟩,h2⟩),show x=xs.length by omega]
theorem Bs{p:Int}{a b:List Int}:∀ j,j<=a.length-1->dO p a b (a.length+b.length-2) j=0
 | 0,_=>rfl
 | j+1,h=>by rw[qb (by omega)];exact Bs j (by omega)
theorem Lt{f:Int}{a b:List Int}(ha:aL f a=true)(hb:aL f b=true)(h0:0<a.length)(h1:0<b.length):fB (dH (ab f) a b (a.length+b.length-1))=true:=by
 obtain⟨hm,lQ,_,KW⟩:=b6 ha
 obtain⟨_,ic,_,T0⟩:=b6 hb
 have rv:=lA hm
 have hp:=rv.mod
 refine L_ (fun _=>?_)
 rw[uN]
 unfold dH
 rw[lB,if_pos (by omega),show a.length+b.length-1-1=a.length+b.length-2 by omega,Nat.min_eq_right (by omega),show a.length=(a.length-1)+1 by omega]
 have e:dO (ab f) a b (a.length-1+1+b.length-2) (a.length-1+1)=a.getD (a.length-1) 0*b.getD (b.length-1) 0%ab f:=by
  rw[show a.length-1+1+b.length-2=a.length+b.length-2 by omega,nk (by omega),Bs _ (Nat.le_refl _),Int.zero_add,show a.length+b.length-2-(a.length-1)=b.length-1 by omega]
 rw[e]
 intro hz
 have xa:=dr hp lQ (a.length-1)
 have xb:=dr hp ic (b.length-1)
 unfold El at xa xb
 rcases rv.pr _ _ hz with h|h
 ·rw[Int.emod_eq_of_lt xa.1 xa.2] at h;exact pI KW h0 h
 ·rw[Int.emod_eq_of_lt xb.1 xb.2] at h;exact pI T0 h1 h
theorem D5{f:Int}{a b:List Int}(ha:aL f a=true)(hb:aL f b=true)(h0:¬(a.length=0\/b.length=0)):(cY (ab f) a b).length=a.length+b.length-1:=by
 have ht:=Lt ha hb (by omega) (by omega)
 unfold cY
 rw[if_neg h0,mF]
 unfold fB at ht
 rw[of_decide_eq_true ht,uN]
theorem Gs :
 ∀(d:Int×List Int×List Int),Ty.wf ah d.1/\Ty.wf ai d.2.1/\Ty.wf ai d.2.2->True->(List.length [d.2.1,d.2.2]=(1:Nat)\/List.length [d.2.1,d.2.2]=(2:Nat))/\(Ty.wf bm (bH d.1 [d.2.1,d.2.2]).1/\Ty.wf Ty.bool (bH d.1 [d.2.1,d.2.2]).2->((!(bH d.1 [d.2.1,d.2.2]).2)=true->([],false)=c5 d.1 d.2.1 d.2.2)/\((!(bH d.1 [d.2.1,d.2.2]).2)=false->(an (bH d.1 [d.2.1,d.2.2]).1.1/\ak (bH d.1 [d.2.1,d.2.2]).1.1 d.2.1=true/\ak (bH d.1 [d.2.1,d.2.2]).1.1 d.2.2=true/\d.2.1.length<=(1000:Nat)/\d.2.2.length<=(1000:Nat))/\(Ty.wf ai (cY (bH d.1 [d.2.1,d.2.2]).1.1 d.2.1 d.2.2)->(decide ((400:Int)<(↑(List.length (cY (bH d.1 [d.2.1,d.2.2]).1.1 d.2.1 d.2.2)):Int))=true->([],false)=c5 d.1 d.2.1 d.2.2)/\(decide ((400:Int)<(↑(List.length (cY (bH d.1 [d.2.1,d.2.2]).1.1 d.2.1 d.2.2)):Int))=false->(cY (bH d.1 [d.2.1,d.2.2]).1.1 d.2.1 d.2.2,true)=c5 d.1 d.2.1 d.2.2)))):=by
  intro (d:Int×List Int×List Int) hw hp
  obtain⟨f,a,b⟩:=d
  simp only[exists_const,forall_const,decide_eq_true_eq,decide_eq_false_iff_not,beq_iff_eq,sxS]
  refine⟨.inr rfl,fun _=>⟨fun h=>?_,fun h=>?_⟩⟩
  ·unfold c5
   rw[if_neg (fun hh=>?_)]
   simp only[Bool.and_eq_true,decide_eq_true_eq] at hh
   have:(bH f [a,b]).2=true:=pF.2 ⟨(b6 hh.1.1).1,fun v hv=>by
    rcases List.mem_cons.1 hv with h1|h1
    ·rw[h1];exact hh.1.1
    ·rw[List.mem_singleton.1 h1];exact hh.1.2⟩
   rw[h] at this;cases this
  ·have hk:=pF.1 h
   have ha:=hk.2 a (List.mem_cons_self ..)
   have hb:=hk.2 b (List.mem_cons_of_mem _ (List.mem_cons_self ..))
   have HF:(bH f [a,b]).1.1=ab f:=by rw[<-uS hk];rfl
   rw[HF]
   obtain⟨hm,lQ,Qk,_⟩:=b6 ha
   obtain⟨_,ic,yI,_⟩:=b6 hb
   refine⟨⟨(bu hm).1,lQ,ic,by omega,by omega⟩,fun _=>⟨fun h1=>?_,fun h1=>?_⟩⟩
   ·unfold c5
    rw[if_neg (fun hh=>?_)]
    simp only[Bool.and_eq_true,decide_eq_true_eq] at hh
    by_cases h0:a.length=0\/b.length=0
    ·unfold cY at h1
     rw[if_pos h0] at h1
     simp at h1
    ·rw[D5 ha hb h0] at h1
     omega
   ·unfold c5
    rw[if_pos ?_]
    simp only[Bool.and_eq_true,decide_eq_true_eq]
    refine⟨⟨ha,hb⟩,?_⟩
    by_cases h0:a.length=0\/b.length=0
    ·omega
    ·rw[D5 ha hb h0] at h1
     omega
theorem Nq(f:Int)(a b:List Int):(aE f [a,b]).2=c9 f a b:=by
 have h:oC f [a,b]=c9 f a b:=by
  rw[Bool.eq_iff_iff]
  unfold oC c9
  simp only[decide_eq_true_eq,Bool.and_eq_true,List.getD_cons_zero]
  constructor
  ·intro h
   have h1:=h a (List.mem_cons_self ..)
   have h2:=h b (List.mem_cons_of_mem _ (List.mem_cons_self ..))
   exact⟨⟨h2.2.symm,h1.1⟩,h2.1⟩
  ·rintro⟨⟨h1,h2⟩,h3⟩ v hv
   rcases List.mem_cons.1 hv with h4|h4
   ·rw[h4];exact⟨h2,rfl⟩
   ·rw[List.mem_singleton.1 h4];exact⟨h3,h1.symm⟩
 unfold aE
 rw[<-h]
 cases oC f [a,b]<;>rfl
theorem fh{k:Bool}{o m:List Int}(h:k=false):iK k o m=(2,[],[]):=by rw[h];rfl
theorem gf{k:Bool}{o m:List Int}(h:k=true):iK k o m=(0,o,m):=by rw[h];rfl
theorem Of{k f:Int}{a b:List Int}{c:Int}(h:aF (k,f,a,b,c)=false):(1,[],[])=aD (k,f,a,b,c):=by
 unfold aD;rw[if_neg (by rw[h];decide)]
theorem Su{f:Int}{a b:List Int}{c:Int}(h:aF (1,f,a,b,c)=true):aD (1,f,a,b,c)=iK (aA f a) (iS f a) []:=by unfold aD;rw[if_pos h];rfl
theorem Sv{f:Int}{a b:List Int}{c:Int}(h:aF (2,f,a,b,c)=true):aD (2,f,a,b,c)=iK (aA f a) (fo f a) []:=by unfold aD;rw[if_pos h];rfl
theorem Sw{f:Int}{a b:List Int}{c:Int}(h:aF (3,f,a,b,c)=true):aD (3,f,a,b,c)=iK (c9 f a b) (jM f a b) []:=by unfold aD;rw[if_pos h];rfl
theorem Sx{f:Int}{a b:List Int}{c:Int}(h:aF (4,f,a,b,c)=true):aD (4,f,a,b,c)=iK (c9 f a b) (gq f a b) []:=by unfold aD;rw[if_pos h];rfl
theorem Sy{f:Int}{a b:List Int}{c:Int}(h:aF (5,f,a,b,c)=true):aD (5,f,a,b,c)=iK (c5 f a b).2 (c5 f a b).1 []:=by unfold aD;rw[if_pos h];rfl
theorem Sz{f:Int}{a b:List Int}{c:Int}(h:aF (6,f,a,b,c)=true):aD (6,f,a,b,c)=iK (ca a b).2 (ca a b).1 []:=by unfold aD;rw[if_pos h];rfl
theorem SA{f:Int}{a b:List Int}{c:Int}(h:aF (7,f,a,b,c)=true):aD (7,f,a,b,c)=iK (cm f a).2 (cm f a).1 []:=by unfold aD;rw[if_pos h];rfl
theorem SC{f:Int}{a b:List Int}{c:Int}(h:aF (8,f,a,b,c)=true):aD (8,f,a,b,c)=iK (jq f a b) (dn f a b) []:=by unfold aD;rw[if_pos h];rfl
theorem SD{f:Int}{a b:List Int}{c:Int}(h:aF (9,f,a,b,c)=true):aD (9,f,a,b,c)=iK (b5 f a b).2 (b5 f a b).1 []:=by unfold aD;rw[if_pos h];rfl
theorem Rb{f:Int}{a b:List Int}{c:Int}(h:aF (10,f,a,b,c)=true):aD (10,f,a,b,c)=iK (bK f a b).2.2 (bK f a b).1 (bK f a b).2.1:=by unfold aD;rw[if_pos h];rfl
theorem Rc{f:Int}{a b:List Int}{c:Int}(h:aF (11,f,a,b,c)=true):aD (11,f,a,b,c)=iK (cM f a b c).2.2 (cM f a b c).1 [(cM f a b c).2.1]:=by unfold aD;rw[if_pos h];rfl
theorem OT(f:Int)(a b:List Int):iR f a b=dn f a b:=rfl
theorem PV{f:Int}{a b:List Int}(h:jq f a b=false):dn f a b=[]:=by unfold dn;rw[if_neg (by rw[h];decide)]
theorem OU{f:Int}{a b:List Int}(h:jq f a b=true):(dn f a b).length=b.length:=by unfold dn;rw[if_pos h,kz]
theorem Cu{f:Int}{a b:List Int}:jq f a b=true↔aL f a=true/\b.length<=40/\aw f b=true:=by
 unfold jq
 simp only[Bool.and_eq_true,decide_eq_true_eq]
 exact⟨fun h=>⟨h.1.1,h.1.2,h.2⟩,fun h=>⟨⟨h.1,h.2.1⟩,h.2.2⟩⟩
theorem Dj{f:Int}{a b:List Int}(h:¬(aL f a=true/\b.length<=40/\aw f b=true)):jq f a b=false:=by
 cases e:jq f a b
 ·rfl
 ·exact absurd (Cu.1 e) h
theorem HW{k f:Int}{a b:List Int}{c:Int}(h:aF (k,f,a,b,c)=true)(h1:¬k=1)(h2:¬k=2)(h3:¬k=3)(h4:¬k=4)(h5:¬k=5)(h6:¬k=6)(h7:¬k=7)(h8:¬k=8)(h9:¬k=9)(NN:¬k=10)(NO:¬k=11):False:=by
 have:=(uJ.1 h).1.1
 omega
theorem JJ :
 ∀(d:Int×Int×List Int×List Int×Int),Ty.wf nS d->True->True/\((!aF d)=true->((1:Int),[],[])=aD d)/\((!aF d)=false->(decide (d.1=(1:Int))=true->True/\(Ty.wf ai (iS d.2.1 d.2.2.1)->True/\((!aA d.2.1 d.2.2.1)=true->((2:Int),[],[])=aD d)/\((!aA d.2.1 d.2.2.1)=false->((0:Int),iS d.2.1 d.2.2.1,[])=aD d)))/\(decide (d.1=(1:Int))=false->(decide (d.1=(2:Int))=true->True/\(Ty.wf ai (fo d.2.1 d.2.2.1)->True/\((!aA d.2.1 d.2.2.1)=true->((2:Int),[],[])=aD d)/\((!aA d.2.1 d.2.2.1)=false->((0:Int),fo d.2.1 d.2.2.1,[])=aD d)))/\(decide (d.1=(2:Int))=false->(decide (d.1=(3:Int))=true->True/\(Ty.wf ai (jM d.2.1 d.2.2.1 d.2.2.2.1)->List.length [d.2.2.1,d.2.2.2.1]=(2:Nat)/\(Ty.wf bm (aE d.2.1 [d.2.2.1,d.2.2.2.1]).1/\Ty.wf Ty.bool (aE d.2.1 [d.2.2.1,d.2.2.2.1]).2->((!(aE d.2.1 [d.2.2.1,d.2.2.2.1]).2)=true->((2:Int),[],[])=aD d)/\((!(aE d.2.1 [d.2.2.1,d.2.2.2.1]).2)=false->((0:Int),jM d.2.1 d.2.2.1 d.2.2.2.1,[])=aD d))))/\(decide (d.1=(3:Int))=false->(decide (d.1=(4:Int))=true->True/\(Ty.wf ai (gq d.2.1 d.2.2.1 d.2.2.2.1)->List.length [d.2.2.1,d.2.2.2.1]=(2:Nat)/\(Ty.wf bm (aE d.2.1 [d.2.2.1,d.2.2.2.1]).1/\Ty.wf Ty.bool (aE d.2.1 [d.2.2.1,d.2.2.2.1]).2->((!(aE d.2.1 [d.2.2.1,d.2.2.2.1]).2)=true->((2:Int),[],[])=aD d)/\((!(aE d.2.1 [d.2.2.1,d.2.2.2.1]).2)=false->((0:Int),gq d.2.1 d.2.2.1 d.2.2.2.1,[])=aD d))))/\(decide (d.1=(4:Int))=false->(decide (d.1=(5:Int))=true->True/\(Ty.wf ai (c5 d.2.1 d.2.2.1 d.2.2.2.1).1/\Ty.wf Ty.bool (c5 d.2.1 d.2.2.1 d.2.2.2.1).2->((!(c5 d.2.1 d.2.2.1 d.2.2.2.1).2)=true->((2:Int),[],[])=aD d)/\((!(c5 d.2.1 d.2.2.1 d.2.2.2.1).2)=false->((0:Int),(c5 d.2.1 d.2.2.1 d.2.2.2.1).1,[])=aD d)))/\(decide (d.1=(5:Int))=false->(decide (d.1=(6:Int))=true->True/\(Ty.wf ai (ca d.2.2.1 d.2.2.2.1).1/\Ty.wf Ty.bool (ca d.2.2.1 d.2.2.2.1).2->((!(ca d.2.2.1 d.2.2.2.1).2)=true->((2:Int),[],[])=aD d)/\((!(ca d.2.2.1 d.2.2.2.1).2)=false->((0:Int),(ca d.2.2.1 d.2.2.2.1).1,[])=aD d)))/\(decide (d.1=(6:Int))=false->(decide (d.1=(7:Int))=true->True/\(Ty.wf ai (cm d.2.1 d.2.2.1).1/\Ty.wf Ty.bool (cm d.2.1 d.2.2.1).2->((!(cm d.2.1 d.2.2.1).2)=true->((2:Int),[],[])=aD d)/\((!(cm d.2.1 d.2.2.1).2)=false->((0:Int),(cm d.2.1 d.2.2.1).1,[])=aD d)))/\(decide (d.1=(7:Int))=false->(decide (d.1=(8:Int))=true->True/\(Ty.wf ai (iR d.2.1 d.2.2.1 d.2.2.2.1)->(decide ((d.2.2.2.1.length:Int)=(0:Int))=true->True/\(aL d.2.1 d.2.2.1=true->((0:Int),iR d.2.1 d.2.2.1 d.2.2.2.1,[])=aD d)/\(aL d.2.1 d.2.2.1=false->((!decide ((0:Int)<(↑(List.length (iR d.2.1 d.2.2.1 d.2.2.2.1)):Int)))=true->((2:Int),[],[])=aD d)/\((!decide ((0:Int)<(↑(List.length (iR d.2.1 d.2.2.1 d.2.2.2.1)):Int)))=false->((0:Int),iR d.2.1 d.2.2.1 d.2.2.2.1,[])=aD d)))/\(decide ((d.2.2.2.1.length:Int)=(0:Int))=false->((!decide ((0:Int)<(↑(List.length (iR d.2.1 d.2.2.1 d.2.2.2.1)):Int)))=true->((2:Int),[],[])=aD d)/\((!decide ((0:Int)<(↑(List.length (iR d.2.1 d.2.2.1 d.2.2.2.1)):Int)))=false->((0:Int),iR d.2.1 d.2.2.1 d.2.2.2.1,[])=aD d))))/\(decide (d.1=(8:Int))=false->(decide (d.1=(9:Int))=true->True/\(Ty.wf ai (b5 d.2.1 d.2.2.1 d.2.2.2.1).1/\Ty.wf Ty.bool (b5 d.2.1 d.2.2.1 d.2.2.2.1).2->((!(b5 d.2.1 d.2.2.1 d.2.2.2.1).2)=true->((2:Int),[],[])=aD d)/\((!(b5 d.2.1 d.2.2.1 d.2.2.2.1).2)=false->((0:Int),(b5 d.2.1 d.2.2.1 d.2.2.2.1).1,[])=aD d)))/\(decide (d.1=(9:Int))=false->(decide (d.1=(10:Int))=true->True/\(Ty.wf ai (bK d.2.1 d.2.2.1 d.2.2.2.1).1/\Ty.wf ai (bK d.2.1 d.2.2.1 d.2.2.2.1).2.1/\Ty.wf Ty.bool (bK d.2.1 d.2.2.1 d.2.2.2.1).2.2->((!(bK d.2.1 d.2.2.1 d.2.2.2.1).2.2)=true->((2:Int),[],[])=aD d)/\((!(bK d.2.1 d.2.2.1 d.2.2.2.1).2.2)=false->((0:Int),(bK d.2.1 d.2.2.1 d.2.2.2.1).1,(bK d.2.1 d.2.2.1 d.2.2.2.1).2.1)=aD d)))/\(decide (d.1=(10:Int))=false->(decide (d.1=(11:Int))=true->True/\(Ty.wf ai (cM d.2.1 d.2.2.1 d.2.2.2.1 d.2.2.2.2).1/\Ty.wf ah (cM d.2.1 d.2.2.1 d.2.2.2.1 d.2.2.2.2).2.1/\Ty.wf Ty.bool (cM d.2.1 d.2.2.1 d.2.2.2.1 d.2.2.2.2).2.2->((!(cM d.2.1 d.2.2.1 d.2.2.2.1 d.2.2.2.2).2.2)=true->((2:Int),[],[])=aD d)/\((!(cM d.2.1 d.2.2.1 d.2.2.2.1 d.2.2.2.2).2.2)=false->((0:Int),(cM d.2.1 d.2.2.1 d.2.2.2.1 d.2.2.2.2).1,[(cM d.2.1 d.2.2.1 d.2.2.2.1 d.2.2.2.2).2.1])=aD d)))/\(decide (d.1=(11:Int))=false->((0:Int),[],[])=aD d)))))))))))):=by
  intro (d:Int×Int×List Int×List Int×Int) hw hp
  obtain⟨k,f,a,b,c⟩:=d
  simp only[exists_const,forall_const,decide_eq_true_eq,decide_eq_false_iff_not,beq_iff_eq,sxS]
  rw[Nq,OT]
  refine⟨Of,fun hj=>⟨?_,fun h1=>⟨?_,fun h2=>⟨?_,fun h3=>⟨?_,fun h4=>⟨?_,fun h5=>⟨?_,fun h6=>⟨?_,fun h7=>⟨?_,fun h8=>⟨?_,fun h9=>⟨?_,fun NN=>⟨?_,fun NO=>(HW hj h1 h2 h3 h4 h5 h6 h7 h8 h9 NN NO).elim⟩⟩⟩⟩⟩⟩⟩⟩⟩⟩⟩⟩
  ·rintro rfl _;rw[Su hj];exact⟨fun h=>(fh h).symm,fun h=>(gf h).symm⟩
  ·rintro rfl _;rw[Sv hj];exact⟨fun h=>(fh h).symm,fun h=>(gf h).symm⟩
  ·rintro rfl _;rw[Sw hj];exact⟨rfl,fun _=>⟨fun h=>(fh h).symm,fun h=>(gf h).symm⟩⟩
  ·rintro rfl _;rw[Sx hj];exact⟨rfl,fun _=>⟨fun h=>(fh h).symm,fun h=>(gf h).symm⟩⟩
  ·rintro rfl _;rw[Sy hj];exact⟨fun h=>(fh h).symm,fun h=>(gf h).symm⟩
  ·rintro rfl _;rw[Sz hj];exact⟨fun h=>(fh h).symm,fun h=>(gf h).symm⟩
  ·rintro rfl _;rw[SA hj];exact⟨fun h=>(fh h).symm,fun h=>(gf h).symm⟩
  ·rintro rfl _
   rw[SC hj]
   cases e:jq f a b
   ·rw[PV e]
    have he:∀ x:jq f a b=true,False:=fun x=>by rw[e] at x;cases x
    refine⟨fun hb=>⟨fun hp=>(he (Cu.2 ⟨hp,by omega,?_⟩)).elim,fun _=>⟨fun _=>rfl,fun h=>by simp at h⟩⟩,fun hb=>⟨fun _=>rfl,fun h=>by simp at h⟩⟩
    have wC:b=[]:=List.eq_nil_of_length_eq_zero (by omega)
    rw[wC]
    exact fb (b6 hp).1 (by unfold ak;simp)
   ·rw[OU e]
    have hk:=Cu.1 e
    refine⟨fun hb=>⟨fun _=>rfl,fun h=>by rw[hk.1] at h;cases h⟩,fun hb=>⟨fun h=>by omega,fun _=>rfl⟩⟩
  ·rintro rfl _;rw[SD hj];exact⟨fun h=>(fh h).symm,fun h=>(gf h).symm⟩
  ·rintro rfl _;rw[Rb hj];exact⟨fun h=>(fh h).symm,fun h=>(gf h).symm⟩
  ·rintro rfl _;rw[Rc hj];exact⟨fun h=>(fh h).symm,fun h=>(gf h).symm⟩
theorem JW :
 ∀(d:Int×Int×List Int×List Int×Int),Ty.wf nS d->True->True/\((!aF d)=true->((1:Int),[],[])=aD d)/\((!aF d)=false->(decide (d.1=(1:Int))=true->True/\True/\(Ty.wf ai (iS d.2.1 d.2.2.1)->((!aA d.2.1 d.2.2.1)=true->((2:Int),[],[])=aD d)/\((!aA d.2.1 d.2.2.1)=false->((0:Int),iS d.2.1 d.2.2.1,[])=aD d)))/\(decide (d.1=(1:Int))=false->(decide (d.1=(2:Int))=true->True/\True/\(Ty.wf ai (fo d.2.1 d.2.2.1)->((!aA d.2.1 d.2.2.1)=true->((2:Int),[],[])=aD d)/\((!aA d.2.1 d.2.2.1)=false->((0:Int),fo d.2.1 d.2.2.1,[])=aD d)))/\(decide (d.1=(2:Int))=false->(decide (d.1=(3:Int))=true->True/\True/\(Ty.wf ai (jM d.2.1 d.2.2.1 d.2.2.2.1)->((!c9 d.2.1 d.2.2.1 d.2.2.2.1)=true->((2:Int),[],[])=aD d)/\((!c9 d.2.1 d.2.2.1 d.2.2.2.1)=false->((0:Int),jM d.2.1 d.2.2.1 d.2.2.2.1,[])=aD d)))/\(decide (d.1=(3:Int))=false->(decide (d.1=(4:Int))=true->True/\True/\(Ty.wf ai (gq d.2.1 d.2.2.1 d.2.2.2.1)->((!c9 d.2.1 d.2.2.1 d.2.2.2.1)=true->((2:Int),[],[])=aD d)/\((!c9 d.2.1 d.2.2.1 d.2.2.2.1)=false->((0:Int),gq d.2.1 d.2.2.1 d.2.2.2.1,[])=aD d)))/\(decide (d.1=(4:Int))=false->(decide (d.1=(5:Int))=true->True/\(Ty.wf ai (c5 d.2.1 d.2.2.1 d.2.2.2.1).1/\Ty.wf Ty.bool (c5 d.2.1 d.2.2.1 d.2.2.2.1).2->((!(c5 d.2.1 d.2.2.1 d.2.2.2.1).2)=true->((2:Int),[],[])=aD d)/\((!(c5 d.2.1 d.2.2.1 d.2.2.2.1).2)=false->((0:Int),(c5 d.2.1 d.2.2.1 d.2.2.2.1).1,[])=aD d)))/\(decide (d.1=(5:Int))=false->(decide (d.1=(6:Int))=true->True/\(Ty.wf ai (ca d.2.2.1 d.2.2.2.1).1/\Ty.wf Ty.bool (ca d.2.2.1 d.2.2.2.1).2->((!(ca d.2.2.1 d.2.2.2.1).2)=true->((2:Int),[],[])=aD d)/\((!(ca d.2.2.1 d.2.2.2.1).2)=false->((0:Int),(ca d.2.2.1 d.2.2.2.1).1,[])=aD d)))/\(decide (d.1=(6:Int))=false->(decide (d.1=(7:Int))=true->True/\(Ty.wf ai (cm d.2.1 d.2.2.1).1/\Ty.wf Ty.bool (cm d.2.1 d.2.2.1).2->((!(cm d.2.1 d.2.2.1).2)=true->((2:Int),[],[])=aD d)/\((!(cm d.2.1 d.2.2.1).2)=false->((0:Int),(cm d.2.1 d.2.2.1).1,[])=aD d)))/\(decide (d.1=(7:Int))=false->(decide (d.1=(8:Int))=true->True/\(aL d.2.1 d.2.2.1=true->(decide ((d.2.2.2.1.length:Int)<=(40:Int))=true->True/\True/\(Ty.wf ai (dn d.2.1 d.2.2.1 d.2.2.2.1)->((!aw d.2.1 d.2.2.2.1)=true->((2:Int),[],[])=aD d)/\((!aw d.2.1 d.2.2.2.1)=false->((0:Int),dn d.2.1 d.2.2.1 d.2.2.2.1,[])=aD d)))/\(decide ((d.2.2.2.1.length:Int)<=(40:Int))=false->True/\(Ty.wf ai (dn d.2.1 d.2.2.1 d.2.2.2.1)->((2:Int),[],[])=aD d)))/\(aL d.2.1 d.2.2.1=false->True/\(Ty.wf ai (dn d.2.1 d.2.2.1 d.2.2.2.1)->((2:Int),[],[])=aD d)))/\(decide (d.1=(8:Int))=false->(decide (d.1=(9:Int))=true->True/\(Ty.wf ai (b5 d.2.1 d.2.2.1 d.2.2.2.1).1/\Ty.wf Ty.bool (b5 d.2.1 d.2.2.1 d.2.2.2.1).2->((!(b5 d.2.1 d.2.2.1 d.2.2.2.1).2)=true->((2:Int),[],[])=aD d)/\((!(b5 d.2.1 d.2.2.1 d.2.2.2.1).2)=false->((0:Int),(b5 d.2.1 d.2.2.1 d.2.2.2.1).1,[])=aD d)))/\(decide (d.1=(9:Int))=false->(decide (d.1=(10:Int))=true->True/\(Ty.wf ai (bK d.2.1 d.2.2.1 d.2.2.2.1).1/\Ty.wf ai (bK d.2.1 d.2.2.1 d.2.2.2.1).2.1/\Ty.wf Ty.bool (bK d.2.1 d.2.2.1 d.2.2.2.1).2.2->((!(bK d.2.1 d.2.2.1 d.2.2.2.1).2.2)=true->((2:Int),[],[])=aD d)/\((!(bK d.2.1 d.2.2.1 d.2.2.2.1).2.2)=false->((0:Int),(bK d.2.1 d.2.2.1 d.2.2.2.1).1,(bK d.2.1 d.2.2.1 d.2.2.2.1).2.1)=aD d)))/\(decide (d.1=(10:Int))=false->(decide (d.1=(11:Int))=true->True/\(Ty.wf ai (cM d.2.1 d.2.2.1 d.2.2.2.1 d.2.2.2.2).1/\Ty.wf ah (cM d.2.1 d.2.2.1 d.2.2.2.1 d.2.2.2.2).2.1/\Ty.wf Ty.bool (cM d.2.1 d.2.2.1 d.2.2.2.1 d.2.2.2.2).2.2->((!(cM d.2.1 d.2.2.1 d.2.2.2.1 d.2.2.2.2).2.2)=true->((2:Int),[],[])=aD d)/\((!(cM d.2.1 d.2.2.1 d.2.2.2.1 d.2.2.2.2).2.2)=false->((0:Int),(cM d.2.1 d.2.2.1 d.2.2.2.1 d.2.2.2.2).1,[(cM d.2.1 d.2.2.1 d.2.2.2.1 d.2.2.2.2).2.1])=aD d)))/\(decide (d.1=(11:Int))=false->((0:Int),[],[])=aD d)))))))))))):=by
  intro (d:Int×Int×List Int×List Int×Int) hw hp
  obtain⟨k,f,a,b,c⟩:=d
  simp only[exists_const,forall_const,decide_eq_true_eq,decide_eq_false_iff_not,beq_iff_eq,sxS]
  refine⟨Of,fun hj=>⟨?_,fun h1=>⟨?_,fun h2=>⟨?_,fun h3=>⟨?_,fun h4=>⟨?_,fun h5=>⟨?_,fun h6=>⟨?_,fun h7=>⟨?_,fun h8=>⟨?_,fun h9=>⟨?_,fun NN=>⟨?_,fun NO=>(HW hj h1 h2 h3 h4 h5 h6 h7 h8 h9 NN NO).elim⟩⟩⟩⟩⟩⟩⟩⟩⟩⟩⟩⟩
  ·rintro rfl _;rw[Su hj];exact⟨fun h=>(fh h).symm,fun h=>(gf h).symm⟩
  ·rintro rfl _;rw[Sv hj];exact⟨fun h=>(fh h).symm,fun h=>(gf h).symm⟩
  ·rintro rfl _;rw[Sw hj];exact⟨fun h=>(fh h).symm,fun h=>(gf h).symm⟩
  ·rintro rfl _;rw[Sx hj];exact⟨fun h=>(fh h).symm,fun h=>(gf h).symm⟩
  ·rintro rfl _;rw[Sy hj];exact⟨fun h=>(fh h).symm,fun h=>(gf h).symm⟩
  ·rintro rfl _;rw[Sz hj];exact⟨fun h=>(fh h).symm,fun h=>(gf h).symm⟩
  ·rintro rfl _;rw[SA hj];exact⟨fun h=>(fh h).symm,fun h=>(gf h).symm⟩
  ·rintro rfl
   rw[SC hj]
   exact⟨fun hp=>⟨fun hl _=>⟨fun h=>(fh (Dj (by simp[h]))).symm,fun h=>(gf (Cu.2 ⟨hp,by omega,h⟩)).symm⟩,fun hl _=>(fh (Dj (by omega))).symm⟩,fun hp _=>(fh (Dj (by simp[hp]))).symm⟩
  ·rintro rfl _;rw[SD hj];exact⟨fun h=>(fh h).symm,fun h=>(gf h).symm⟩
  ·rintro rfl _;rw[Rb hj];exact⟨fun h=>(fh h).symm,fun h=>(gf h).symm⟩
  ·rintro rfl _;rw[Rc hj];exact⟨fun h=>(fh h).symm,fun h=>(gf h).symm⟩
theorem wx(p:Int)(b L:List Int)(i:Nat)(c:Int):L=cn p b L i c 0:=by
 refine List.ext_getElem (by rw[gZ]) fun t h1 h2=>?_
 have:=jo p b L i c 0 h1
 rw[if_neg (by omega),List.getD_eq_getElem?_getD,List.getD_eq_getElem?_getD,List.getElem?_eq_getElem h1,List.getElem?_eq_getElem h2] at this
 exact this.symm
theorem yp{p:Int}{b L:List Int}{i:Nat}{c:Int}{y:Nat}(h:i+y<L.length):(cn p b L i c y).set (i+y) (bd p ((cn p b L i c y).getD (i+y) 0) (mulM p c (b.getD y 0)))=cn p b L i c (y+1):=by
 rw[jo _ _ _ _ _ _ h,if_neg (by omega)]
 unfold cn
 rw[lC]
 refine cX (fun t _=>?_)
 by_cases ht:t=i+y
 ·subst ht
  rw[if_pos rfl,if_pos (by omega),Nat.add_sub_cancel_left]
 ·rw[if_neg ht]
  by_cases h2:i<=t/\t<i+y
  ·rw[if_pos h2,if_pos (by omega)]
  ·rw[if_neg h2,if_neg (by omega)]
theorem xf(p r:Int)(a b:List Int)(n:Nat):List.replicate n 0=eh p r a b n 0:=by
 rw[pD]
 exact cX (fun t _=>(if_neg (by omega)).symm)
theorem zT{p r:Int}{a b:List Int}{n k:Nat}(h:b.length+k<=a.length):(eh p r a b n k).set (a.length-b.length-k) (gB p r a b k)=eh p r a b n (k+1):=by
 unfold eh
 rw[lC]
 refine cX (fun t _=>?_)
 by_cases ht:t=a.length-b.length-k
 ·rw[if_pos ht,if_pos (by omega),show a.length-b.length-t=k by omega]
 ·rw[if_neg ht]
  by_cases h2:a.length-b.length<t+k/\t<=a.length-b.length
  ·rw[if_pos h2,if_pos (by omega)]
  ·rw[if_neg h2,if_neg (by omega)]
theorem Kk{f:Int}{a b:List Int}(ha:aL f a=true)(r:Int)(n:Nat)(h:a.length<b.length):(bz (eh (ab f) r a b n 0),bz a)=fx (ab f) a b:=by
 unfold fx
 rw[if_pos h,r5 (b6 ha).2.2.2,<-xf]
 congr 1
 have:bz (List.replicate n (0:Int))=bz []:=xK (fun t=>by
  rw[pD,lB]
  split<;>rfl)
 rw[this];rfl
theorem Fc{f:Int}{b:List Int}(hb:aL f b=true)(h:0<b.length):b.getD (b.length-1) 0%ab f≠0:=by
 obtain⟨hm,he,_,ht⟩:=b6 hb
 have hh:=dr (bu hm).1 he (b.length-1)
 unfold El at hh
 rw[Int.emod_eq_of_lt hh.1 hh.2]
 exact pI ht h
theorem Co :
 ∀(d:Int×List Int×List Int),Ty.wf ah d.1/\Ty.wf ai d.2.1/\Ty.wf ai d.2.2->aL d.1 d.2.1=true/\aL d.1 d.2.2=true/\d.2.2.length≠(0:Nat)->d.2.1.length<=(1048576:Nat)/\(Ty.wf ai d.2.1->(0:Nat)<=d.2.1.length/\((d.1=d.1/\ae d.2.1/\ae d.2.2/\aQ/\aQ/\(0:Int)=(↑(0:Nat):Int))/\ae d.2.1/\[]=List.replicate (0:Nat) (0:Ty.den ah))/\∀(x:Nat),x<=d.2.1.length->(decide ((x:Int)<(d.2.1.length:Int))=true->(List.length (List.replicate x (0:Ty.den ah))+List.length [(0:Int)])*(8:Nat)<=(140737488355328:Nat)/\∃(x':Nat),x'<=d.2.1.length/\d.2.1.length-x'<d.2.1.length-x/\(d.1=d.1/\ae d.2.1/\ae d.2.2/\aQ/\aQ/\i64.wrap ((x:Int)+(1:Int))=(x':Int))/\ae d.2.1/\List.replicate x (0:Ty.den ah)++[(0:Int)]=List.replicate x' (0:Ty.den ah))/\(decide ((x:Int)<(d.2.1.length:Int))=false->((0:Int)<=i64.wrap ((d.2.2.length:Int)-(1:Int))/\i64.wrap ((d.2.2.length:Int)-(1:Int))<(d.2.2.length:Int))/\True/\(Ty.wf ah (a_ d.1 (d.2.2.getD (Int.toNat (i64.wrap ((d.2.2.length:Int)-(1:Int)))) (0:Int)) (-1:Int))->(0:Nat)<=d.2.1.length+(1:Nat)-d.2.2.length/\((d.1=d.1/\ae d.2.1/\ae d.2.2/\aQ/\aQ/\ae (x:Int)/\ae (a_ d.1 (d.2.2.getD (Int.toNat (i64.wrap ((d.2.2.length:Int)-(1:Int)))) (0:Int)) (-1:Int))/\(d.2.1.length:Int)=(d.2.1.length:Int)-(↑(0:Nat):Int))/\d.2.1=bL (ab d.1) (aY (ab d.1) d.2.2) d.2.1 d.2.2 (0:Nat)/\List.replicate x (0:Ty.den ah)=eh (ab d.1) (aY (ab d.1) d.2.2) d.2.1 d.2.2 d.2.1.length (0:Nat))/\∀(x_1:Nat),x_1<=d.2.1.length+(1:Nat)-d.2.2.length->(decide ((d.2.2.length:Int)<=(d.2.1.length:Int)-(x_1:Int))=true->((0:Int)<=i64.wrap ((d.2.1.length:Int)-(x_1:Int)-(1:Int))/\i64.wrap ((d.2.1.length:Int)-(x_1:Int)-(1:Int))<(↑(List.length (bL (ab d.1) (aY (ab d.1) d.2.2) d.2.1 d.2.2 x_1)):Int))/\True/\(Ty.wf ah (b7 d.1 (List.getD (bL (ab d.1) (aY (ab d.1) d.2.2) d.2.1 d.2.2 x_1) (Int.toNat (i64.wrap ((d.2.1.length:Int)-(x_1:Int)-(1:Int)))) (0:Int)) (a_ d.1 (d.2.2.getD (Int.toNat (i64.wrap ((d.2.2.length:Int)-(1:Int)))) (0:Int)) (-1:Int)))->((0:Int)<=i64.wrap ((d.2.1.length:Int)-(x_1:Int)-(d.2.2.length:Int))/\i64.wrap ((d.2.1.length:Int)-(x_1:Int)-(d.2.2.length:Int))<(↑(List.length (eh (ab d.1) (aY (ab d.1) d.2.2) d.2.1 d.2.2 d.2.1.length x_1)):Int))/\(0:Nat)<=d.2.2.length/\((d.1=d.1/\ae d.2.1/\ae d.2.2/\aQ/\aQ/\ae (x:Int)/\ae (a_ d.1 (d.2.2.getD (Int.toNat (i64.wrap ((d.2.2.length:Int)-(1:Int)))) (0:Int)) (-1:Int))/\ae ((d.2.1.length:Int)-(x_1:Int))/\ae (b7 d.1 (List.getD (bL (ab d.1) (aY (ab d.1) d.2.2) d.2.1 d.2.2 x_1) (Int.toNat (i64.wrap ((d.2.1.length:Int)-(x_1:Int)-(1:Int)))) (0:Int)) (a_ d.1 (d.2.2.getD (Int.toNat (i64.wrap ((d.2.2.length:Int)-(1:Int)))) (0:Int)) (-1:Int)))/\(0:Int)=(↑(0:Nat):Int))/\bL (ab d.1) (aY (ab d.1) d.2.2) d.2.1 d.2.2 x_1=cn (ab d.1) d.2.2 (bL (ab d.1) (aY (ab d.1) d.2.2) d.2.1 d.2.2 x_1) (d.2.1.length-d.2.2.length-x_1) (gB (ab d.1) (aY (ab d.1) d.2.2) d.2.1 d.2.2 x_1) (0:Nat)/\List.set (eh (ab d.1) (aY (ab d.1) d.2.2) d.2.1 d.2.2 d.2.1.length x_1) (Int.toNat (i64.wrap ((d.2.1.length:Int)-(x_1:Int)-(d.2.2.length:Int)))) (b7 d.1 (List.getD (bL (ab d.1) (aY (ab d.1) d.2.2) d.2.1 d.2.2 x_1) (Int.toNat (i64.wrap ((d.2.1.length:Int)-(x_1:Int)-(1:Int)))) (0:Int)) (a_ d.1 (d.2.2.getD (Int.toNat (i64.wrap ((d.2.2.length:Int)-(1:Int)))) (0:Int)) (-1:Int)))=eh (ab d.1) (aY (ab d.1) d.2.2) d.2.1 d.2.2 d.2.1.length (x_1+(1:Nat)))/\∀(x_2:Nat),x_2<=d.2.2.length->(decide ((x_2:Int)<(d.2.2.length:Int))=true->((0:Int)<=i64.wrap (i64.wrap ((d.2.1.length:Int)-(x_1:Int)-(d.2.2.length:Int))+(x_2:Int))/\i64.wrap (i64.wrap ((d.2.1.length:Int)-(x_1:Int)-(d.2.2.length:Int))+(x_2:Int))<(↑(List.length (cn (ab d.1) d.2.2 (bL (ab d.1) (aY (ab d.1) d.2.2) d.2.1 d.2.2 x_1) (d.2.1.length-d.2.2.length-x_1) (gB (ab d.1) (aY (ab d.1) d.2.2) d.2.1 d.2.2 x_1) x_2)):Int))/\((0:Int)<=(x_2:Int)/\(x_2:Int)<(d.2.2.length:Int))/\True/\True/\((0:Int)<=i64.wrap (i64.wrap ((d.2.1.length:Int)-(x_1:Int)-(d.2.2.length:Int))+(x_2:Int))/\i64.wrap (i64.wrap ((d.2.1.length:Int)-(x_1:Int)-(d.2.2.length:Int))+(x_2:Int))<(↑(List.length (cn (ab d.1) d.2.2 (bL (ab d.1) (aY (ab d.1) d.2.2) d.2.1 d.2.2 x_1) (d.2.1.length-d.2.2.length-x_1) (gB (ab d.1) (aY (ab d.1) d.2.2) d.2.1 d.2.2 x_1) x_2)):Int))/\(Ty.wf ah (fA d.1 (List.getD (cn (ab d.1) d.2.2 (bL (ab d.1) (aY (ab d.1) d.2.2) d.2.1 d.2.2 x_1) (d.2.1.length-d.2.2.length-x_1) (gB (ab d.1) (aY (ab d.1) d.2.2) d.2.1 d.2.2 x_1) x_2) (Int.toNat (i64.wrap (i64.wrap ((d.2.1.length:Int)-(x_1:Int)-(d.2.2.length:Int))+(x_2:Int)))) (0:Int)) (b7 d.1 (b7 d.1 (List.getD (bL (ab d.1) (aY (ab d.1) d.2.2) d.2.1 d.2.2 x_1) (Int.toNat (i64.wrap ((d.2.1.length:Int)-(x_1:Int)-(1:Int)))) (0:Int)) (a_ d.1 (d.2.2.getD (Int.toNat (i64.wrap ((d.2.2.length:Int)-(1:Int)))) (0:Int)) (-1:Int))) (d.2.2.getD ((x_2:Int).toNat) (0:Int))))->Ty.wf ah (b7 d.1 (b7 d.1 (List.getD (bL (ab d.1) (aY (ab d.1) d.2.2) d.2.1 d.2.2 x_1) (Int.toNat (i64.wrap ((d.2.1.length:Int)-(x_1:Int)-(1:Int)))) (0:Int)) (a_ d.1 (d.2.2.getD (Int.toNat (i64.wrap ((d.2.2.length:Int)-(1:Int)))) (0:Int)) (-1:Int))) (d.2.2.getD ((x_2:Int).toNat) (0:Int)))->∃(x':Nat),x'<=d.2.2.length/\d.2.2.length-x'<d.2.2.length-x_2/\(d.1=d.1/\ae d.2.1/\ae d.2.2/\aQ/\aQ/\ae (x:Int)/\ae (a_ d.1 (d.2.2.getD (Int.toNat (i64.wrap ((d.2.2.length:Int)-(1:Int)))) (0:Int)) (-1:Int))/\ae ((d.2.1.length:Int)-(x_1:Int))/\ae (b7 d.1 (List.getD (bL (ab d.1) (aY (ab d.1) d.2.2) d.2.1 d.2.2 x_1) (Int.toNat (i64.wrap ((d.2.1.length:Int)-(x_1:Int)-(1:Int)))) (0:Int)) (a_ d.1 (d.2.2.getD (Int.toNat (i64.wrap ((d.2.2.length:Int)-(1:Int)))) (0:Int)) (-1:Int)))/\i64.wrap ((x_2:Int)+(1:Int))=(x':Int))/\List.set (cn (ab d.1) d.2.2 (bL (ab d.1) (aY (ab d.1) d.2.2) d.2.1 d.2.2 x_1) (d.2.1.length-d.2.2.length-x_1) (gB (ab d.1) (aY (ab d.1) d.2.2) d.2.1 d.2.2 x_1) x_2) (Int.toNat (i64.wrap (i64.wrap ((d.2.1.length:Int)-(x_1:Int)-(d.2.2.length:Int))+(x_2:Int)))) (fA d.1 (List.getD (cn (ab d.1) d.2.2 (bL (ab d.1) (aY (ab d.1) d.2.2) d.2.1 d.2.2 x_1) (d.2.1.length-d.2.2.length-x_1) (gB (ab d.1) (aY (ab d.1) d.2.2) d.2.1 d.2.2 x_1) x_2) (Int.toNat (i64.wrap (i64.wrap ((d.2.1.length:Int)-(x_1:Int)-(d.2.2.length:Int))+(x_2:Int)))) (0:Int)) (b7 d.1 (b7 d.1 (List.getD (bL (ab d.1) (aY (ab d.1) d.2.2) d.2.1 d.2.2 x_1) (Int.toNat (i64.wrap ((d.2.1.length:Int)-(x_1:Int)-(1:Int)))) (0:Int)) (a_ d.1 (d.2.2.getD (Int.toNat (i64.wrap ((d.2.2.length:Int)-(1:Int)))) (0:Int)) (-1:Int))) (d.2.2.getD ((x_2:Int).toNat) (0:Int))))=cn (ab d.1) d.2.2 (bL (ab d.1) (aY (ab d.1) d.2.2) d.2.1 d.2.2 x_1) (d.2.1.length-d.2.2.length-x_1) (gB (ab d.1) (aY (ab d.1) d.2.2) d.2.1 d.2.2 x_1) x'/\ae (eh (ab d.1) (aY (ab d.1) d.2.2) d.2.1 d.2.2 d.2.1.length (x_1+(1:Nat)))))/\(decide ((x_2:Int)<(d.2.2.length:Int))=false->∃(x':Nat),x'<=d.2.1.length+(1:Nat)-d.2.2.length/\d.2.1.length+(1:Nat)-d.2.2.length-x'<d.2.1.length+(1:Nat)-d.2.2.length-x_1/\(d.1=d.1/\ae d.2.1/\ae d.2.2/\aQ/\aQ/\ae (x:Int)/\ae (a_ d.1 (d.2.2.getD (Int.toNat (i64.wrap ((d.2.2.length:Int)-(1:Int)))) (0:Int)) (-1:Int))/\i64.wrap ((d.2.1.length:Int)-(x_1:Int)-(1:Int))=(d.2.1.length:Int)-(x':Int))/\cn (ab d.1) d.2.2 (bL (ab d.1) (aY (ab d.1) d.2.2) d.2.1 d.2.2 x_1) (d.2.1.length-d.2.2.length-x_1) (gB (ab d.1) (aY (ab d.1) d.2.2) d.2.1 d.2.2 x_1) x_2=bL (ab d.1) (aY (ab d.1) d.2.2) d.2.1 d.2.2 x'/\eh (ab d.1) (aY (ab d.1) d.2.2) d.2.1 d.2.2 d.2.1.length (x_1+(1:Nat))=eh (ab d.1) (aY (ab d.1) d.2.2) d.2.1 d.2.2 d.2.1.length x')))/\(decide ((d.2.2.length:Int)<=(d.2.1.length:Int)-(x_1:Int))=false->List.length (eh (ab d.1) (aY (ab d.1) d.2.2) d.2.1 d.2.2 d.2.1.length x_1)<=(1048576:Nat)/\(Ty.wf ai (bz (eh (ab d.1) (aY (ab d.1) d.2.2) d.2.1 d.2.2 d.2.1.length x_1))->List.length (bL (ab d.1) (aY (ab d.1) d.2.2) d.2.1 d.2.2 x_1)<=(1048576:Nat)/\(Ty.wf ai (bz (bL (ab d.1) (aY (ab d.1) d.2.2) d.2.1 d.2.2 x_1))->(bz (eh (ab d.1) (aY (ab d.1) d.2.2) d.2.1 d.2.2 d.2.1.length x_1),bz (bL (ab d.1) (aY (ab d.1) d.2.2) d.2.1 d.2.2 x_1))=fx (ab d.1) d.2.1 d.2.2)))))):=by
  intro (d:Int×List Int×List Int) hw hp
  obtain⟨f,a,b⟩:=d
  replace hp:aL f a=true/\aL f b=true/\b.length≠0:=hp
  simp only[exists_const,forall_const,decide_eq_true_eq,decide_eq_false_iff_not,beq_iff_eq,sxS]
  obtain⟨ha,hb,wC⟩:=hp
  obtain⟨hm,lQ,Qk,_⟩:=b6 ha
  obtain⟨_,ic,yI,_⟩:=b6 hb
  have hq:=(bu hm).1
  have N_:i64.wrap ((b.length:Int)-1)=((b.length-1:Nat):Int):=by rw[wrap_small (by omega)];omega
  simp only[N_,Int.toNat_natCast,jn,rb,gZ]
  have hz:a_ f (b.getD (b.length-1) 0) (-1)=aY (ab f) b:=vJ hm (Fc hb (by omega))
  rw[hz]
  refine⟨by omega,fun _=>⟨by omega,⟨rfl,rfl⟩,fun x hx=>⟨fun h1=>⟨by simp only[List.length_replicate,List.length_cons,List.length_nil];omega,x+1,by omega,by omega,aC (by omega),List.replicate_succ'.symm⟩,fun h1=>⟨⟨by omega,by omega⟩,fun _=>⟨by omega,⟨by omega,rfl,by rw[show x=a.length by omega];exact xf _ _ _ _ _⟩,fun k hk=>⟨fun h2=>?_,fun h2=>?_⟩⟩⟩⟩⟩⟩
  ·have lx:i64.wrap ((a.length:Int)-(k:Int)-1)=((a.length-1-k:Nat):Int):=by rw[wrap_small (by omega)];omega
   have nd:i64.wrap ((a.length:Int)-(k:Int)-(b.length:Int))=((a.length-b.length-k:Nat):Int):=by rw[wrap_small (by omega)];omega
   have hC:b7 f ((bL (ab f) (aY (ab f) b) a b k).getD (a.length-1-k) 0) (aY (ab f) b)=gB (ab f) (aY (ab f) b) a b k:=by rw[iv hm];rfl
   rw[lx,nd]
   simp only[Int.toNat_natCast]
   rw[hC]
   refine⟨⟨by omega,by omega⟩,fun _=>⟨⟨by omega,by omega⟩,by omega,⟨rfl,wx _ _ _ _ _,zT (by omega)⟩,fun y hy=>⟨fun h3=>?_,fun h3=>?_⟩⟩⟩
   ·have QL:i64.wrap (((a.length-b.length-k:Nat):Int)+(y:Int))=((a.length-b.length-k+y:Nat):Int):=by rw[wrap_small (by omega)];omega
    rw[QL,Int.toNat_natCast]
    refine⟨⟨by omega,by omega⟩,⟨by omega,by omega⟩,⟨by omega,by omega⟩,fun _ _=>⟨y+1,by omega,by omega,aC (by omega),?_⟩⟩
    rw[rT hm,iv hm]
    exact yp (by rw[jn];omega)
   ·refine⟨k+1,by omega,by omega,by omega,?_,rfl⟩
    rw[show y=b.length by omega];rfl
  ·refine⟨by omega,fun _=>⟨by omega,fun _=>?_⟩⟩
   rcases Nat.lt_or_ge a.length b.length with h3|h3
   ·rw[show k=0 by omega]
    exact Kk ha _ _ h3
   ·rw[show k=a.length-b.length+1 by omega]
    exact My hm ha (Fc hb (by omega)) (by omega) h3
theorem Kl{p:Int}(hp:an p){L:List Int}(hL:∀ t,El p (L.getD t 0))(b:List Int)(i:Nat)(c:Int)(j t:Nat):El p ((cn p b L i c j).getD t 0):=by
 rcases Nat.lt_or_ge t L.length with ht|ht
 ·rw[jo _ _ _ _ _ _ ht]
  split
  ·exact iq hp _ _
  ·exact hL t
 ·rw[rm (by rw[gZ];exact ht)]
  exact ep hp
theorem Mz{p r:Int}(hp:an p){a b:List Int}(ha:ak p a=true){k:Nat}(h:gB p r a b k=0):bL p r a b k=bL p r a b (k+1):=by
 show _=cn p b (bL p r a b k) (a.length-b.length-k) (gB p r a b k) b.length
 rw[h]
 have iH:=yo (r:=r) (b:=b) hp ha k
 generalize bL p r a b k=L at *
 refine List.ext_getElem (by rw[gZ]) fun t h1 h2=>?_
 have:=jo p b L (a.length-b.length-k) 0 b.length h1
 have e:(if a.length-b.length-k<=t/\t<a.length-b.length-k+b.length then bd p (L.getD t 0) (mulM p 0 (b.getD (t-(a.length-b.length-k)) 0)) else L.getD t 0)=L.getD t 0:=by
  split
  ·have hh:=iH t
   unfold El at hh
   unfold bd mulM
   rw[Int.zero_mul,Int.zero_emod,Int.sub_zero,Int.emod_eq_of_lt hh.1 hh.2]
  ·rfl
 rw[e,List.getD_eq_getElem?_getD,List.getD_eq_getElem?_getD,List.getElem?_eq_getElem h1,List.getElem?_eq_getElem h2] at this
 exact this.symm
theorem Gv :
 ∀(d:(Int×Int×Int)×List Int×List Int),Ty.wf bm d.1/\Ty.wf ai d.2.1/\Ty.wf ai d.2.2->Ig d.1.1 d.2.1 d.2.2->((0:Nat)+d.2.1.length)*(8:Nat)<=(140737488355328:Nat)/\(decide ((d.2.1.length:Int)<(d.2.2.length:Int))=true->([],[]++d.2.1)=fx d.1.1 d.2.1 d.2.2)/\(decide ((d.2.1.length:Int)<(d.2.2.length:Int))=false->((0:Int)<=i64.wrap (i64.wrap ((d.2.1.length:Int)-(d.2.2.length:Int))+(1:Int))/\i64.wrap (i64.wrap ((d.2.1.length:Int)-(d.2.2.length:Int))+(1:Int))<=i64.wrap (i64.wrap ((d.2.1.length:Int)-(d.2.2.length:Int))+(1:Int))/\i64.wrap (i64.wrap ((d.2.1.length:Int)-(d.2.2.length:Int))+(1:Int))*(↑(8:Nat):Int)<=(140737488355328:Int))/\((0:Int)<=i64.wrap ((d.2.2.length:Int)-(1:Int))/\i64.wrap ((d.2.2.length:Int)-(1:Int))<(d.2.2.length:Int))/\(an d.1.1/\El d.1.1 (d.2.2.getD (Int.toNat (i64.wrap ((d.2.2.length:Int)-(1:Int)))) (0:Int)))/\(Ty.wf ah (aR d.1.1 (d.2.2.getD (Int.toNat (i64.wrap ((d.2.2.length:Int)-(1:Int)))) (0:Int)))->(0:Nat)<=d.2.1.length-d.2.2.length+(1:Nat)/\(((ae d.1.1/\ae d.1.2.1/\ae d.1.2.2)/\ae d.2.1/\ae d.2.2/\aQ/\aQ/\ae (aR d.1.1 (d.2.2.getD (Int.toNat (i64.wrap ((d.2.2.length:Int)-(1:Int)))) (0:Int)))/\i64.wrap ((↑(List.length (List.replicate (Int.toNat (i64.wrap (i64.wrap ((d.2.1.length:Int)-(d.2.2.length:Int))+(1:Int)))) (0:Int))):Int)-(1:Int))=(d.2.1.length:Int)-(d.2.2.length:Int)-(↑(0:Nat):Int))/\(ae d.1.1/\ae d.1.2.1/\ae d.1.2.2)/\[]++d.2.1=bL d.1.1 (aY d.1.1 d.2.2) d.2.1 d.2.2 (0:Nat)/\List.replicate (Int.toNat (i64.wrap (i64.wrap ((d.2.1.length:Int)-(d.2.2.length:Int))+(1:Int)))) (0:Int)=eh d.1.1 (aY d.1.1 d.2.2) d.2.1 d.2.2 (d.2.1.length-d.2.2.length+(1:Nat)) (0:Nat))/\∀(x:Nat),x<=d.2.1.length-d.2.2.length+(1:Nat)->(decide ((0:Int)<=(d.2.1.length:Int)-(d.2.2.length:Int)-(x:Int))=true->((0:Int)<=i64.wrap (i64.wrap ((d.2.1.length:Int)-(d.2.2.length:Int)-(x:Int)+(d.2.2.length:Int))-(1:Int))/\i64.wrap (i64.wrap ((d.2.1.length:Int)-(d.2.2.length:Int)-(x:Int)+(d.2.2.length:Int))-(1:Int))<(↑(List.length (bL d.1.1 (aY d.1.1 d.2.2) d.2.1 d.2.2 x)):Int))/\(an d.1.1/\El d.1.1 (List.getD (bL d.1.1 (aY d.1.1 d.2.2) d.2.1 d.2.2 x) (Int.toNat (i64.wrap (i64.wrap ((d.2.1.length:Int)-(d.2.2.length:Int)-(x:Int)+(d.2.2.length:Int))-(1:Int)))) (0:Int))/\El d.1.1 (aR d.1.1 (d.2.2.getD (Int.toNat (i64.wrap ((d.2.2.length:Int)-(1:Int)))) (0:Int))))/\(Ty.wf ah (mulM d.1.1 (List.getD (bL d.1.1 (aY d.1.1 d.2.2) d.2.1 d.2.2 x) (Int.toNat (i64.wrap (i64.wrap ((d.2.1.length:Int)-(d.2.2.length:Int)-(x:Int)+(d.2.2.length:Int))-(1:Int)))) (0:Int)) (aR d.1.1 (d.2.2.getD (Int.toNat (i64.wrap ((d.2.2.length:Int)-(1:Int)))) (0:Int))))->((0:Int)<=(d.2.1.length:Int)-(d.2.2.length:Int)-(x:Int)/\(d.2.1.length:Int)-(d.2.2.length:Int)-(x:Int)<(↑(List.length (eh d.1.1 (aY d.1.1 d.2.2) d.2.1 d.2.2 (d.2.1.length-d.2.2.length+(1:Nat)) x)):Int))/\(decide (mulM d.1.1 (List.getD (bL d.1.1 (aY d.1.1 d.2.2) d.2.1 d.2.2 x) (Int.toNat (i64.wrap (i64.wrap ((d.2.1.length:Int)-(d.2.2.length:Int)-(x:Int)+(d.2.2.length:Int))-(1:Int)))) (0:Int)) (aR d.1.1 (d.2.2.getD (Int.toNat (i64.wrap ((d.2.2.length:Int)-(1:Int)))) (0:Int)))=(0:Int))=true->∃(x':Nat),x'<=d.2.1.length-d.2.2.length+(1:Nat)/\d.2.1.length-d.2.2.length+(1:Nat)-x'<d.2.1.length-d.2.2.length+(1:Nat)-x/\((ae d.1.1/\ae d.1.2.1/\ae d.1.2.2)/\ae d.2.1/\ae d.2.2/\aQ/\aQ/\ae (aR d.1.1 (d.2.2.getD (Int.toNat (i64.wrap ((d.2.2.length:Int)-(1:Int)))) (0:Int)))/\i64.wrap ((d.2.1.length:Int)-(d.2.2.length:Int)-(x:Int)-(1:Int))=(d.2.1.length:Int)-(d.2.2.length:Int)-(x':Int))/\(ae d.1.1/\ae d.1.2.1/\ae d.1.2.2)/\bL d.1.1 (aY d.1.1 d.2.2) d.2.1 d.2.2 x=bL d.1.1 (aY d.1.1 d.2.2) d.2.1 d.2.2 x'/\List.set (eh d.1.1 (aY d.1.1 d.2.2) d.2.1 d.2.2 (d.2.1.length-d.2.2.length+(1:Nat)) x) (Int.toNat ((d.2.1.length:Int)-(d.2.2.length:Int)-(x:Int))) (mulM d.1.1 (List.getD (bL d.1.1 (aY d.1.1 d.2.2) d.2.1 d.2.2 x) (Int.toNat (i64.wrap (i64.wrap ((d.2.1.length:Int)-(d.2.2.length:Int)-(x:Int)+(d.2.2.length:Int))-(1:Int)))) (0:Int)) (aR d.1.1 (d.2.2.getD (Int.toNat (i64.wrap ((d.2.2.length:Int)-(1:Int)))) (0:Int))))=eh d.1.1 (aY d.1.1 d.2.2) d.2.1 d.2.2 (d.2.1.length-d.2.2.length+(1:Nat)) x')/\(decide (mulM d.1.1 (List.getD (bL d.1.1 (aY d.1.1 d.2.2) d.2.1 d.2.2 x) (Int.toNat (i64.wrap (i64.wrap ((d.2.1.length:Int)-(d.2.2.length:Int)-(x:Int)+(d.2.2.length:Int))-(1:Int)))) (0:Int)) (aR d.1.1 (d.2.2.getD (Int.toNat (i64.wrap ((d.2.2.length:Int)-(1:Int)))) (0:Int)))=(0:Int))=false->(0:Nat)<=d.2.2.length/\(((ae d.1.1/\ae d.1.2.1/\ae d.1.2.2)/\ae d.2.1/\ae d.2.2/\aQ/\aQ/\ae (aR d.1.1 (d.2.2.getD (Int.toNat (i64.wrap ((d.2.2.length:Int)-(1:Int)))) (0:Int)))/\ae ((d.2.1.length:Int)-(d.2.2.length:Int)-(x:Int))/\ae (mulM d.1.1 (List.getD (bL d.1.1 (aY d.1.1 d.2.2) d.2.1 d.2.2 x) (Int.toNat (i64.wrap (i64.wrap ((d.2.1.length:Int)-(d.2.2.length:Int)-(x:Int)+(d.2.2.length:Int))-(1:Int)))) (0:Int)) (aR d.1.1 (d.2.2.getD (Int.toNat (i64.wrap ((d.2.2.length:Int)-(1:Int)))) (0:Int))))/\ae d.2.2/\ae (d.2.2.length:Int)/\(0:Int)=(↑(0:Nat):Int))/\(ae d.1.1/\ae d.1.2.1/\ae d.1.2.2)/\bL d.1.1 (aY d.1.1 d.2.2) d.2.1 d.2.2 x=cn d.1.1 d.2.2 (bL d.1.1 (aY d.1.1 d.2.2) d.2.1 d.2.2 x) (d.2.1.length-d.2.2.length-x) (gB d.1.1 (aY d.1.1 d.2.2) d.2.1 d.2.2 x) (0:Nat)/\List.set (eh d.1.1 (aY d.1.1 d.2.2) d.2.1 d.2.2 (d.2.1.length-d.2.2.length+(1:Nat)) x) (Int.toNat ((d.2.1.length:Int)-(d.2.2.length:Int)-(x:Int))) (mulM d.1.1 (List.getD (bL d.1.1 (aY d.1.1 d.2.2) d.2.1 d.2.2 x) (Int.toNat (i64.wrap (i64.wrap ((d.2.1.length:Int)-(d.2.2.length:Int)-(x:Int)+(d.2.2.length:Int))-(1:Int)))) (0:Int)) (aR d.1.1 (d.2.2.getD (Int.toNat (i64.wrap ((d.2.2.length:Int)-(1:Int)))) (0:Int))))=eh d.1.1 (aY d.1.1 d.2.2) d.2.1 d.2.2 (d.2.1.length-d.2.2.length+(1:Nat)) (x+(1:Nat)))/\∀(x_1:Nat),x_1<=d.2.2.length->(decide ((x_1:Int)<(d.2.2.length:Int))=true->((0:Int)<=(x_1:Int)/\(x_1:Int)<(d.2.2.length:Int))/\((0:Int)<=i64.wrap ((d.2.1.length:Int)-(d.2.2.length:Int)-(x:Int)+(x_1:Int))/\i64.wrap ((d.2.1.length:Int)-(d.2.2.length:Int)-(x:Int)+(x_1:Int))<(↑(List.length (cn d.1.1 d.2.2 (bL d.1.1 (aY d.1.1 d.2.2) d.2.1 d.2.2 x) (d.2.1.length-d.2.2.length-x) (gB d.1.1 (aY d.1.1 d.2.2) d.2.1 d.2.2 x) x_1)):Int))/\(an d.1.1/\El d.1.1 (mulM d.1.1 (List.getD (bL d.1.1 (aY d.1.1 d.2.2) d.2.1 d.2.2 x) (Int.toNat (i64.wrap (i64.wrap ((d.2.1.length:Int)-(d.2.2.length:Int)-(x:Int)+(d.2.2.length:Int))-(1:Int)))) (0:Int)) (aR d.1.1 (d.2.2.getD (Int.toNat (i64.wrap ((d.2.2.length:Int)-(1:Int)))) (0:Int))))/\El d.1.1 (d.2.2.getD ((x_1:Int).toNat) (0:Int)))/\(an d.1.1/\El d.1.1 (List.getD (cn d.1.1 d.2.2 (bL d.1.1 (aY d.1.1 d.2.2) d.2.1 d.2.2 x) (d.2.1.length-d.2.2.length-x) (gB d.1.1 (aY d.1.1 d.2.2) d.2.1 d.2.2 x) x_1) (Int.toNat (i64.wrap ((d.2.1.length:Int)-(d.2.2.length:Int)-(x:Int)+(x_1:Int)))) (0:Int))/\El d.1.1 (mulM d.1.1 (mulM d.1.1 (List.getD (bL d.1.1 (aY d.1.1 d.2.2) d.2.1 d.2.2 x) (Int.toNat (i64.wrap (i64.wrap ((d.2.1.length:Int)-(d.2.2.length:Int)-(x:Int)+(d.2.2.length:Int))-(1:Int)))) (0:Int)) (aR d.1.1 (d.2.2.getD (Int.toNat (i64.wrap ((d.2.2.length:Int)-(1:Int)))) (0:Int)))) (d.2.2.getD ((x_1:Int).toNat) (0:Int))))/\((0:Int)<=i64.wrap ((d.2.1.length:Int)-(d.2.2.length:Int)-(x:Int)+(x_1:Int))/\i64.wrap ((d.2.1.length:Int)-(d.2.2.length:Int)-(x:Int)+(x_1:Int))<(↑(List.length (cn d.1.1 d.2.2 (bL d.1.1 (aY d.1.1 d.2.2) d.2.1 d.2.2 x) (d.2.1.length-d.2.2.length-x) (gB d.1.1 (aY d.1.1 d.2.2) d.2.1 d.2.2 x) x_1)):Int))/\(Ty.wf ah (bd d.1.1 (List.getD (cn d.1.1 d.2.2 (bL d.1.1 (aY d.1.1 d.2.2) d.2.1 d.2.2 x) (d.2.1.length-d.2.2.length-x) (gB d.1.1 (aY d.1.1 d.2.2) d.2.1 d.2.2 x) x_1) (Int.toNat (i64.wrap ((d.2.1.length:Int)-(d.2.2.length:Int)-(x:Int)+(x_1:Int)))) (0:Int)) (mulM d.1.1 (mulM d.1.1 (List.getD (bL d.1.1 (aY d.1.1 d.2.2) d.2.1 d.2.2 x) (Int.toNat (i64.wrap (i64.wrap ((d.2.1.length:Int)-(d.2.2.length:Int)-(x:Int)+(d.2.2.length:Int))-(1:Int)))) (0:Int)) (aR d.1.1 (d.2.2.getD (Int.toNat (i64.wrap ((d.2.2.length:Int)-(1:Int)))) (0:Int)))) (d.2.2.getD ((x_1:Int).toNat) (0:Int))))->Ty.wf ah (mulM d.1.1 (mulM d.1.1 (List.getD (bL d.1.1 (aY d.1.1 d.2.2) d.2.1 d.2.2 x) (Int.toNat (i64.wrap (i64.wrap ((d.2.1.length:Int)-(d.2.2.length:Int)-(x:Int)+(d.2.2.length:Int))-(1:Int)))) (0:Int)) (aR d.1.1 (d.2.2.getD (Int.toNat (i64.wrap ((d.2.2.length:Int)-(1:Int)))) (0:Int)))) (d.2.2.getD ((x_1:Int).toNat) (0:Int)))->∃(x':Nat),x'<=d.2.2.length/\d.2.2.length-x'<d.2.2.length-x_1/\((ae d.1.1/\ae d.1.2.1/\ae d.1.2.2)/\ae d.2.1/\ae d.2.2/\aQ/\aQ/\ae (aR d.1.1 (d.2.2.getD (Int.toNat (i64.wrap ((d.2.2.length:Int)-(1:Int)))) (0:Int)))/\ae ((d.2.1.length:Int)-(d.2.2.length:Int)-(x:Int))/\ae (mulM d.1.1 (List.getD (bL d.1.1 (aY d.1.1 d.2.2) d.2.1 d.2.2 x) (Int.toNat (i64.wrap (i64.wrap ((d.2.1.length:Int)-(d.2.2.length:Int)-(x:Int)+(d.2.2.length:Int))-(1:Int)))) (0:Int)) (aR d.1.1 (d.2.2.getD (Int.toNat (i64.wrap ((d.2.2.length:Int)-(1:Int)))) (0:Int))))/\ae d.2.2/\ae (d.2.2.length:Int)/\i64.wrap ((x_1:Int)+(1:Int))=(x':Int))/\(ae d.1.1/\ae d.1.2.1/\ae d.1.2.2)/\List.set (cn d.1.1 d.2.2 (bL d.1.1 (aY d.1.1 d.2.2) d.2.1 d.2.2 x) (d.2.1.length-d.2.2.length-x) (gB d.1.1 (aY d.1.1 d.2.2) d.2.1 d.2.2 x) x_1) (Int.toNat (i64.wrap ((d.2.1.length:Int)-(d.2.2.length:Int)-(x:Int)+(x_1:Int)))) (bd d.1.1 (List.getD (cn d.1.1 d.2.2 (bL d.1.1 (aY d.1.1 d.2.2) d.2.1 d.2.2 x) (d.2.1.length-d.2.2.length-x) (gB d.1.1 (aY d.1.1 d.2.2) d.2.1 d.2.2 x) x_1) (Int.toNat (i64.wrap ((d.2.1.length:Int)-(d.2.2.length:Int)-(x:Int)+(x_1:Int)))) (0:Int)) (mulM d.1.1 (mulM d.1.1 (List.getD (bL d.1.1 (aY d.1.1 d.2.2) d.2.1 d.2.2 x) (Int.toNat (i64.wrap (i64.wrap ((d.2.1.length:Int)-(d.2.2.length:Int)-(x:Int)+(d.2.2.length:Int))-(1:Int)))) (0:Int)) (aR d.1.1 (d.2.2.getD (Int.toNat (i64.wrap ((d.2.2.length:Int)-(1:Int)))) (0:Int)))) (d.2.2.getD ((x_1:Int).toNat) (0:Int))))=cn d.1.1 d.2.2 (bL d.1.1 (aY d.1.1 d.2.2) d.2.1 d.2.2 x) (d.2.1.length-d.2.2.length-x) (gB d.1.1 (aY d.1.1 d.2.2) d.2.1 d.2.2 x) x'/\ae (eh d.1.1 (aY d.1.1 d.2.2) d.2.1 d.2.2 (d.2.1.length-d.2.2.length+(1:Nat)) (x+(1:Nat)))))/\(decide ((x_1:Int)<(d.2.2.length:Int))=false->∃(x':Nat),x'<=d.2.1.length-d.2.2.length+(1:Nat)/\d.2.1.length-d.2.2.length+(1:Nat)-x'<d.2.1.length-d.2.2.length+(1:Nat)-x/\((ae d.1.1/\ae d.1.2.1/\ae d.1.2.2)/\ae d.2.1/\ae d.2.2/\aQ/\aQ/\ae (aR d.1.1 (d.2.2.getD (Int.toNat (i64.wrap ((d.2.2.length:Int)-(1:Int)))) (0:Int)))/\i64.wrap ((d.2.1.length:Int)-(d.2.2.length:Int)-(x:Int)-(1:Int))=(d.2.1.length:Int)-(d.2.2.length:Int)-(x':Int))/\(ae d.1.1/\ae d.1.2.1/\ae d.1.2.2)/\cn d.1.1 d.2.2 (bL d.1.1 (aY d.1.1 d.2.2) d.2.1 d.2.2 x) (d.2.1.length-d.2.2.length-x) (gB d.1.1 (aY d.1.1 d.2.2) d.2.1 d.2.2 x) x_1=bL d.1.1 (aY d.1.1 d.2.2) d.2.1 d.2.2 x'/\eh d.1.1 (aY d.1.1 d.2.2) d.2.1 d.2.2 (d.2.1.length-d.2.2.length+(1:Nat)) (x+(1:Nat))=eh d.1.1 (aY d.1.1 d.2.2) d.2.1 d.2.2 (d.2.1.length-d.2.2.length+(1:Nat)) x'))))/\(decide ((0:Int)<=(d.2.1.length:Int)-(d.2.2.length:Int)-(x:Int))=false->((0:Int)<=i64.wrap ((d.2.2.length:Int)-(1:Int))/\i64.wrap ((d.2.2.length:Int)-(1:Int))<=(↑(List.length (bL d.1.1 (aY d.1.1 d.2.2) d.2.1 d.2.2 x)):Int))/\(eh d.1.1 (aY d.1.1 d.2.2) d.2.1 d.2.2 (d.2.1.length-d.2.2.length+(1:Nat)) x,List.take (gA (List.take (Int.toNat (i64.wrap ((d.2.2.length:Int)-(1:Int)))) (bL d.1.1 (aY d.1.1 d.2.2) d.2.1 d.2.2 x))) (List.take (Int.toNat (i64.wrap ((d.2.2.length:Int)-(1:Int)))) (bL d.1.1 (aY d.1.1 d.2.2) d.2.1 d.2.2 x)))=fx d.1.1 d.2.1 d.2.2))):=by
  intro (d:Fd×List Int×List Int) hw hp
  obtain⟨⟨p,g,t⟩,a,b⟩:=d
  replace hp:Ig p a b:=hp
  simp only[exists_const,forall_const,decide_eq_true_eq,decide_eq_false_iff_not,beq_iff_eq,sxS]
  obtain⟨f,rfl,ha,hb,wC⟩:=hp
  obtain⟨hm,lQ,Qk,_⟩:=b6 ha
  obtain⟨_,ic,yI,_⟩:=b6 hb
  have hq:=(bu hm).1
  have N_:i64.wrap ((b.length:Int)-1)=((b.length-1:Nat):Int):=by rw[wrap_small (by omega)];omega
  simp only[N_,Int.toNat_natCast,jn,rb,gZ,List.length_replicate]
  refine⟨by omega,fun h=>?_,fun h=>?_⟩
  ·unfold fx
   rw[if_pos (by omega)];rfl
  have lx:i64.wrap (i64.wrap ((a.length:Int)-(b.length:Int))+1)=((a.length-b.length+1:Nat):Int):=by
   rw[wrap_small (n:=(a.length:Int)-(b.length:Int)) (by omega),wrap_small (by omega)];omega
  rw[lx,Int.toNat_natCast]
  refine⟨⟨by omega,by omega,by omega⟩,⟨by omega,by omega⟩,⟨hq,dr hq ic _⟩,fun _=>⟨by omega,⟨by rw[wrap_small (by omega)];omega,rfl,xf _ _ _ _ _⟩,fun k hk=>⟨fun h2=>?_,fun h2=>?_⟩⟩⟩
  ·have nd:i64.wrap (i64.wrap ((a.length:Int)-(b.length:Int)-(k:Int)+(b.length:Int))-1)=((a.length-1-k:Nat):Int):=by
    rw[wrap_small (n:=(a.length:Int)-(b.length:Int)-(k:Int)+(b.length:Int)) (by omega),wrap_small (by omega)];omega
   have U1:(a.length:Int)-(b.length:Int)-(k:Int)=((a.length-b.length-k:Nat):Int):=by omega
   have hC:mulM (ab f) ((bL (ab f) (aY (ab f) b) a b k).getD (a.length-1-k) 0) (aR (ab f) (b.getD (b.length-1) 0))=gB (ab f) (aY (ab f) b) a b k:=rfl
   have iH:=yo (r:=aY (ab f) b) (b:=b) hq lQ k
   rw[nd]
   simp only[Int.toNat_natCast]
   rw[hC]
   have iW:((a.length:Int)-(b.length:Int)-((k+1:Nat):Int))=i64.wrap ((a.length:Int)-(b.length:Int)-(k:Int)-1):=by rw[wrap_small (by omega)];omega
   have T2:((a.length:Int)-(b.length:Int)-(k:Int)).toNat=a.length-b.length-k:=by omega
   rw[T2]
   refine⟨⟨by omega,by omega⟩,⟨hq,iH _,oF hq _⟩,fun _=>⟨⟨by omega,by omega⟩,fun h5=>⟨k+1,by omega,by omega,iW.symm,Mz hq lQ h5,zT (by omega)⟩,fun h5=>⟨by omega,⟨rfl,wx _ _ _ _ _,zT (by omega)⟩,fun y hy=>⟨fun h3=>?_,fun h3=>?_⟩⟩⟩⟩
   ·have QL:i64.wrap ((a.length:Int)-(b.length:Int)-(k:Int)+(y:Int))=((a.length-b.length-k+y:Nat):Int):=by rw[wrap_small (by omega)];omega
    rw[QL,Int.toNat_natCast]
    refine⟨⟨by omega,by omega⟩,⟨by omega,by omega⟩,⟨hq,ea hq _ _,dr hq ic _⟩,⟨hq,Kl hq iH _ _ _ _ _,ea hq _ _⟩,⟨by omega,by omega⟩,fun _ _=>⟨y+1,by omega,by omega,aC (by omega),?_⟩⟩
    exact yp (by rw[jn];omega)
   ·refine⟨k+1,by omega,by omega,iW.symm,?_,rfl⟩
    rw[show y=b.length by omega];rfl
  ·rw[show k=a.length-b.length+1 by omega]
   exact⟨⟨by omega,by omega⟩,Mx hm ha (Fc hb (by omega)) (by omega) (by omega)⟩
theorem Ct{u:Nat}(h:u<128):e7 u=[(u:Int)]:=by rw[e7,dif_pos h]
theorem Iv{u:Nat}(h:128<=u):e7 u=((u%128+128:Nat):Int)::e7 (u/128):=by rw[e7,dif_neg (by omega)]
theorem Df:∀(k u:Nat),u<128^(k+1)->1<=(e7 u).length/\(e7 u).length<=k+1
 | 0,u,h=>by rw[Ct (by omega)];simp
 | k+1,u,h=>by
   by_cases h1:u<128
   ·rw[Ct h1];simp
   ·rw[Iv (by omega),List.length_cons]
    have:=Df k (u/128) (by rw[Nat.div_lt_iff_lt_mul (by omega)];rw[Nat.pow_succ] at h;omega)
    omega
theorem OQ{u:Nat}(h:u<=4398046511103):1<=(e7 u).length/\(e7 u).length<=6:=Df 5 u (by omega)
theorem Ov{x:Int}(h:ch x):lY x<=2199023255552:=by unfold lY;unfold ch at h;split<;>omega
theorem Ic{x:Int}(h:ch x):(lY x:Int)=if x<0 then -2*x-1 else 2*x:=by unfold lY;unfold ch at h;split<;>omega
theorem xM{n:Int}(h:0<=n/\n<=255):u8.wrap n=n:=by
 unfold IntKind.wrap
 simp[IntKind.signed,IntKind.bits]
 omega
theorem Es{d:Int}{x:List Int×Nat}(h:kN d x)(hw:ch d):x.1.length<=6:=by
 have:=congrArg List.length h.1
 rw[List.length_append] at this
 have:=(OQ (u:=lY d) (by have:=Ov hw;omega)).2
 omega
theorem LD{d:Int}(hw:ch d):kN d ([],lY d):=⟨rfl,by have:=Ov hw;show lY d<=_;omega,by show 0<=100;omega⟩
theorem RM{n:Nat}:u8.wrap (i64.wrap (128+(n:Int).tmod 128))=((n%128+128:Nat):Int)/\u8.wrap (i64.wrap ((n:Int).tmod 128+128))=((n%128+128:Nat):Int):=by
 have:(n:Int).tmod 128=((n%128:Nat):Int):=by rw[Int.tmod_eq_emod_of_nonneg (by omega)];omega
 rw[this,wrap_small (by omega),wrap_small (by omega),xM (by omega),xM (by omega)]
 constructor<;>omega
theorem RL{n:Nat}(h:n<=4398046511104):i64.wrap ((n:Int).tdiv 128)=((n/128:Nat):Int):=by
 have:(n:Int).tdiv 128=((n/128:Nat):Int):=by rw[Int.tdiv_eq_ediv_of_nonneg (by omega)];omega
 rw[this,wrap_small (by omega)]
theorem Q5{d:Int}{x:List Int×Nat}(h:kN d x)(hw:ch d)(hx:128<=(x.2:Int)):kN d (x.1++[((x.2%128+128:Nat):Int)],x.2/128):=by
 refine⟨?_,?_,?_⟩
 ·show (x.1++[((x.2%128+128:Nat):Int)])++e7 (x.2/128)=_
  rw[List.append_assoc,List.singleton_append,<-Iv (by omega)];exact h.1
 ·have:=h.2.1;show x.2/128<=_;omega
 ·have:=Es h hw
  show (x.1++[_]).length<=100
  rw[List.length_append,List.length_singleton];omega
theorem Q4{d:Int}{x:List Int×Nat}(h:kN d x)(hw:ch d)(hx:¬128<=(x.2:Int)):x.1++[u8.wrap (x.2:Int)]=jO d:=by
 rw[xM (by omega)]
 unfold jO
 rw[if_pos hw,<-h.1,Ct (by omega)]
theorem O6{d:Int}(hw:ch d)(h:d<0):i64.wrap (i64.wrap (-2*d)-1)=(lY d:Int):=by
 rw[Ic hw,if_pos h]
 unfold ch at hw
 have h1:i64.wrap (-2*d) = -2*d:=wrap_small (by omega)
 rw[h1,wrap_small (by omega)]
theorem O7{d:Int}(hw:ch d)(h:¬d<0):i64.wrap (2*d)=(lY d:Int):=by
 rw[Ic hw,if_neg h]
 unfold ch at hw
 rw[wrap_small (by omega)]
theorem Cl :
 ∀(d:Int),Ty.wf ah d->True->True/\((!(decide ((-1099511627776:Int)<=d)&&decide (d<=(1099511627776:Int))))=true->[]=jO d)/\((!(decide ((-1099511627776:Int)<=d)&&decide (d<=(1099511627776:Int))))=false->(decide (d<(0:Int))=true->(kN d ([],lY d)/\ch d)/\((d=d/\aQ/\i64.wrap (i64.wrap ((-2:Int)*d)-(1:Int))=(lY d:Int))/\([]:List Int)=[])/\∀(x:List Int×Nat),kN d x/\ch d->(decide ((128:Int)<=(x.2:Int))=true->(128:Int)≠(0:Int)/\(x.1.length+List.length [u8.wrap (i64.wrap ((128:Int)+Int.tmod (x.2:Int) (128:Int)))])*(1:Nat)<=(140737488355328:Nat)/\(128:Int)≠(0:Int)/\∃(x':List Int×Nat),(kN d x'/\ch d)/\x'.2<x.2/\(d=d/\aQ/\i64.wrap (Int.tdiv (x.2:Int) (128:Int))=(x'.2:Int))/\x.1++[u8.wrap (i64.wrap ((128:Int)+Int.tmod (x.2:Int) (128:Int)))]=x'.1)/\(decide ((128:Int)<=(x.2:Int))=false->(x.1.length+List.length [u8.wrap (x.2:Int)])*(1:Nat)<=(140737488355328:Nat)/\x.1++[u8.wrap (x.2:Int)]=jO d))/\(decide (d<(0:Int))=false->(kN d ([],lY d)/\ch d)/\((d=d/\aQ/\i64.wrap ((2:Int)*d)=(lY d:Int))/\([]:List Int)=[])/\∀(x:List Int×Nat),kN d x/\ch d->(decide ((128:Int)<=(x.2:Int))=true->(128:Int)≠(0:Int)/\(x.1.length+List.length [u8.wrap (i64.wrap ((128:Int)+Int.tmod (x.2:Int) (128:Int)))])*(1:Nat)<=(140737488355328:Nat)/\(128:Int)≠(0:Int)/\∃(x':List Int×Nat),(kN d x'/\ch d)/\x'.2<x.2/\(d=d/\aQ/\i64.wrap (Int.tdiv (x.2:Int) (128:Int))=(x'.2:Int))/\x.1++[u8.wrap (i64.wrap ((128:Int)+Int.tmod (x.2:Int) (128:Int)))]=x'.1)/\(decide ((128:Int)<=(x.2:Int))=false->(x.1.length+List.length [u8.wrap (x.2:Int)])*(1:Nat)<=(140737488355328:Nat)/\x.1++[u8.wrap (x.2:Int)]=jO d))):=by
  intro d hw hp
  simp only[exists_const,forall_const,decide_eq_true_eq,decide_eq_false_iff_not,beq_iff_eq,sxS]
  have hW:(decide (-1099511627776<=d)&&decide (d<=1099511627776))=true↔ch d:=by unfold ch;simp
  refine⟨fun h=>?_,fun h=>?_⟩
  ·unfold jO
   rw[if_neg (fun h1=>by rw[hW.2 h1] at h;cases h)]
  ·have hd:=hW.1 h
   have body:∀(x:List Int×Nat),kN d x/\ch d->(128<=(x.2:Int)->(128:Int)≠0/\(x.1.length+[u8.wrap (i64.wrap (128+(x.2:Int).tmod 128))].length)*1<=140737488355328/\(128:Int)≠0 ∧
    ∃ x':List Int×Nat,(kN d x'/\ch d)/\x'.2<x.2/\i64.wrap ((x.2:Int).tdiv 128)=(x'.2:Int)/\x.1++[u8.wrap (i64.wrap (128+(x.2:Int).tmod 128))]=x'.1) ∧
    (¬128<=(x.2:Int)->(x.1.length+[u8.wrap (x.2:Int)].length)*1<=140737488355328/\x.1++[u8.wrap (x.2:Int)]=jO d):=by
    intro x ⟨hj,HH⟩
    have hl:=Es hj hd
    refine⟨fun h1=>⟨by omega,by rw[List.length_singleton];omega,by omega,(x.1++[((x.2%128+128:Nat):Int)],x.2/128),⟨Q5 hj hd h1,hd⟩,?_,RL hj.2.1,by rw[RM.1]⟩,fun h1=>⟨by rw[List.length_singleton];omega,Q4 hj hd h1⟩⟩
    show x.2/128<x.2
    omega
   exact⟨fun h1=>⟨⟨LD hd,hd⟩,O6 hd h1,body⟩,fun h1=>⟨⟨LD hd,hd⟩,O7 hd h1,body⟩⟩
theorem Ok{α:Type}{l:List α}{z:α}{k:Nat}(h:k<l.length):l.take (k+1)=l.take k++[l.getD k z]:=by
 rw[List.take_succ_eq_append_getElem h];simp[h]
theorem MF{q:List Int}{y:Nat}(h:y<q.length):q.getD y 0∈q:=by
 rw[show q.getD y 0=q[y] from by simp[h]];exact List.getElem_mem h
end Go.SF
