/- Transforms, from the code. No condition. -/
import Derived.Test.YtobmiihdfklmaaaGreatSxC
import Derived.Test.YtobmiihdfklmaaaGreatSxM1
set_option linter.unusedVariables false
set_option linter.unusedSimpArgs false
open Go.IntKind (i64 u8)
namespace Go.SF
open Go.SX Go
theorem Hj(p wi r:Int)(v:List Int)(n:Nat):(Dw p wi r v n).length=n:=eB _ _
theorem Lw(p:Int)(v:List Int)(w:Int){n t:Nat}(h:t<n):(bD p v w n).getD t 0=gp p v w t:=by simp[bD,List.getD_eq_getElem?_getD,h]
theorem sR{f:Int}{v:List Int}(h:aH f v=true):0<v.length/\v.length<=512/\0<=aE v.length/\aE v.length<=9:=by
 obtain⟨_,_,K,hK,u_,hlen,_⟩:=dB h
 have RL:=kX u_
 exact⟨by rw[hlen];exact Nat.pow_pos (by omega),by omega,by omega,by omega⟩
theorem C6{f:Int}{a b:List Int}(h:eN f a b=true):a.length=b.length/\aH f a=true/\aH f b=true:=by
 unfold eN at h
 simp only[Bool.and_eq_true,decide_eq_true_eq] at h
 exact⟨h.1.1,h.1.2,h.2⟩
theorem aap{f:Int}{v:List Int}(h:aH f v=true):Dw (af f) (bk (af f) (b8 f (aE v.length))) (bk (af f) v.length) v v.length=gY f v:=by
 unfold gY
 rw[if_pos h]
 refine List.ext_getElem (by rw[Hj];unfold vN;rw[eB]) fun t h1 h2=>?_
 rw[Hj] at h1
 simp only[Dw,vN,List.getElem_map,List.getElem_range]
 unfold Hi
 rw[Y6 h h1]
theorem CX{f:Int}(hm:af f≠0){a:Int}(ha:a%af f≠0):bG f a (-1)=bk (af f) a:=by
 rw[yn hm,Nj (b9 hm).1 ha]
theorem Vh{f:Int}(hm:af f≠0){a r:Int}(h:a*r%af f=1%af f):a%af f≠0:=by
 intro h0
 have hp:=(b9 hm).1
 unfold au at hp
 rw[<-bZ,h0,Int.zero_mul,Int.zero_emod,Int.emod_eq_of_lt (by omega) (by omega)] at h
 exact absurd h (by decide)
theorem Oz :
 ∀(d:Int×List Int),Ty.wf ai d.1/\Ty.wf aj d.2->True->True/\((!aH d.1 d.2)=true->[]=gY d.1 d.2)/\((!aH d.1 d.2)=false->True/\(Ty.wf ai (aE (d.2.length:Int))->True/\(Ty.wf ai (b8 d.1 (aE (d.2.length:Int)))->True/\(Ty.wf ai (bG d.1 (b8 d.1 (aE (d.2.length:Int))) (-1:Int))->(aH d.1 d.2=true/\El (af d.1) (bG d.1 (b8 d.1 (aE (d.2.length:Int))) (-1:Int)))/\(Ty.wf aj (bD (af d.1) d.2 (bG d.1 (b8 d.1 (aE (d.2.length:Int))) (-1:Int)) d.2.length)->True/\(Ty.wf ai (bG d.1 (d.2.length:Int) (-1:Int))->(0:Nat)<=d.2.length/\((d.1=d.1/\d.2=d.2/\aQ/\ae (bG d.1 (d.2.length:Int) (-1:Int))/\(0:Int)=(↑(0:Nat):Int))/\[]=Dw (af d.1) (bG d.1 (b8 d.1 (aE (d.2.length:Int))) (-1:Int)) (bG d.1 (d.2.length:Int) (-1:Int)) d.2 (0:Nat)/\ae (bD (af d.1) d.2 (bG d.1 (b8 d.1 (aE (d.2.length:Int))) (-1:Int)) d.2.length))/\∀(x:Nat),x<=d.2.length->(decide ((x:Int)<(↑(List.length (bD (af d.1) d.2 (bG d.1 (b8 d.1 (aE (d.2.length:Int))) (-1:Int)) d.2.length)):Int))=true->((0:Int)<=(x:Int)/\(x:Int)<(↑(List.length (bD (af d.1) d.2 (bG d.1 (b8 d.1 (aE (d.2.length:Int))) (-1:Int)) d.2.length)):Int))/\True/\(Ty.wf ai (c8 d.1 (List.getD (bD (af d.1) d.2 (bG d.1 (b8 d.1 (aE (d.2.length:Int))) (-1:Int)) d.2.length) ((x:Int).toNat) (0:Int)) (bG d.1 (d.2.length:Int) (-1:Int)))->(List.length (Dw (af d.1) (bG d.1 (b8 d.1 (aE (d.2.length:Int))) (-1:Int)) (bG d.1 (d.2.length:Int) (-1:Int)) d.2 x)+List.length [c8 d.1 (List.getD (bD (af d.1) d.2 (bG d.1 (b8 d.1 (aE (d.2.length:Int))) (-1:Int)) d.2.length) ((x:Int).toNat) (0:Int)) (bG d.1 (d.2.length:Int) (-1:Int))])*(8:Nat)<=(140737488355328:Nat)/\∃(x':Nat),x'<=d.2.length/\d.2.length-x'<d.2.length-x/\(d.1=d.1/\d.2=d.2/\aQ/\ae (bG d.1 (d.2.length:Int) (-1:Int))/\i64.wrap ((x:Int)+(1:Int))=(x':Int))/\Dw (af d.1) (bG d.1 (b8 d.1 (aE (d.2.length:Int))) (-1:Int)) (bG d.1 (d.2.length:Int) (-1:Int)) d.2 x++[c8 d.1 (List.getD (bD (af d.1) d.2 (bG d.1 (b8 d.1 (aE (d.2.length:Int))) (-1:Int)) d.2.length) ((x:Int).toNat) (0:Int)) (bG d.1 (d.2.length:Int) (-1:Int))]=Dw (af d.1) (bG d.1 (b8 d.1 (aE (d.2.length:Int))) (-1:Int)) (bG d.1 (d.2.length:Int) (-1:Int)) d.2 x'/\ae (bD (af d.1) d.2 (bG d.1 (b8 d.1 (aE (d.2.length:Int))) (-1:Int)) d.2.length)))/\(decide ((x:Int)<(↑(List.length (bD (af d.1) d.2 (bG d.1 (b8 d.1 (aE (d.2.length:Int))) (-1:Int)) d.2.length)):Int))=false->Dw (af d.1) (bG d.1 (b8 d.1 (aE (d.2.length:Int))) (-1:Int)) (bG d.1 (d.2.length:Int) (-1:Int)) d.2 x=gY d.1 d.2))))))):=by
  intro d hw hp
  obtain⟨f,v⟩:=d
  simp only[exists_const,forall_const,decide_eq_true_eq,decide_eq_false_iff_not,beq_iff_eq,sxS]
  refine⟨fun h=>by unfold gY;rw[if_neg (by rw[h];simp)],fun h _ _ _=>?_⟩
  obtain⟨hm,he,K,hK,u_,hlen,iu⟩:=dB h
  obtain⟨l1,l2,l3,l4⟩:=sR h
  have Jh:bG f (b8 f (aE v.length)) (-1)=bk (af f) (b8 f (aE v.length)):=by
   rw[hK]
   exact CX hm (Vh hm (NW hm iu))
  have hr2:bG f (v.length:Int) (-1)=bk (af f) v.length:=by
   refine CX hm (Vh hm (r:=bk (af f) v.length) ?_)
   rw[hlen]
   exact Q9 hm K
  rw[Jh,hr2]
  refine⟨⟨h,uj (b9 hm).1 _⟩,fun _ _=>⟨Nat.zero_le _,⟨rfl,rfl⟩,fun x hx=>⟨fun aT=>?_,fun jV=>?_⟩⟩⟩
  ·rw[fT] at aT ⊢
   rw[Lw _ _ _ (by omega),lJ hm]
   refine⟨⟨by omega,aT⟩,fun _=>⟨by rw[Hj,List.length_singleton];omega,x+1,by omega,by omega,?_,?_⟩⟩
   ·rw[wrap_small (by omega)];rfl
   ·simp[Dw,List.range_succ]
  ·rw[fT] at jV
   rw[show x=v.length by omega]
   exact aap h
theorem Tv :
 ∀(d:Int×List Int×List Int),Ty.wf ai d.1/\Ty.wf aj d.2.1/\Ty.wf aj d.2.2->True->(decide ((d.2.1.length:Int)=(d.2.2.length:Int))=true->True/\(aH d.1 d.2.1=true->True/\aH d.1 d.2.2=eN d.1 d.2.1 d.2.2)/\(aH d.1 d.2.1=false->false=eN d.1 d.2.1 d.2.2))/\(decide ((d.2.1.length:Int)=(d.2.2.length:Int))=false->false=eN d.1 d.2.1 d.2.2):=by
  intro d hw hp
  obtain⟨f,a,b⟩:=d
  simp only[exists_const,forall_const,decide_eq_true_eq,decide_eq_false_iff_not,beq_iff_eq,sxS]
  unfold eN
  refine⟨fun h=>⟨fun h1=>?_,fun h1=>?_⟩,fun h=>?_⟩
  ·rw[decide_eq_true (show a.length=b.length by omega),h1];rfl
  ·rw[h1,Bool.and_false];rfl
  ·rw[decide_eq_false (show ¬a.length=b.length by omega)];rfl
theorem Ti :
 ∀(d:Int×List Int×List Int),Ty.wf ai d.1/\Ty.wf aj d.2.1/\Ty.wf aj d.2.2->True->True/\((!eN d.1 d.2.1 d.2.2)=true->[]=lO d.1 d.2.1 d.2.2)/\((!eN d.1 d.2.1 d.2.2)=false->True/\(Ty.wf ai (af d.1)->(0:Nat)<=d.2.1.length/\((d.1=d.1/\ae d.2.1/\ae d.2.2/\aQ/\ae (af d.1)/\ae (d.2.1.length:Int)/\(0:Int)=(↑(0:Nat):Int))/\[]=uI (af d.1) d.2.1 d.2.2 (0:Nat))/\∀(x:Nat),x<=d.2.1.length->(decide ((x:Int)<(d.2.1.length:Int))=true->(0:Nat)<=d.2.1.length/\((d.1=d.1/\ae d.2.1/\ae d.2.2/\aQ/\ae (af d.1)/\ae (d.2.1.length:Int)/\ae (x:Int)/\(0:Int)=bm (fun (j:Nat)=>d.2.1.getD j (0:Int)*d.2.2.getD ((x+d.2.1.length-j)%d.2.1.length) (0:Int)) (0:Nat)%af d.1/\(0:Int)=(↑(0:Nat):Int))/\ae (uI (af d.1) d.2.1 d.2.2 x))/\∀(x_1:Nat),x_1<=d.2.1.length->(decide ((x_1:Int)<(d.2.1.length:Int))=true->((0:Int)<=(x_1:Int)/\(x_1:Int)<(d.2.1.length:Int))/\(d.2.1.length:Int)≠(0:Int)/\((0:Int)<=Int.tmod (i64.wrap (i64.wrap ((x:Int)-(x_1:Int))+(d.2.1.length:Int))) (d.2.1.length:Int)/\Int.tmod (i64.wrap (i64.wrap ((x:Int)-(x_1:Int))+(d.2.1.length:Int))) (d.2.1.length:Int)<(d.2.2.length:Int))/\af d.1≠(0:Int)/\∃(x':Nat),x'<=d.2.1.length/\d.2.1.length-x'<d.2.1.length-x_1/\(d.1=d.1/\ae d.2.1/\ae d.2.2/\aQ/\ae (af d.1)/\ae (d.2.1.length:Int)/\ae (x:Int)/\Int.tmod (i64.wrap (bm (fun (j:Nat)=>d.2.1.getD j (0:Int)*d.2.2.getD ((x+d.2.1.length-j)%d.2.1.length) (0:Int)) x_1%af d.1+i64.wrap (d.2.1.getD ((x_1:Int).toNat) (0:Int)*d.2.2.getD (Int.toNat (Int.tmod (i64.wrap (i64.wrap ((x:Int)-(x_1:Int))+(d.2.1.length:Int))) (d.2.1.length:Int))) (0:Int)))) (af d.1)=bm (fun (j:Nat)=>d.2.1.getD j (0:Int)*d.2.2.getD ((x+d.2.1.length-j)%d.2.1.length) (0:Int)) x'%af d.1/\i64.wrap ((x_1:Int)+(1:Int))=(x':Int))/\ae (uI (af d.1) d.2.1 d.2.2 x))/\(decide ((x_1:Int)<(d.2.1.length:Int))=false->(List.length (uI (af d.1) d.2.1 d.2.2 x)+List.length [bm (fun (j:Nat)=>d.2.1.getD j (0:Int)*d.2.2.getD ((x+d.2.1.length-j)%d.2.1.length) (0:Int)) x_1%af d.1])*(8:Nat)<=(140737488355328:Nat)/\∃(x':Nat),x'<=d.2.1.length/\d.2.1.length-x'<d.2.1.length-x/\(d.1=d.1/\ae d.2.1/\ae d.2.2/\aQ/\ae (af d.1)/\ae (d.2.1.length:Int)/\i64.wrap ((x:Int)+(1:Int))=(x':Int))/\uI (af d.1) d.2.1 d.2.2 x++[bm (fun (j:Nat)=>d.2.1.getD j (0:Int)*d.2.2.getD ((x+d.2.1.length-j)%d.2.1.length) (0:Int)) x_1%af d.1]=uI (af d.1) d.2.1 d.2.2 x'))/\(decide ((x:Int)<(d.2.1.length:Int))=false->uI (af d.1) d.2.1 d.2.2 x=lO d.1 d.2.1 d.2.2))):=by
  intro d hw hp
  obtain⟨f,a,b⟩:=d
  simp only[exists_const,forall_const,decide_eq_true_eq,decide_eq_false_iff_not,beq_iff_eq,sxS]
  refine⟨fun h=>by unfold lO;rw[if_neg (by rw[h];simp)],fun h _=>?_⟩
  obtain⟨ki,ha,hb⟩:=C6 h
  obtain⟨hm,qv,_⟩:=dB ha
  obtain⟨_,lp,_⟩:=dB hb
  obtain⟨l1,l2,l3,l4⟩:=sR ha
  have tC:=(b9 hm).1
  have aJ:=tC
  unfold au at aJ
  have gK:∀ n,(uI (af f) a b n).length=n:=fun n=>eB _ _
  refine⟨Nat.zero_le _,⟨rfl,rfl⟩,fun i hi=>⟨fun v9=>⟨Nat.zero_le _,⟨?_,rfl⟩,fun j hj=>⟨fun L_=>?_,fun hjg=>⟨?_,i+1,by omega,by omega,?_,?_⟩⟩⟩,fun hig=>?_⟩⟩
  ·show (0:Int)=0%af f
   rw[Int.zero_emod]
  ·have Bx:(i64.wrap (i64.wrap ((i:Int)-(j:Int))+(a.length:Int))).tmod (a.length:Int)=(((i+a.length-j)%a.length:Nat):Int):=by
    rw[wrap_small (n:=(i:Int)-j) (by omega),wrap_small (by omega),Int.tmod_eq_emod_of_nonneg (by omega)]
    have:(i:Int)-j+a.length=((i+a.length-j:Nat):Int):=by omega
    rw[this];rfl
   have aT:(i+a.length-j)%a.length<a.length:=Nat.mod_lt _ l1
   rw[Bx,Int.toNat_natCast]
   refine⟨⟨by omega,L_⟩,by omega,⟨by omega,by omega⟩,hm,j+1,by omega,by omega,?_,?_⟩
   ·have e1:=mJ tC (eY tC qv j) (eY tC lp ((i+a.length-j)%a.length))
    have e4:=ei (p:=af f) (by omega) (bm (fun j=>a.getD j 0*b.getD ((i+a.length-j)%a.length) 0) j)
    unfold El at e4
    rw[wrap_small (n:=a.getD j 0*b.getD ((i+a.length-j)%a.length) 0) (by omega),wrap_small (by omega),Int.tmod_eq_emod_of_nonneg (by omega),bm,eC]
   ·rw[wrap_small (by omega)];rfl
  ·rw[gK,List.length_singleton];omega
  ·rw[wrap_small (by omega)];rfl
  ·rw[show j=a.length by omega]
   simp[uI,List.range_succ,CH]
  ·rw[show i=a.length by omega]
   unfold lO uI
   rw[if_pos h]
theorem Oe :
 ∀(d:Int×List Int),Ty.wf ai d.1/\Ty.wf aj d.2->True->List.length [d.2]=(1:Nat)/\(Ty.wf bW (dg d.1 (List.getD [d.2] (0:Nat) [])).1/\Ty.wf Ty.bool (dg d.1 (List.getD [d.2] (0:Nat) [])).2->(dg d.1 (List.getD [d.2] (0:Nat) [])).2=aH d.1 d.2):=by
  intro d hw hp
  obtain⟨f,v⟩:=d
  simp only[exists_const,forall_const,decide_eq_true_eq,decide_eq_false_iff_not,beq_iff_eq,sxS]
  refine⟨rfl,fun _=>?_⟩
  exact ON f v
theorem Pp :
 ∀(d:Int×List Int),Ty.wf ai d.1/\Ty.wf aj d.2->True->List.length [d.2]=(1:Nat)/\(Ty.wf bW (dg d.1 (List.getD [d.2] (0:Nat) [])).1/\Ty.wf Ty.bool (dg d.1 (List.getD [d.2] (0:Nat) [])).2->((!(dg d.1 (List.getD [d.2] (0:Nat) [])).2)=true->[]=kR d.1 d.2)/\((!(dg d.1 (List.getD [d.2] (0:Nat) [])).2)=false->oB (dg d.1 (List.getD [d.2] (0:Nat) [])).1 d.2/\(Ty.wf aj (bD (dg d.1 (List.getD [d.2] (0:Nat) [])).1.1 d.2 (bc (dg d.1 (List.getD [d.2] (0:Nat) [])).1 (aE (d.2.length:Int))) d.2.length)->bD (dg d.1 (List.getD [d.2] (0:Nat) [])).1.1 d.2 (bc (dg d.1 (List.getD [d.2] (0:Nat) [])).1 (aE (d.2.length:Int))) d.2.length=kR d.1 d.2))):=by
  intro d hw hp
  obtain⟨f,v⟩:=d
  simp only[exists_const,forall_const,decide_eq_true_eq,decide_eq_false_iff_not,beq_iff_eq,sxS]
  refine⟨rfl,fun _=>?_⟩
  show ((dg f v).2=false->_)/\((dg f v).2=true->oB (dg f v).1 v/\(_->bD (dg f v).1.1 v (bc (dg f v).1 (aE v.length)) v.length=kR f v))
  rw[ON]
  refine⟨fun h=>by unfold kR;rw[if_neg (by rw[h];simp)],fun h=>?_⟩
  have e:dg f v=((ar f).1,true):=if_pos h
  obtain⟨hm,he,K,hK,u_,hlen,iu⟩:=dB h
  rw[e]
  refine⟨⟨f,h,rfl⟩,fun _=>?_⟩
  unfold kR
  rw[if_pos h,hK]
  simp only
  rw[wJ hm iu]
  rfl
theorem Oc :
 ∀(d:Int×List Int),Ty.wf ai d.1/\Ty.wf aj d.2->True->List.length [d.2]=(1:Nat)/\(Ty.wf bW (dg d.1 (List.getD [d.2] (0:Nat) [])).1/\Ty.wf Ty.bool (dg d.1 (List.getD [d.2] (0:Nat) [])).2->((!(dg d.1 (List.getD [d.2] (0:Nat) [])).2)=true->[]=gY d.1 d.2)/\((!(dg d.1 (List.getD [d.2] (0:Nat) [])).2)=false->oB (dg d.1 (List.getD [d.2] (0:Nat) [])).1 d.2/\(Ty.wf aj (vN (dg d.1 (List.getD [d.2] (0:Nat) [])).1.1 (bc (dg d.1 (List.getD [d.2] (0:Nat) [])).1 (aE (d.2.length:Int))) (bk (dg d.1 (List.getD [d.2] (0:Nat) [])).1.1 (d.2.length:Int)) d.2)->vN (dg d.1 (List.getD [d.2] (0:Nat) [])).1.1 (bc (dg d.1 (List.getD [d.2] (0:Nat) [])).1 (aE (d.2.length:Int))) (bk (dg d.1 (List.getD [d.2] (0:Nat) [])).1.1 (d.2.length:Int)) d.2=gY d.1 d.2))):=by
  intro d hw hp
  obtain⟨f,v⟩:=d
  simp only[exists_const,forall_const,decide_eq_true_eq,decide_eq_false_iff_not,beq_iff_eq,sxS]
  refine⟨rfl,fun _=>?_⟩
  show ((dg f v).2=false->_)/\((dg f v).2=true->oB (dg f v).1 v/\(_->vN (dg f v).1.1 (bc (dg f v).1 (aE v.length)) (bk (dg f v).1.1 v.length) v=gY f v))
  rw[ON]
  refine⟨fun h=>by unfold gY;rw[if_neg (by rw[h];simp)],fun h=>?_⟩
  have e:dg f v=((ar f).1,true):=if_pos h
  obtain⟨hm,he,K,hK,u_,hlen,iu⟩:=dB h
  rw[e]
  refine⟨⟨f,h,rfl⟩,fun _=>?_⟩
  unfold gY
  rw[if_pos h,hK]
  simp only
  rw[wJ hm iu]
  rfl
theorem Ac{f:Int}{a b:List Int}:(aR f [a,b]).2=eN f a b/\(eN f a b=true->aR f [a,b]=((ar f).1,true)):=by
 have hb:uf f [a,b]=eN f a b:=by
  unfold uf eN
  by_cases h3:a.length=b.length
  ·by_cases h1:aH f a=true<;>by_cases h2:aH f b=true<;>simp[h1,h2,h3]
  ·have LU:¬b.length=a.length:=fun e=>h3 e.symm
   by_cases h1:aH f a=true<;>by_cases h2:aH f b=true<;>simp[h1,h2,h3,LU]
 unfold aR
 rw[hb]
 cases h:eN f a b with
 | true=>exact⟨rfl,fun _=>rfl⟩
 | false=>exact⟨rfl,fun h=>by cases h⟩
theorem Pr :
 ∀(d:Int×List Int×List Int),Ty.wf ai d.1/\Ty.wf aj d.2.1/\Ty.wf aj d.2.2->True->List.length [d.2.1,d.2.2]=(2:Nat)/\(Ty.wf bW (aR d.1 [d.2.1,d.2.2]).1/\Ty.wf Ty.bool (aR d.1 [d.2.1,d.2.2]).2->((!(aR d.1 [d.2.1,d.2.2]).2)=true->[]=i_ d.1 d.2.1 d.2.2)/\((!(aR d.1 [d.2.1,d.2.2]).2)=false->(au (aR d.1 [d.2.1,d.2.2]).1.1/\aq (aR d.1 [d.2.1,d.2.2]).1.1 d.2.1=true/\aq (aR d.1 [d.2.1,d.2.2]).1.1 d.2.2=true/\d.2.1.length=d.2.2.length/\d.2.1.length<=(512:Nat))/\(Ty.wf aj (List.map (fun (t:Nat)=>jY (Prod.fst (aR d.1 [d.2.1,d.2.2]),d.2).1.1 (Prod.fst (aR d.1 [d.2.1,d.2.2]),d.2).2.1 (Prod.fst (aR d.1 [d.2.1,d.2.2]),d.2).2.2 t (List.length (Prod.fst (aR d.1 [d.2.1,d.2.2]),d.2).2.1)) (List.range d.2.1.length))->List.map (fun (t:Nat)=>jY (Prod.fst (aR d.1 [d.2.1,d.2.2]),d.2).1.1 (Prod.fst (aR d.1 [d.2.1,d.2.2]),d.2).2.1 (Prod.fst (aR d.1 [d.2.1,d.2.2]),d.2).2.2 t (List.length (Prod.fst (aR d.1 [d.2.1,d.2.2]),d.2).2.1)) (List.range d.2.1.length)=i_ d.1 d.2.1 d.2.2))):=by
  intro d hw hp
  obtain⟨f,a,b⟩:=d
  simp only[exists_const,forall_const,decide_eq_true_eq,decide_eq_false_iff_not,beq_iff_eq,sxS]
  refine⟨rfl,fun _=>?_⟩
  rw[Ac.1]
  refine⟨fun h=>by unfold i_;rw[if_neg (by rw[h];simp)],fun h=>?_⟩
  obtain⟨ki,ha,hb⟩:=C6 h
  obtain⟨hm,qv,_⟩:=dB ha
  obtain⟨_,lp,_⟩:=dB hb
  obtain⟨l1,l2,l3,l4⟩:=sR ha
  rw[Ac.2 h]
  refine⟨⟨(b9 hm).1,qv,lp,ki,l2⟩,fun _=>?_⟩
  unfold i_
  rw[if_pos h]
  rfl
theorem Kv :
 ∀(d:(Int×Int×Int)×List Int×List Int),Ty.wf bW d.1/\Ty.wf aj d.2.1/\Ty.wf aj d.2.2->au d.1.1/\aq d.1.1 d.2.1=true/\aq d.1.1 d.2.2=true/\d.2.1.length=d.2.2.length/\d.2.1.length<=(1048576:Nat)->(0:Nat)<=d.2.1.length/\(((ae d.1.1/\ae d.1.2.1/\ae d.1.2.2)/\ae d.2.1/\ae d.2.2/\aQ/\ae d.2.1/\ae (d.2.1.length:Int)/\(0:Int)=(↑(0:Nat):Int))/\(ae d.1.1/\ae d.1.2.1/\ae d.1.2.2)/\[]=JA d.1.1 d.2.1 d.2.2 (0:Nat))/\∀(x:Nat),x<=d.2.1.length->(decide ((x:Int)<(d.2.1.length:Int))=true->((0:Int)<=(x:Int)/\(x:Int)<(d.2.1.length:Int))/\((0:Int)<=(x:Int)/\(x:Int)<(d.2.2.length:Int))/\(au d.1.1/\El d.1.1 (d.2.1.getD ((x:Int).toNat) (0:Int))/\El d.1.1 (d.2.2.getD ((x:Int).toNat) (0:Int)))/\(Ty.wf ai (mulM d.1.1 (d.2.1.getD ((x:Int).toNat) (0:Int)) (d.2.2.getD ((x:Int).toNat) (0:Int)))->(List.length (JA d.1.1 d.2.1 d.2.2 x)+List.length [mulM d.1.1 (d.2.1.getD ((x:Int).toNat) (0:Int)) (d.2.2.getD ((x:Int).toNat) (0:Int))])*(8:Nat)<=(140737488355328:Nat)/\∃(x':Nat),x'<=d.2.1.length/\d.2.1.length-x'<d.2.1.length-x/\((ae d.1.1/\ae d.1.2.1/\ae d.1.2.2)/\ae d.2.1/\ae d.2.2/\aQ/\ae d.2.1/\ae (d.2.1.length:Int)/\i64.wrap ((x:Int)+(1:Int))=(x':Int))/\(ae d.1.1/\ae d.1.2.1/\ae d.1.2.2)/\JA d.1.1 d.2.1 d.2.2 x++[mulM d.1.1 (d.2.1.getD ((x:Int).toNat) (0:Int)) (d.2.2.getD ((x:Int).toNat) (0:Int))]=JA d.1.1 d.2.1 d.2.2 x'))/\(decide ((x:Int)<(d.2.1.length:Int))=false->JA d.1.1 d.2.1 d.2.2 x=lx d.1.1 d.2.1 d.2.2):=by
  intro d hw hp
  obtain⟨d,a,b⟩:=d
  obtain⟨p1,p2,p3,p4,p5⟩:=hp
  replace p1:au d.1:=p1
  replace p2:aq d.1 a=true:=p2
  replace p3:aq d.1 b=true:=p3
  replace p4:a.length=b.length:=p4
  replace p5:a.length<=1048576:=p5
  have gK:∀ n,(JA d.1 a b n).length=n:=fun n=>eB _ _
  simp only[exists_const,forall_const,decide_eq_true_eq,decide_eq_false_iff_not,beq_iff_eq,sxS]
  refine⟨Nat.zero_le _,⟨rfl,rfl⟩,fun x hx=>⟨fun aT=>⟨⟨by omega,aT⟩,⟨by omega,by omega⟩,⟨p1,eY p1 p2 x,eY p1 p3 x⟩,fun _=>⟨?_,x+1,by omega,by omega,?_,?_⟩⟩,fun jV=>?_⟩⟩
  ·rw[gK,List.length_singleton];omega
  ·rw[wrap_small (by omega)];rfl
  ·simp[JA,List.range_succ]
  ·rw[show x=a.length by omega];rfl
theorem Pw :
 ∀(d:(Int×Int×Int)×List Int),Ty.wf bW d.1/\Ty.wf aj d.2->oB d.1 d.2->(0:Int)<=aE (d.2.length:Int)/\(Ty.wf aj (ft d.2)->True/\(Ty.wf ai (aE (d.2.length:Int))->(↑(0:Nat):Int)<=aE (d.2.length:Int)/\(((ae d.1.1/\ae d.1.2.1/\ae d.1.2.2)/\d.2=d.2/\aQ/\ae (aE (d.2.length:Int))/\(0:Int)=(↑(0:Nat):Int))/\(ae d.1.1/\ae d.1.2.1/\ae d.1.2.2)/\ft d.2=hY d.1 (ft d.2) (0:Nat))/\∀(x:Nat),(x:Int)<=aE (d.2.length:Int)->(decide ((x:Int)<aE (d.2.length:Int))=true->(oB d.1 (hY d.1 (ft d.2) x)/\(0:cj [ai])<=(x:Int)/\(x:Int)<=aE (↑(List.length (hY d.1 (ft d.2) x)):Int)-(1:cj [ai]))/\(Ty.wf aj (Ch d.1 (hY d.1 (ft d.2) x) ((x:Int).toNat) (0:Nat) (List.length (hY d.1 (ft d.2) x)/(2:Nat)))->∃(x':Nat),(x':Int)<=aE (d.2.length:Int)/\Int.toNat (aE (d.2.length:Int))-x'<Int.toNat (aE (d.2.length:Int))-x/\((ae d.1.1/\ae d.1.2.1/\ae d.1.2.2)/\d.2=d.2/\aQ/\ae (aE (d.2.length:Int))/\i64.wrap ((x:Int)+(1:Int))=(x':Int))/\(ae d.1.1/\ae d.1.2.1/\ae d.1.2.2)/\Ch d.1 (hY d.1 (ft d.2) x) ((x:Int).toNat) (0:Nat) (List.length (hY d.1 (ft d.2) x)/(2:Nat))=hY d.1 (ft d.2) x'))/\(decide ((x:Int)<aE (d.2.length:Int))=false->hY d.1 (ft d.2) x=bD d.1.1 d.2 (bc d.1 (aE (d.2.length:Int))) d.2.length))):=by
  intro d hw hp
  obtain⟨d,v⟩:=d
  obtain⟨f,h,hd⟩:=hp
  replace h:aH f v=true:=h
  replace hd:d=(ar f).1:=hd
  obtain⟨hm,he,K,hK,u_,hlen,iu⟩:=dB h
  obtain⟨l1,l2,l3,l4⟩:=sR h
  have tz:(ft v).length=v.length:=by unfold ft;rw[if_pos l3];exact Nc _ _
  simp only[exists_const,forall_const,decide_eq_true_eq,decide_eq_false_iff_not,beq_iff_eq,sxS]
  refine⟨l3,fun _ _=>⟨by omega,⟨rfl,(UU _ _).symm⟩,fun s hs=>⟨fun aT=>⟨⟨⟨f,?_,hd⟩,Int.natCast_nonneg s,?_⟩,fun _=>⟨s+1,by omega,by omega,?_,?_⟩⟩,fun jV=>?_⟩⟩⟩
  ·refine Re h (by rw[jP,tz]) ?_
   subst hd
   unfold aq
   refine decide_eq_true fun x hx=>?_
   obtain⟨t,ht,rfl⟩:=List.getElem_of_mem hx
   have:=UW (g:=bV f) (T:=(ar f).1.2.2) (b9 hm).1 (Jv (b9 hm).1 he) s t
   simp only[hY,List.getElem_map,List.getElem_range]
   have h2:El (af f) (tD (ar f).1 (ft v) s t):=this
   exact⟨h2.1,Int.le_sub_one_of_lt h2.2⟩
  ·rw[jP,tz];omega
  ·rw[wrap_small (by omega)];rfl
  ·rw[jP]
   exact UT (K:=K) (by rw[tz];exact hlen) (by omega)
  ·have bb:s=(aE v.length).toNat:=by omega
   rw[bb,hd,WH h,hK,wJ hm iu]
   rfl
def YT(p:Int)(a b:List Int)(i:Nat):Nat->Int
 | 0=>0
 | j+1=>(YT p a b i j+(if i<j then p-a.getD j 0*b.getD ((i+a.length-j)%a.length) 0%p else a.getD j 0*b.getD ((i+a.length-j)%a.length) 0%p))%p
theorem H7{p:Int}{a b:List Int}{i:Nat}(hi:i<a.length):∀ j,j<=a.length->YT p a b i j=jY p a b i j
 | 0,_=>rfl
 | j+1,hj=>by
   rw[YT,jY,H7 hi j (by omega)]
   by_cases h:i<j
   ·rw[if_pos h,if_neg (by omega),Nat.mod_eq_of_lt (by omega)]
    unfold bR mulM
    generalize a.getD j 0*b.getD (i+a.length-j) 0%p=X
    rw[show jY p a b i j+(p-X)=jY p a b i j-X+p*1 by omega,Int.add_mul_emod_self_left]
   ·rw[if_neg h,if_pos (by omega),show i+a.length-j=(i-j)+a.length by omega,Nat.add_mod_right,Nat.mod_eq_of_lt (by omega)]
    rfl
theorem YU{p:Int}(hp:au p)(a b:List Int)(t:Nat):∀ x,El p (jY p a b t x)
 | 0=>gA hp
 | x+1=>by
   rw[jY]
   split
   ·exact xR hp _ _
   ·exact lC hp _ _
theorem V3{n x y t:Nat}(hx:x<n)(hy:y<n)(ht:t<n):(t+n-x)%n=y↔(if x+y<n then t=x+y else t=x+y-n):=by
 rcases Nat.lt_or_ge t x with h|h
 ·rw[Nat.mod_eq_of_lt (by omega)]
  split<;>omega
 ·rw[show t+n-x=(t-x)+n by omega,Nat.add_mod_right,Nat.mod_eq_of_lt (by omega)]
  split<;>omega
theorem Q2{p:Int}{a out:List Int}{i:Nat}(hi:i≠0):∀ j,jX p a out i j%p=bR p 0 (qX p a out i j)
 | 0=>by
   unfold jX qX bR
   rw[if_neg hi];rfl
 | j+1=>by
   have h:=Q2 hi (p:=p) (a:=a) (out:=out) j
   rw[jX,qX]
   generalize mulM p (a.getD (j+1) 0) (out.getD (i-(j+1)) 0)=m at *
   unfold bR eO at *
   rw[mod_mod,<-pf,h,pf,mQ]
   congr 1
   omega
theorem C4(p:Int)(a:List Int):∀ k,(ck p a k).length=k
 | 0=>rfl
 | k+1=>by rw[ck,List.length_append,C4 p a k];rfl
theorem Z3(p:Int)(a b:List Int)(n:Nat):(AO p a b n).length=n:=eB _ _
theorem PZ :
 ∀(d:Int×List Int×List Int),Ty.wf ai d.1/\Ty.wf aj d.2.1/\Ty.wf aj d.2.2->True->True/\((!eN d.1 d.2.1 d.2.2)=true->[]=i_ d.1 d.2.1 d.2.2)/\((!eN d.1 d.2.1 d.2.2)=false->True/\(Ty.wf ai (af d.1)->(0:Nat)<=d.2.1.length/\((d.1=d.1/\ae d.2.1/\ae d.2.2/\aQ/\ae (af d.1)/\ae (d.2.1.length:Int)/\(0:Int)=(↑(0:Nat):Int))/\[]=AO (af d.1) d.2.1 d.2.2 (0:Nat))/\∀(x:Nat),x<=d.2.1.length->(decide ((x:Int)<(d.2.1.length:Int))=true->(0:Nat)<=d.2.1.length/\((d.1=d.1/\ae d.2.1/\ae d.2.2/\aQ/\ae (af d.1)/\ae (d.2.1.length:Int)/\ae (x:Int)/\(0:Int)=jY (af d.1) d.2.1 d.2.2 x (0:Nat)/\(0:Int)=(↑(0:Nat):Int))/\ae (AO (af d.1) d.2.1 d.2.2 x))/\∀(x_1:Nat),x_1<=d.2.1.length->(decide ((x_1:Int)<(d.2.1.length:Int))=true->((0:Int)<=(x_1:Int)/\(x_1:Int)<(d.2.1.length:Int))/\(d.2.1.length:Int)≠(0:Int)/\((0:Int)<=Int.tmod (i64.wrap (i64.wrap ((x:Int)-(x_1:Int))+(d.2.1.length:Int))) (d.2.1.length:Int)/\Int.tmod (i64.wrap (i64.wrap ((x:Int)-(x_1:Int))+(d.2.1.length:Int))) (d.2.1.length:Int)<(d.2.2.length:Int))/\af d.1≠(0:Int)/\(decide ((x:Int)<(x_1:Int))=true->af d.1≠(0:Int)/\∃(x':Nat),x'<=d.2.1.length/\d.2.1.length-x'<d.2.1.length-x_1/\(d.1=d.1/\ae d.2.1/\ae d.2.2/\aQ/\ae (af d.1)/\ae (d.2.1.length:Int)/\ae (x:Int)/\Int.tmod (i64.wrap (jY (af d.1) d.2.1 d.2.2 x x_1+i64.wrap (af d.1-Int.tmod (i64.wrap (d.2.1.getD ((x_1:Int).toNat) (0:Int)*d.2.2.getD (Int.toNat (Int.tmod (i64.wrap (i64.wrap ((x:Int)-(x_1:Int))+(d.2.1.length:Int))) (d.2.1.length:Int))) (0:Int))) (af d.1)))) (af d.1)=jY (af d.1) d.2.1 d.2.2 x x'/\i64.wrap ((x_1:Int)+(1:Int))=(x':Int))/\ae (AO (af d.1) d.2.1 d.2.2 x))/\(decide ((x:Int)<(x_1:Int))=false->af d.1≠(0:Int)/\∃(x':Nat),x'<=d.2.1.length/\d.2.1.length-x'<d.2.1.length-x_1/\(d.1=d.1/\ae d.2.1/\ae d.2.2/\aQ/\ae (af d.1)/\ae (d.2.1.length:Int)/\ae (x:Int)/\Int.tmod (i64.wrap (jY (af d.1) d.2.1 d.2.2 x x_1+Int.tmod (i64.wrap (d.2.1.getD ((x_1:Int).toNat) (0:Int)*d.2.2.getD (Int.toNat (Int.tmod (i64.wrap (i64.wrap ((x:Int)-(x_1:Int))+(d.2.1.length:Int))) (d.2.1.length:Int))) (0:Int))) (af d.1))) (af d.1)=jY (af d.1) d.2.1 d.2.2 x x'/\i64.wrap ((x_1:Int)+(1:Int))=(x':Int))/\ae (AO (af d.1) d.2.1 d.2.2 x)))/\(decide ((x_1:Int)<(d.2.1.length:Int))=false->(List.length (AO (af d.1) d.2.1 d.2.2 x)+List.length [jY (af d.1) d.2.1 d.2.2 x x_1])*(8:Nat)<=(140737488355328:Nat)/\∃(x':Nat),x'<=d.2.1.length/\d.2.1.length-x'<d.2.1.length-x/\(d.1=d.1/\ae d.2.1/\ae d.2.2/\aQ/\ae (af d.1)/\ae (d.2.1.length:Int)/\i64.wrap ((x:Int)+(1:Int))=(x':Int))/\AO (af d.1) d.2.1 d.2.2 x++[jY (af d.1) d.2.1 d.2.2 x x_1]=AO (af d.1) d.2.1 d.2.2 x'))/\(decide ((x:Int)<(d.2.1.length:Int))=false->AO (af d.1) d.2.1 d.2.2 x=i_ d.1 d.2.1 d.2.2))):=by
  intro d hw hp
  obtain⟨f,a,b⟩:=d
  simp only[exists_const,forall_const,decide_eq_true_eq,decide_eq_false_iff_not,beq_iff_eq,sxS]
  refine⟨fun h=>by unfold i_;rw[if_neg (by rw[h];simp)],fun h _=>?_⟩
  obtain⟨ki,ha,hb⟩:=C6 h
  obtain⟨hm,qv,_⟩:=dB ha
  obtain⟨_,lp,_⟩:=dB hb
  obtain⟨l1,l2,l3,l4⟩:=sR ha
  have tC:=(b9 hm).1
  have aJ:=tC
  unfold au at aJ
  refine⟨Nat.zero_le _,⟨rfl,rfl⟩,fun i hi=>⟨fun v9=>⟨Nat.zero_le _,⟨rfl,rfl⟩,fun j hj=>⟨fun L_=>?_,fun hjg=>⟨?_,i+1,by omega,by omega,?_,?_⟩⟩⟩,fun hig=>?_⟩⟩
  ·have Bx:(i64.wrap (i64.wrap ((i:Int)-(j:Int))+(a.length:Int))).tmod (a.length:Int)=(((i+a.length-j)%a.length:Nat):Int):=by
    rw[wrap_small (n:=(i:Int)-j) (by omega),wrap_small (by omega),Int.tmod_eq_emod_of_nonneg (by omega)]
    have:(i:Int)-j+a.length=((i+a.length-j:Nat):Int):=by omega
    rw[this];rfl
   have aT:(i+a.length-j)%a.length<a.length:=Nat.mod_lt _ l1
   have Jj:=H7 (p:=af f) (a:=a) (b:=b) (i:=i) (by omega) j (by omega)
   have Mn:=H7 (p:=af f) (a:=a) (b:=b) (i:=i) (by omega) (j+1) (by omega)
   rw[YT,Jj] at Mn
   have e4:=YU tC a b i j
   unfold El at e4
   have e1:=mJ tC (eY tC qv j) (eY tC lp ((i+a.length-j)%a.length))
   rw[Bx,Int.toNat_natCast,wrap_small (n:=a.getD j 0*b.getD ((i+a.length-j)%a.length) 0) (by omega),Int.tmod_eq_emod_of_nonneg e1.1]
   have e5:=ei (p:=af f) (by omega) (a.getD j 0*b.getD ((i+a.length-j)%a.length) 0)
   unfold El at e5
   generalize a.getD j 0*b.getD ((i+a.length-j)%a.length) 0%af f=X at *
   refine⟨⟨by omega,L_⟩,by omega,⟨by omega,by omega⟩,hm,fun hc=>⟨hm,j+1,by omega,by omega,?_,?_⟩,fun hc=>⟨hm,j+1,by omega,by omega,?_,?_⟩⟩
   ·rw[if_pos (by omega)] at Mn
    rw[wrap_small (n:=af f-X) (by omega),wrap_small (by omega),Int.tmod_eq_emod_of_nonneg (by omega),Mn]
   ·rw[wrap_small (by omega)];rfl
   ·rw[if_neg (by omega)] at Mn
    rw[wrap_small (by omega),Int.tmod_eq_emod_of_nonneg (by omega),Mn]
   ·rw[wrap_small (by omega)];rfl
  ·rw[Z3,List.length_singleton];omega
  ·rw[wrap_small (by omega)];rfl
  ·rw[show j=a.length by omega]
   simp[AO,List.range_succ]
  ·rw[show i=a.length by omega]
   unfold i_ AO
   rw[if_pos h]
theorem yF{f:Int}{ls:List (List Int)}{k:Nat}(hk:k<ls.length)(h:¬(aH f (ls.getD k [])=true/\(ls.getD k []).length=(ls.getD 0 []).length)):((0,0,0),false)=aR f ls:=by
 unfold aR
 rw[if_neg]
 intro hb
 unfold uf at hb
 have hb:=of_decide_eq_true hb
 apply h
 refine hb _ ?_
 rw[List.getD_eq_getElem?_getD,List.getElem?_eq_getElem hk]
 exact List.getElem_mem _
theorem EU :
 ∀(d:Int×List (List Int)),Ty.wf ai d.1/\Ty.wf (Ty.sl aj) d.2->d.2.length=(2:Nat)->True/\(Ty.wf bW (ar d.1).1/\Ty.wf Ty.bool (ar d.1).2->((!(ar d.1).2)=true->(((0:Int),(0:Int),(0:Int)),false)=aR d.1 d.2)/\((!(ar d.1).2)=false->((0:Nat)<=d.2.length/\Rm d.1 d.2 (0:Nat))/\((d.1=d.1/\d.2=d.2/\ae ((ar d.1).2)/\d.2=d.2/\ae (d.2.length:Int)/\(0:Int)=(↑(0:Nat):Int))/\(ae (0:Int)/\ae (0:Int)/\ae (0:Int))/\ae ((ar d.1).1.1)/\ae ((ar d.1).1.2.1)/\ae ((ar d.1).1.2.2))/\∀(x:Nat),x<=d.2.length/\Rm d.1 d.2 x->(decide ((x:Int)<(d.2.length:Int))=true->((0:Int)<=(x:Int)/\(x:Int)<(d.2.length:Int))/\True/\(Ty.wf ai (aE (↑(List.length (d.2.getD ((x:Int).toNat) [])):Int))->(decide (aE (↑(List.length (d.2.getD ((x:Int).toNat) [])):Int)<(0:Int))=true->(((0:Int),(0:Int),(0:Int)),false)=aR d.1 d.2)/\(decide (aE (↑(List.length (d.2.getD ((x:Int).toNat) [])):Int)<(0:Int))=false->(decide (Prod.snd (ar d.1).1.2<aE (↑(List.length (d.2.getD ((x:Int).toNat) [])):Int))=true->(((0:Int),(0:Int),(0:Int)),false)=aR d.1 d.2)/\(decide (Prod.snd (ar d.1).1.2<aE (↑(List.length (d.2.getD ((x:Int).toNat) [])):Int))=false->True/\((!aq (ar d.1).1.1 (d.2.getD ((x:Int).toNat) []))=true->(((0:Int),(0:Int),(0:Int)),false)=aR d.1 d.2)/\((!aq (ar d.1).1.1 (d.2.getD ((x:Int).toNat) []))=false->((0:Int)<=(0:Int)/\(0:Int)<(d.2.length:Int))/\((!decide ((↑(List.length (d.2.getD ((x:Int).toNat) [])):Int)=(↑(List.length (d.2.getD ((0:Int).toNat) [])):Int)))=true->(((0:Int),(0:Int),(0:Int)),false)=aR d.1 d.2)/\((!decide ((↑(List.length (d.2.getD ((x:Int).toNat) [])):Int)=(↑(List.length (d.2.getD ((0:Int).toNat) [])):Int)))=false->∃(x':Nat),(x'<=d.2.length/\Rm d.1 d.2 x')/\d.2.length-x'<d.2.length-x/\(d.1=d.1/\d.2=d.2/\ae ((ar d.1).2)/\d.2=d.2/\ae (d.2.length:Int)/\i64.wrap ((x:Int)+(1:Int))=(x':Int))/\(ae (0:Int)/\ae (0:Int)/\ae (0:Int))/\ae ((ar d.1).1.1)/\ae ((ar d.1).1.2.1)/\ae ((ar d.1).1.2.2)))))))/\(decide ((x:Int)<(d.2.length:Int))=false->(Prod.fst (ar d.1),true)=aR d.1 d.2))):=by
  intro d hw hp
  obtain⟨f,ls⟩:=d
  replace hp:ls.length=2:=hp
  simp only[exists_const,forall_const,decide_eq_true_eq,decide_eq_false_iff_not,beq_iff_eq,sxS]
  refine fun _=>⟨fun h=>?_,fun h=>?_⟩
  ·have hm:af f=0:=by
    rcases Js f with h1|h1
    ·exact h1.1
    ·have:=fU.2 h1.2
     rw[h] at this;cases this
   refine yF (k:=0) (by omega) (fun hv=>?_)
   exact (dB hv.1).1 hm
  ·have hf:=fU.1 h
   have hm:af f≠0:=by have:=(kr hf).1;omega
   have ht:dP f=(ar f).1.2.2:=by unfold dP;rw[if_pos h]
   have QB:(ar f).1.1=af f:=rfl
   refine⟨⟨Nat.zero_le _,fun i hi=>absurd hi (Nat.not_lt_zero _)⟩,rfl,fun k hk=>⟨fun aT=>⟨⟨by omega,aT⟩,fun _=>?_⟩,fun jV=>?_⟩⟩
   ·have QA:k<ls.length:=by omega
    refine⟨fun h1=>?_,fun h1=>⟨fun h2=>?_,fun h2=>⟨fun h3=>?_,fun h3=>⟨⟨by omega,by omega⟩,fun h4=>?_,fun h4=>⟨k+1,⟨by omega,fun i hi=>?_⟩,by omega,?_⟩⟩⟩⟩⟩
    ·refine yF QA (fun hv=>?_)
     have:=(sR hv.1).2.2.1
     omega
    ·refine yF QA (fun hv=>?_)
     obtain⟨_,_,K,hK,_,_,iu⟩:=dB hv.1
     omega
    ·refine yF QA (fun hv=>?_)
     obtain⟨_,he,_⟩:=dB hv.1
     rw[QB,he] at h3;cases h3
    ·refine yF QA (fun hv=>?_)
     have:=hv.2
     rw[this] at h4
     exact h4 rfl
    ·rcases Nat.lt_or_ge i k with ia|ia
     ·exact hk.2 i ia
     ·have:i=k:=by omega
      subst this
      refine⟨?_,by exact_mod_cast h4⟩
      unfold aH
      simp only[Bool.and_eq_true,decide_eq_true_eq]
      exact⟨⟨by omega,by omega⟩,iH hm (by rw[<-QB];exact h3)⟩
    ·have:=hk.1
     rw[wrap_small (by omega)];rfl
   ·unfold aR
    have hb:uf f ls=true:=by
     unfold uf
     refine decide_eq_true fun v hv=>?_
     obtain⟨i,hi,rfl⟩:=List.getElem_of_mem hv
     have:=hk.2 i (by have:=hk.1;omega)
     rw[List.getD_eq_getElem?_getD,List.getElem?_eq_getElem hi] at this
     exact this
    rw[if_pos hb]
theorem Oh :
 ∀(d:(Int×Int×Int)×List Int),Ty.wf bW d.1/\Ty.wf aj d.2->oB d.1 d.2->d.1.1≠(0:Int)/\(au d.1.1/\El d.1.1 (Int.tmod (d.2.length:Int) d.1.1))/\(Ty.wf ai (bk d.1.1 (Int.tmod (d.2.length:Int) d.1.1))->((0:Int)<=(d.2.length:Int)/\(d.2.length:Int)<=(d.2.length:Int)/\(d.2.length:Int)*(↑(8:Nat):Int)<=(140737488355328:Int))/\oB d.1 d.2/\(Ty.wf aj (bD d.1.1 d.2 (bc d.1 (aE (d.2.length:Int))) d.2.length)->(0:Nat)<=d.2.length/\(((ae d.1.1/\ae d.1.2.1/\ae d.1.2.2)/\d.2=d.2/\aQ/\ae (d.2.length:Int)/\ae (bk d.1.1 (Int.tmod (d.2.length:Int) d.1.1))/\ae (↑(List.length (bD d.1.1 d.2 (bc d.1 (aE (d.2.length:Int))) d.2.length)):Int)/\(0:Int)=(↑(0:Nat):Int))/\(ae d.1.1/\ae d.1.2.1/\ae d.1.2.2)/\List.replicate ((d.2.length:Int).toNat) (0:Int)=A_ d.1.1 (bc d.1 (aE (d.2.length:Int))) (bk d.1.1 (zM d.1.1 (d.2.length:Int))) d.2 (0:Nat)/\ae (bD d.1.1 d.2 (bc d.1 (aE (d.2.length:Int))) d.2.length))/\∀(x:Nat),x<=d.2.length->(decide ((x:Int)<(↑(List.length (bD d.1.1 d.2 (bc d.1 (aE (d.2.length:Int))) d.2.length)):Int))=true->((0:Int)<=(x:Int)/\(x:Int)<(↑(List.length (bD d.1.1 d.2 (bc d.1 (aE (d.2.length:Int))) d.2.length)):Int))/\(d.2.length:Int)≠(0:Int)/\(au d.1.1/\El d.1.1 (List.getD (bD d.1.1 d.2 (bc d.1 (aE (d.2.length:Int))) d.2.length) ((x:Int).toNat) (0:Int))/\El d.1.1 (bk d.1.1 (Int.tmod (d.2.length:Int) d.1.1)))/\((0:Int)<=Int.tmod (i64.wrap ((d.2.length:Int)-(x:Int))) (d.2.length:Int)/\Int.tmod (i64.wrap ((d.2.length:Int)-(x:Int))) (d.2.length:Int)<(↑(List.length (A_ d.1.1 (bc d.1 (aE (d.2.length:Int))) (bk d.1.1 (zM d.1.1 (d.2.length:Int))) d.2 x)):Int))/\(Ty.wf ai (mulM d.1.1 (List.getD (bD d.1.1 d.2 (bc d.1 (aE (d.2.length:Int))) d.2.length) ((x:Int).toNat) (0:Int)) (bk d.1.1 (Int.tmod (d.2.length:Int) d.1.1)))->∃(x':Nat),x'<=d.2.length/\d.2.length-x'<d.2.length-x/\((ae d.1.1/\ae d.1.2.1/\ae d.1.2.2)/\d.2=d.2/\aQ/\ae (d.2.length:Int)/\ae (bk d.1.1 (Int.tmod (d.2.length:Int) d.1.1))/\ae (↑(List.length (bD d.1.1 d.2 (bc d.1 (aE (d.2.length:Int))) d.2.length)):Int)/\i64.wrap ((x:Int)+(1:Int))=(x':Int))/\(ae d.1.1/\ae d.1.2.1/\ae d.1.2.2)/\List.set (A_ d.1.1 (bc d.1 (aE (d.2.length:Int))) (bk d.1.1 (zM d.1.1 (d.2.length:Int))) d.2 x) (Int.toNat (Int.tmod (i64.wrap ((d.2.length:Int)-(x:Int))) (d.2.length:Int))) (mulM d.1.1 (List.getD (bD d.1.1 d.2 (bc d.1 (aE (d.2.length:Int))) d.2.length) ((x:Int).toNat) (0:Int)) (bk d.1.1 (Int.tmod (d.2.length:Int) d.1.1)))=A_ d.1.1 (bc d.1 (aE (d.2.length:Int))) (bk d.1.1 (zM d.1.1 (d.2.length:Int))) d.2 x'/\ae (bD d.1.1 d.2 (bc d.1 (aE (d.2.length:Int))) d.2.length)))/\(decide ((x:Int)<(↑(List.length (bD d.1.1 d.2 (bc d.1 (aE (d.2.length:Int))) d.2.length)):Int))=false->A_ d.1.1 (bc d.1 (aE (d.2.length:Int))) (bk d.1.1 (zM d.1.1 (d.2.length:Int))) d.2 x=vN d.1.1 (bc d.1 (aE (d.2.length:Int))) (bk d.1.1 (d.2.length:Int)) d.2))):=by
  intro d hw hp
  obtain⟨d,v⟩:=d
  obtain⟨f,h,hd⟩:=hp
  replace h:aH f v=true:=h
  replace hd:d=(ar f).1:=hd
  obtain⟨hm,he,K,hK,u_,hlen,iu⟩:=dB h
  obtain⟨l1,l2,l3,l4⟩:=sR h
  have tC:=(b9 hm).1
  have aJ:=tC
  unfold au at aJ
  have FV:d.1=af f:=by rw[hd];rfl
  have htm:(v.length:Int).tmod d.1=zM d.1 v.length:=by rw[Int.tmod_eq_emod_of_nonneg (by omega)];rfl
  have sy:au d.1:=by rw[FV];exact tC
  have nv:∀ w r i,(A_ d.1 w r v i).length=v.length:=fun w r i=>eB _ _
  simp only[exists_const,forall_const,decide_eq_true_eq,decide_eq_false_iff_not,beq_iff_eq,sxS]
  rw[htm]
  have hinv:bk d.1 (zM d.1 v.length)=bk d.1 v.length:=by unfold bk b6 zM;rw[pow_mod]
  generalize Yz:bc d (aE v.length)=w at *
  refine⟨by omega,⟨sy,ei (by omega) _⟩,fun _=>⟨⟨by omega,by omega,by show (v.length:Int)*((8:Nat):Int)<=140737488355328;omega⟩,⟨f,h,hd⟩,fun _=>⟨Nat.zero_le _,⟨rfl,?_⟩,fun i hi=>⟨fun aT=>?_,fun jV=>?_⟩⟩⟩⟩
  ·refine List.ext_getElem (by rw[nv,List.length_replicate]) fun t h1 h2=>?_
   simp[A_]
  ·rw[fT] at aT ⊢
   have cF:i<v.length:=by omega
   have Bx:(i64.wrap ((v.length:Int)-(i:Int))).tmod (v.length:Int)=(((v.length-i)%v.length:Nat):Int):=by
    rw[wrap_small (by omega),Int.tmod_eq_emod_of_nonneg (by omega)]
    have:(v.length:Int)-i=((v.length-i:Nat):Int):=by omega
    rw[this];rfl
   have Yp:(v.length-i)%v.length<v.length:=Nat.mod_lt _ l1
   rw[Lw _ _ _ cF,Bx,Int.toNat_natCast,nv]
   refine⟨⟨by omega,aT⟩,by omega,⟨sy,ei (by omega) _,uj sy _⟩,⟨by omega,by omega⟩,fun _=>⟨i+1,by omega,by omega,?_,?_⟩⟩
   ·rw[wrap_small (by omega)];rfl
   ·have Yh:(v.length-(v.length-i)%v.length)%v.length=i:=by
     rcases Nat.eq_zero_or_pos i with h0|h0
     ·subst h0;rw[Nat.sub_zero,Nat.mod_self,Nat.sub_zero,Nat.mod_self]
     ·rw[Nat.mod_eq_of_lt (by omega:v.length-i<v.length),show v.length-(v.length-i)=i by omega,Nat.mod_eq_of_lt cF]
    refine List.ext_getElem (by rw[List.length_set,nv,nv]) fun t h1 h2=>?_
    rw[nv] at h2
    rw[List.getElem_set]
    have ny:(v.length-t)%v.length<v.length:=Nat.mod_lt _ l1
    by_cases ht:(v.length-i)%v.length=t
    ·rw[if_pos ht]
     subst ht
     simp only[A_,List.getElem_map,List.getElem_range]
     rw[Yh,if_pos (Nat.lt_succ_self i)]
     unfold Hi
     rw[Yh]
    ·rw[if_neg ht]
     simp only[A_,List.getElem_map,List.getElem_range]
     have bo:(v.length-t)%v.length≠i:=by
      intro e
      apply ht
      rw[<-e]
      rcases Nat.eq_zero_or_pos t with h0|h0
      ·subst h0;rw[Nat.sub_zero,Nat.mod_self,Nat.sub_zero,Nat.mod_self]
      ·rw[Nat.mod_eq_of_lt (by omega:v.length-t<v.length),show v.length-(v.length-t)=t by omega,Nat.mod_eq_of_lt h2]
     by_cases hc:(v.length-t)%v.length<i
     ·rw[if_pos hc,if_pos (by omega)]
     ·rw[if_neg hc,if_neg (by omega)]
  ·rw[fT] at jV
   rw[show i=v.length by omega,hinv]
   refine List.ext_getElem (by rw[nv];unfold vN;rw[eB]) fun t h1 h2=>?_
   simp only[A_,vN,List.getElem_map,List.getElem_range]
   rw[if_pos (Nat.mod_lt _ l1)]
set_option maxRecDepth 10000
theorem Ta :
 ∀(d:(Int×Int×Int)×List Int×List Int),Ty.wf bW d.1/\Ty.wf aj d.2.1/\Ty.wf aj d.2.2->au d.1.1/\aq d.1.1 d.2.1=true/\(2:Nat)<=d.2.1.length/\d.2.1.length<=(1000:Nat)/\Wm d.1.1 d.2.2->((0:Nat)+d.2.1.length)*(8:Nat)<=(140737488355328:Nat)/\(decide ((d.2.1.length:Int)<(d.2.2.length:Int))=true->([],[]++d.2.1)=ra d.1.1 d.2.1 d.2.2)/\(decide ((d.2.1.length:Int)<(d.2.2.length:Int))=false->((0:Int)<=i64.wrap (i64.wrap ((d.2.1.length:Int)-(d.2.2.length:Int))+(1:Int))/\i64.wrap (i64.wrap ((d.2.1.length:Int)-(d.2.2.length:Int))+(1:Int))<=i64.wrap (i64.wrap ((d.2.1.length:Int)-(d.2.2.length:Int))+(1:Int))/\i64.wrap (i64.wrap ((d.2.1.length:Int)-(d.2.2.length:Int))+(1:Int))*(↑(8:Nat):Int)<=(140737488355328:Int))/\((0:Int)<=i64.wrap ((d.2.2.length:Int)-(1:Int))/\i64.wrap ((d.2.2.length:Int)-(1:Int))<(d.2.2.length:Int))/\(au d.1.1/\El d.1.1 (d.2.2.getD (Int.toNat (i64.wrap ((d.2.2.length:Int)-(1:Int)))) (0:Int)))/\(Ty.wf ai (bk d.1.1 (d.2.2.getD (Int.toNat (i64.wrap ((d.2.2.length:Int)-(1:Int)))) (0:Int)))->(0:Nat)<=d.2.1.length-(1:Nat)/\(((ae d.1.1/\ae d.1.2.1/\ae d.1.2.2)/\ae d.2.1/\ae d.2.2/\aQ/\aQ/\ae (bk d.1.1 (d.2.2.getD (Int.toNat (i64.wrap ((d.2.2.length:Int)-(1:Int)))) (0:Int)))/\i64.wrap ((↑(List.length (List.replicate (Int.toNat (i64.wrap (i64.wrap ((d.2.1.length:Int)-(d.2.2.length:Int))+(1:Int)))) (0:Int))):Int)-(1:Int))=(d.2.1.length:Int)-(2:Int)-(↑(0:Nat):Int))/\(ae d.1.1/\ae d.1.2.1/\ae d.1.2.2)/\[]++d.2.1=cQ d.1.1 (d.2.2.getD (0:Nat) (0:Int)) d.2.1 (0:Nat)/\List.replicate (Int.toNat (i64.wrap (i64.wrap ((d.2.1.length:Int)-(d.2.2.length:Int))+(1:Int)))) (0:Int)=mb d.1.1 (d.2.2.getD (0:Nat) (0:Int)) d.2.1 (0:Nat))/\∀(x:Nat),x<=d.2.1.length-(1:Nat)->(decide ((0:Int)<=(d.2.1.length:Int)-(2:Int)-(x:Int))=true->((0:Int)<=i64.wrap (i64.wrap ((d.2.1.length:Int)-(2:Int)-(x:Int)+(d.2.2.length:Int))-(1:Int))/\i64.wrap (i64.wrap ((d.2.1.length:Int)-(2:Int)-(x:Int)+(d.2.2.length:Int))-(1:Int))<(↑(List.length (cQ d.1.1 (d.2.2.getD (0:Nat) (0:Int)) d.2.1 x)):Int))/\(au d.1.1/\El d.1.1 (List.getD (cQ d.1.1 (d.2.2.getD (0:Nat) (0:Int)) d.2.1 x) (Int.toNat (i64.wrap (i64.wrap ((d.2.1.length:Int)-(2:Int)-(x:Int)+(d.2.2.length:Int))-(1:Int)))) (0:Int))/\El d.1.1 (bk d.1.1 (d.2.2.getD (Int.toNat (i64.wrap ((d.2.2.length:Int)-(1:Int)))) (0:Int))))/\(Ty.wf ai (mulM d.1.1 (List.getD (cQ d.1.1 (d.2.2.getD (0:Nat) (0:Int)) d.2.1 x) (Int.toNat (i64.wrap (i64.wrap ((d.2.1.length:Int)-(2:Int)-(x:Int)+(d.2.2.length:Int))-(1:Int)))) (0:Int)) (bk d.1.1 (d.2.2.getD (Int.toNat (i64.wrap ((d.2.2.length:Int)-(1:Int)))) (0:Int))))->((0:Int)<=(d.2.1.length:Int)-(2:Int)-(x:Int)/\(d.2.1.length:Int)-(2:Int)-(x:Int)<(↑(List.length (mb d.1.1 (d.2.2.getD (0:Nat) (0:Int)) d.2.1 x)):Int))/\(decide (mulM d.1.1 (List.getD (cQ d.1.1 (d.2.2.getD (0:Nat) (0:Int)) d.2.1 x) (Int.toNat (i64.wrap (i64.wrap ((d.2.1.length:Int)-(2:Int)-(x:Int)+(d.2.2.length:Int))-(1:Int)))) (0:Int)) (bk d.1.1 (d.2.2.getD (Int.toNat (i64.wrap ((d.2.2.length:Int)-(1:Int)))) (0:Int)))=(0:Int))=true->∃(x':Nat),x'<=d.2.1.length-(1:Nat)/\d.2.1.length-(1:Nat)-x'<d.2.1.length-(1:Nat)-x/\((ae d.1.1/\ae d.1.2.1/\ae d.1.2.2)/\ae d.2.1/\ae d.2.2/\aQ/\aQ/\ae (bk d.1.1 (d.2.2.getD (Int.toNat (i64.wrap ((d.2.2.length:Int)-(1:Int)))) (0:Int)))/\i64.wrap ((d.2.1.length:Int)-(2:Int)-(x:Int)-(1:Int))=(d.2.1.length:Int)-(2:Int)-(x':Int))/\(ae d.1.1/\ae d.1.2.1/\ae d.1.2.2)/\cQ d.1.1 (d.2.2.getD (0:Nat) (0:Int)) d.2.1 x=cQ d.1.1 (d.2.2.getD (0:Nat) (0:Int)) d.2.1 x'/\List.set (mb d.1.1 (d.2.2.getD (0:Nat) (0:Int)) d.2.1 x) (Int.toNat ((d.2.1.length:Int)-(2:Int)-(x:Int))) (mulM d.1.1 (List.getD (cQ d.1.1 (d.2.2.getD (0:Nat) (0:Int)) d.2.1 x) (Int.toNat (i64.wrap (i64.wrap ((d.2.1.length:Int)-(2:Int)-(x:Int)+(d.2.2.length:Int))-(1:Int)))) (0:Int)) (bk d.1.1 (d.2.2.getD (Int.toNat (i64.wrap ((d.2.2.length:Int)-(1:Int)))) (0:Int))))=mb d.1.1 (d.2.2.getD (0:Nat) (0:Int)) d.2.1 x')/\(decide (mulM d.1.1 (List.getD (cQ d.1.1 (d.2.2.getD (0:Nat) (0:Int)) d.2.1 x) (Int.toNat (i64.wrap (i64.wrap ((d.2.1.length:Int)-(2:Int)-(x:Int)+(d.2.2.length:Int))-(1:Int)))) (0:Int)) (bk d.1.1 (d.2.2.getD (Int.toNat (i64.wrap ((d.2.2.length:Int)-(1:Int)))) (0:Int)))=(0:Int))=false->(0:Nat)<=(2:Nat)/\(((ae d.1.1/\ae d.1.2.1/\ae d.1.2.2)/\ae d.2.1/\ae d.2.2/\aQ/\aQ/\ae (bk d.1.1 (d.2.2.getD (Int.toNat (i64.wrap ((d.2.2.length:Int)-(1:Int)))) (0:Int)))/\ae ((d.2.1.length:Int)-(2:Int)-(x:Int))/\ae (mulM d.1.1 (List.getD (cQ d.1.1 (d.2.2.getD (0:Nat) (0:Int)) d.2.1 x) (Int.toNat (i64.wrap (i64.wrap ((d.2.1.length:Int)-(2:Int)-(x:Int)+(d.2.2.length:Int))-(1:Int)))) (0:Int)) (bk d.1.1 (d.2.2.getD (Int.toNat (i64.wrap ((d.2.2.length:Int)-(1:Int)))) (0:Int))))/\ae d.2.2/\ae (d.2.2.length:Int)/\(0:Int)=(↑(0:Nat):Int))/\(ae d.1.1/\ae d.1.2.1/\ae d.1.2.2)/\cQ d.1.1 (d.2.2.getD (0:Nat) (0:Int)) d.2.1 x=mn d.1.1 (d.2.2.getD (0:Nat) (0:Int)) d.2.1 x (0:Nat)/\List.set (mb d.1.1 (d.2.2.getD (0:Nat) (0:Int)) d.2.1 x) (Int.toNat ((d.2.1.length:Int)-(2:Int)-(x:Int))) (mulM d.1.1 (List.getD (cQ d.1.1 (d.2.2.getD (0:Nat) (0:Int)) d.2.1 x) (Int.toNat (i64.wrap (i64.wrap ((d.2.1.length:Int)-(2:Int)-(x:Int)+(d.2.2.length:Int))-(1:Int)))) (0:Int)) (bk d.1.1 (d.2.2.getD (Int.toNat (i64.wrap ((d.2.2.length:Int)-(1:Int)))) (0:Int))))=mb d.1.1 (d.2.2.getD (0:Nat) (0:Int)) d.2.1 (x+(1:Nat)))/\∀(x_1:Nat),x_1<=(2:Nat)->(decide ((x_1:Int)<(d.2.2.length:Int))=true->((0:Int)<=(x_1:Int)/\(x_1:Int)<(d.2.2.length:Int))/\((0:Int)<=i64.wrap ((d.2.1.length:Int)-(2:Int)-(x:Int)+(x_1:Int))/\i64.wrap ((d.2.1.length:Int)-(2:Int)-(x:Int)+(x_1:Int))<(↑(List.length (mn d.1.1 (d.2.2.getD (0:Nat) (0:Int)) d.2.1 x x_1)):Int))/\(au d.1.1/\El d.1.1 (mulM d.1.1 (List.getD (cQ d.1.1 (d.2.2.getD (0:Nat) (0:Int)) d.2.1 x) (Int.toNat (i64.wrap (i64.wrap ((d.2.1.length:Int)-(2:Int)-(x:Int)+(d.2.2.length:Int))-(1:Int)))) (0:Int)) (bk d.1.1 (d.2.2.getD (Int.toNat (i64.wrap ((d.2.2.length:Int)-(1:Int)))) (0:Int))))/\El d.1.1 (d.2.2.getD ((x_1:Int).toNat) (0:Int)))/\(au d.1.1/\El d.1.1 (List.getD (mn d.1.1 (d.2.2.getD (0:Nat) (0:Int)) d.2.1 x x_1) (Int.toNat (i64.wrap ((d.2.1.length:Int)-(2:Int)-(x:Int)+(x_1:Int)))) (0:Int))/\El d.1.1 (mulM d.1.1 (mulM d.1.1 (List.getD (cQ d.1.1 (d.2.2.getD (0:Nat) (0:Int)) d.2.1 x) (Int.toNat (i64.wrap (i64.wrap ((d.2.1.length:Int)-(2:Int)-(x:Int)+(d.2.2.length:Int))-(1:Int)))) (0:Int)) (bk d.1.1 (d.2.2.getD (Int.toNat (i64.wrap ((d.2.2.length:Int)-(1:Int)))) (0:Int)))) (d.2.2.getD ((x_1:Int).toNat) (0:Int))))/\((0:Int)<=i64.wrap ((d.2.1.length:Int)-(2:Int)-(x:Int)+(x_1:Int))/\i64.wrap ((d.2.1.length:Int)-(2:Int)-(x:Int)+(x_1:Int))<(↑(List.length (mn d.1.1 (d.2.2.getD (0:Nat) (0:Int)) d.2.1 x x_1)):Int))/\(Ty.wf ai (bR d.1.1 (List.getD (mn d.1.1 (d.2.2.getD (0:Nat) (0:Int)) d.2.1 x x_1) (Int.toNat (i64.wrap ((d.2.1.length:Int)-(2:Int)-(x:Int)+(x_1:Int)))) (0:Int)) (mulM d.1.1 (mulM d.1.1 (List.getD (cQ d.1.1 (d.2.2.getD (0:Nat) (0:Int)) d.2.1 x) (Int.toNat (i64.wrap (i64.wrap ((d.2.1.length:Int)-(2:Int)-(x:Int)+(d.2.2.length:Int))-(1:Int)))) (0:Int)) (bk d.1.1 (d.2.2.getD (Int.toNat (i64.wrap ((d.2.2.length:Int)-(1:Int)))) (0:Int)))) (d.2.2.getD ((x_1:Int).toNat) (0:Int))))->Ty.wf ai (mulM d.1.1 (mulM d.1.1 (List.getD (cQ d.1.1 (d.2.2.getD (0:Nat) (0:Int)) d.2.1 x) (Int.toNat (i64.wrap (i64.wrap ((d.2.1.length:Int)-(2:Int)-(x:Int)+(d.2.2.length:Int))-(1:Int)))) (0:Int)) (bk d.1.1 (d.2.2.getD (Int.toNat (i64.wrap ((d.2.2.length:Int)-(1:Int)))) (0:Int)))) (d.2.2.getD ((x_1:Int).toNat) (0:Int)))->∃(x':Nat),x'<=(2:Nat)/\(2:Nat)-x'<(2:Nat)-x_1/\((ae d.1.1/\ae d.1.2.1/\ae d.1.2.2)/\ae d.2.1/\ae d.2.2/\aQ/\aQ/\ae (bk d.1.1 (d.2.2.getD (Int.toNat (i64.wrap ((d.2.2.length:Int)-(1:Int)))) (0:Int)))/\ae ((d.2.1.length:Int)-(2:Int)-(x:Int))/\ae (mulM d.1.1 (List.getD (cQ d.1.1 (d.2.2.getD (0:Nat) (0:Int)) d.2.1 x) (Int.toNat (i64.wrap (i64.wrap ((d.2.1.length:Int)-(2:Int)-(x:Int)+(d.2.2.length:Int))-(1:Int)))) (0:Int)) (bk d.1.1 (d.2.2.getD (Int.toNat (i64.wrap ((d.2.2.length:Int)-(1:Int)))) (0:Int))))/\ae d.2.2/\ae (d.2.2.length:Int)/\i64.wrap ((x_1:Int)+(1:Int))=(x':Int))/\(ae d.1.1/\ae d.1.2.1/\ae d.1.2.2)/\List.set (mn d.1.1 (d.2.2.getD (0:Nat) (0:Int)) d.2.1 x x_1) (Int.toNat (i64.wrap ((d.2.1.length:Int)-(2:Int)-(x:Int)+(x_1:Int)))) (bR d.1.1 (List.getD (mn d.1.1 (d.2.2.getD (0:Nat) (0:Int)) d.2.1 x x_1) (Int.toNat (i64.wrap ((d.2.1.length:Int)-(2:Int)-(x:Int)+(x_1:Int)))) (0:Int)) (mulM d.1.1 (mulM d.1.1 (List.getD (cQ d.1.1 (d.2.2.getD (0:Nat) (0:Int)) d.2.1 x) (Int.toNat (i64.wrap (i64.wrap ((d.2.1.length:Int)-(2:Int)-(x:Int)+(d.2.2.length:Int))-(1:Int)))) (0:Int)) (bk d.1.1 (d.2.2.getD (Int.toNat (i64.wrap ((d.2.2.length:Int)-(1:Int)))) (0:Int)))) (d.2.2.getD ((x_1:Int).toNat) (0:Int))))=mn d.1.1 (d.2.2.getD (0:Nat) (0:Int)) d.2.1 x x'/\ae (mb d.1.1 (d.2.2.getD (0:Nat) (0:Int)) d.2.1 (x+(1:Nat)))))/\(decide ((x_1:Int)<(d.2.2.length:Int))=false->∃(x':Nat),x'<=d.2.1.length-(1:Nat)/\d.2.1.length-(1:Nat)-x'<d.2.1.length-(1:Nat)-x/\((ae d.1.1/\ae d.1.2.1/\ae d.1.2.2)/\ae d.2.1/\ae d.2.2/\aQ/\aQ/\ae (bk d.1.1 (d.2.2.getD (Int.toNat (i64.wrap ((d.2.2.length:Int)-(1:Int)))) (0:Int)))/\i64.wrap ((d.2.1.length:Int)-(2:Int)-(x:Int)-(1:Int))=(d.2.1.length:Int)-(2:Int)-(x':Int))/\(ae d.1.1/\ae d.1.2.1/\ae d.1.2.2)/\mn d.1.1 (d.2.2.getD (0:Nat) (0:Int)) d.2.1 x x_1=cQ d.1.1 (d.2.2.getD (0:Nat) (0:Int)) d.2.1 x'/\mb d.1.1 (d.2.2.getD (0:Nat) (0:Int)) d.2.1 (x+(1:Nat))=mb d.1.1 (d.2.2.getD (0:Nat) (0:Int)) d.2.1 x'))))/\(decide ((0:Int)<=(d.2.1.length:Int)-(2:Int)-(x:Int))=false->((0:Int)<=i64.wrap ((d.2.2.length:Int)-(1:Int))/\i64.wrap ((d.2.2.length:Int)-(1:Int))<=(↑(List.length (cQ d.1.1 (d.2.2.getD (0:Nat) (0:Int)) d.2.1 x)):Int))/\(mb d.1.1 (d.2.2.getD (0:Nat) (0:Int)) d.2.1 x,List.take (ka (List.take (Int.toNat (i64.wrap ((d.2.2.length:Int)-(1:Int)))) (cQ d.1.1 (d.2.2.getD (0:Nat) (0:Int)) d.2.1 x))) (List.take (Int.toNat (i64.wrap ((d.2.2.length:Int)-(1:Int)))) (cQ d.1.1 (d.2.2.getD (0:Nat) (0:Int)) d.2.1 x)))=ra d.1.1 d.2.1 d.2.2))):=by
  intro (d:Fd×List Int×List Int) hw hp
  obtain⟨⟨p,g,t⟩,xs,ys⟩:=d
  replace hp:au p/\aq p xs=true/\2<=xs.length/\xs.length<=1000/\ys.length=2/\ys.getD 1 0=1/\El p (ys.getD 0 0):=hp
  obtain⟨h0,he,h2,hl,fe,jx,hr⟩:=hp
  obtain⟨r,rfl⟩:∃ r,ys=[r,1]:=by
   match ys,fe,jx with
   | [r,o],_,h=>exact⟨r,by rw[show o=1 from h]⟩
  replace hr:El p r:=hr
  simp only[exists_const,forall_const,decide_eq_true_eq,decide_eq_false_iff_not,beq_iff_eq,sxS]
  have e0:([r,1]:List Int).getD 0 0=r:=rfl
  have eL:(([r,1]:List Int).length:Int)=2:=rfl
  have w1:i64.wrap (i64.wrap ((xs.length:Int)-2)+1)=((xs.length-1:Nat):Int):=by
   rw[wrap_small (n:=(xs.length:Int)-2) (by omega),wrap_small (by omega)];omega
  have w2:i64.wrap ((2:Int)-1)=1:=wrap_small (by omega)
  have e1:([r,1]:List Int).getD (Int.toNat 1) 0=1:=rfl
  have e2:Int.toNat 1=1:=rfl
  simp only[e0,eL,w1,w2,e1,inv_one h0,Int.toNat_natCast,List.length_replicate,List.nil_append,kV,Xu,UP]
  refine⟨by omega,fun h=>absurd h (by omega),fun _=>⟨⟨by omega,by omega,by omega⟩,⟨by omega,by omega⟩,⟨h0,ke h0⟩,fun _=>⟨by omega,⟨by rw[wrap_small (by omega)];omega,UR h2 he,VD _ _ _⟩,fun k hk=>⟨fun h=>?_,fun h=>?_⟩⟩⟩⟩
  ·have w3:i64.wrap (i64.wrap ((xs.length:Int)-2-(k:Int)+2)-1)=((xs.length-1-k:Nat):Int):=by
    rw[wrap_small (n:=(xs.length:Int)-2-(k:Int)+2) (by omega),wrap_small (by omega)];omega
   have i1:(xs.length:Int)-2-(k:Int)=((xs.length-2-k:Nat):Int):=by omega
   have hc:(cQ p r xs k).getD (xs.length-1-k) 0=ly p r xs (k+1):=by rw[rv (by omega),if_neg (by omega),if_pos (by omega)]
   have BA:mulM p (ly p r xs (k+1)) 1=ly p r xs (k+1):=by
    unfold mulM
    rw[Int.mul_one,gz (CK h0 _ _ _)]
   have w5:i64.wrap (((xs.length-2-k:Nat):Int)-1)=(xs.length:Int)-2-((k+1:Nat):Int):=by
    rw[wrap_small (by omega)];omega
   rw[w3]
   simp only[i1,Int.toNat_natCast,hc,BA]
   refine⟨⟨by omega,by omega⟩,⟨h0,CK h0 _ _ _,ke h0⟩,fun _=>⟨⟨by omega,by omega⟩,fun hz=>?_,fun hnz=>?_⟩⟩
   ·exact⟨k+1,by omega,by omega,w5,UQ (by omega) he hz,NO (by omega)⟩
   ·refine⟨by omega,⟨rfl,rfl,NO (by omega)⟩,fun j hj=>⟨fun Jc=>?_,fun Jc=>?_⟩⟩
    ·have w4:i64.wrap (((xs.length-2-k:Nat):Int)+(j:Int))=((xs.length-2-k+j:Nat):Int):=by rw[wrap_small (by omega)];omega
     rw[w4,Int.toNat_natCast]
     have RO:(cQ p r xs k).getD (xs.length-2-k) 0=xs.getD (xs.length-2-k) 0:=by rw[rv (by omega),if_pos (by omega)]
     match j,Jc with
     | 0,_ =>
       have e3:(mn p r xs k 0).getD (xs.length-2-k+0) 0=xs.getD (xs.length-2-k) 0:=RO
       rw[e3]
       refine⟨⟨by omega,by omega⟩,⟨by omega,by omega⟩,⟨h0,CK h0 _ _ _,hr⟩,⟨h0,fc h0 he _,f_ h0 _ _⟩,⟨by omega,by omega⟩,fun _ _=>⟨1,by omega,by omega,aG (by omega),?_⟩⟩
       show (cQ p r xs k).set (xs.length-2-k) (bR p (xs.getD (xs.length-2-k) 0) (mulM p (ly p r xs (k+1)) r))=(cQ p r xs k).set (xs.length-2-k) (bR p (xs.getD (xs.length-1-(k+1)) 0) (mulM p (ly p r xs (k+1)) r))
       rw[show xs.length-1-(k+1)=xs.length-2-k by omega]
     | 1,_ =>
       have e3:(mn p r xs k 1).getD (xs.length-2-k+1) 0=ly p r xs (k+1):=by
        show ((cQ p r xs k).set (xs.length-2-k) (ly p r xs (k+2))).getD (xs.length-2-k+1) 0=_
        rw[T7 (by rw[kV];omega),if_neg (by omega),show xs.length-2-k+1=xs.length-1-k by omega,hc]
       rw[e3]
       have e4:([r,1]:List Int).getD 1 0=1:=rfl
       rw[e4,BA]
       refine⟨⟨by omega,by omega⟩,⟨by omega,by omega⟩,⟨h0,CK h0 _ _ _,ke h0⟩,⟨h0,CK h0 _ _ _,CK h0 _ _ _⟩,⟨by omega,by omega⟩,fun _ _=>⟨2,by omega,by omega,aG (by omega),?_⟩⟩
       show ((cQ p r xs k).set (xs.length-2-k) (ly p r xs (k+2))).set (xs.length-2-k+1) (bR p (ly p r xs (k+1)) (ly p r xs (k+1)))=cQ p r xs (k+1)
       unfold bR
       rw[Int.sub_self,Int.zero_emod,show xs.length-2-k+1=xs.length-1-k by omega]
       exact Xd (by omega)
    ·obtain rfl:j=2:=by omega
     exact⟨k+1,by omega,by omega,w5,rfl,rfl⟩
  ·obtain rfl:k=xs.length-1:=by omega
   refine⟨⟨by omega,by omega⟩,?_⟩
   rw[Xt]
   have ht:(cQ p r xs (xs.length-1)).take (Int.toNat 1)=[ly p r xs xs.length]:=by
    refine vp (by rw[List.length_take,kV];simp only[e2,List.length_cons,List.length_nil];omega) (fun t ht=>?_)
    rw[List.length_take,e2] at ht
    obtain rfl:t=0:=by omega
    rw[e2,v5 (by omega),rv (by omega),if_neg (by omega),if_pos (by omega),show xs.length-1+1=xs.length by omega]
    rfl
   rw[ht]
   rfl
set_option maxRecDepth 10000
theorem ae1{n:Nat}(h:n<=10):dq .i64 1 (n:Int)=((2^n:Nat):Int):=by
 rw[zo (by omega)]
 exact (Int.natCast_pow 2 n).symm
theorem ae3{n:Nat}(h:n<=26):IntKind.u64.wrap (n:Int)=(n:Int):=Cw ⟨n,by omega⟩
theorem MF{x:Int}(hx:0<=x){i:Nat}(hi:i<=63):lP .i64 x (i:Int)=x/2^i:=by
 unfold lP
 rw[Int.toNat_natCast,show min i i64.bits=i by show min i 64=i;omega,Int.fdiv_eq_ediv_of_nonneg _ (Int.le_of_lt (Int.pow_pos (by omega)))]
theorem Ri{h x y:Nat}(hy:y<h):(x*h+y)/h=x/\(x*h+y)%h=y:=by
 rw[Nat.mul_comm,Nat.mul_add_div (by omega),Nat.div_eq_of_lt hy,Nat.mul_add_mod,Nat.mod_eq_of_lt hy]
 exact⟨rfl,rfl⟩
theorem acM{h x y:Nat}(hy:y<h):e_ h (x*h+y)=x*(2*h)+y:=by
 unfold e_
 rw[(Ri hy).1,(Ri hy).2]
theorem KI :
 ∀(d:Int),Ty.wf ai d->True->(decide (d=(0:Int))=true->(decide (d=(0:Int))=true->(3:Int)=bV d)/\(decide (d=(0:Int))=false->(decide (d=(1:Int))=true->(decide (d=(1:Int))=true->(5:Int)=bV d)/\(decide (d=(1:Int))=false->(decide (d=(4:Int))=true->(17:Int)=bV d)/\(decide (d=(4:Int))=false->(decide (d=(5:Int))=true->(11:Int)=bV d)/\(decide (d=(5:Int))=false->(0:Int)=bV d))))/\(decide (d=(1:Int))=false->(decide (d=(2:Int))=true->(5:Int)=bV d)/\(decide (d=(2:Int))=false->(decide (d=(4:Int))=true->(17:Int)=bV d)/\(decide (d=(4:Int))=false->(decide (d=(5:Int))=true->(11:Int)=bV d)/\(decide (d=(5:Int))=false->(0:Int)=bV d))))))/\(decide (d=(0:Int))=false->(decide (d=(3:Int))=true->(decide (d=(3:Int))=true->(3:Int)=bV d)/\(decide (d=(3:Int))=false->(decide (d=(1:Int))=true->(decide (d=(1:Int))=true->(5:Int)=bV d)/\(decide (d=(1:Int))=false->(decide (d=(4:Int))=true->(17:Int)=bV d)/\(decide (d=(4:Int))=false->(decide (d=(5:Int))=true->(11:Int)=bV d)/\(decide (d=(5:Int))=false->(0:Int)=bV d))))/\(decide (d=(1:Int))=false->(decide (d=(2:Int))=true->(5:Int)=bV d)/\(decide (d=(2:Int))=false->(decide (d=(4:Int))=true->(17:Int)=bV d)/\(decide (d=(4:Int))=false->(decide (d=(5:Int))=true->(11:Int)=bV d)/\(decide (d=(5:Int))=false->(0:Int)=bV d))))))/\(decide (d=(3:Int))=false->(decide (d=(6:Int))=true->(decide (d=(6:Int))=true->(3:Int)=bV d)/\(decide (d=(6:Int))=false->(decide (d=(1:Int))=true->(decide (d=(1:Int))=true->(5:Int)=bV d)/\(decide (d=(1:Int))=false->(decide (d=(4:Int))=true->(17:Int)=bV d)/\(decide (d=(4:Int))=false->(decide (d=(5:Int))=true->(11:Int)=bV d)/\(decide (d=(5:Int))=false->(0:Int)=bV d))))/\(decide (d=(1:Int))=false->(decide (d=(2:Int))=true->(5:Int)=bV d)/\(decide (d=(2:Int))=false->(decide (d=(4:Int))=true->(17:Int)=bV d)/\(decide (d=(4:Int))=false->(decide (d=(5:Int))=true->(11:Int)=bV d)/\(decide (d=(5:Int))=false->(0:Int)=bV d))))))/\(decide (d=(6:Int))=false->(decide (d=(7:Int))=true->(decide (d=(7:Int))=true->(3:Int)=bV d)/\(decide (d=(7:Int))=false->(decide (d=(1:Int))=true->(decide (d=(1:Int))=true->(5:Int)=bV d)/\(decide (d=(1:Int))=false->(decide (d=(4:Int))=true->(17:Int)=bV d)/\(decide (d=(4:Int))=false->(decide (d=(5:Int))=true->(11:Int)=bV d)/\(decide (d=(5:Int))=false->(0:Int)=bV d))))/\(decide (d=(1:Int))=false->(decide (d=(2:Int))=true->(5:Int)=bV d)/\(decide (d=(2:Int))=false->(decide (d=(4:Int))=true->(17:Int)=bV d)/\(decide (d=(4:Int))=false->(decide (d=(5:Int))=true->(11:Int)=bV d)/\(decide (d=(5:Int))=false->(0:Int)=bV d))))))/\(decide (d=(7:Int))=false->(decide (d=(8:Int))=true->(3:Int)=bV d)/\(decide (d=(8:Int))=false->(decide (d=(1:Int))=true->(decide (d=(1:Int))=true->(5:Int)=bV d)/\(decide (d=(1:Int))=false->(decide (d=(4:Int))=true->(17:Int)=bV d)/\(decide (d=(4:Int))=false->(decide (d=(5:Int))=true->(11:Int)=bV d)/\(decide (d=(5:Int))=false->(0:Int)=bV d))))/\(decide (d=(1:Int))=false->(decide (d=(2:Int))=true->(5:Int)=bV d)/\(decide (d=(2:Int))=false->(decide (d=(4:Int))=true->(17:Int)=bV d)/\(decide (d=(4:Int))=false->(decide (d=(5:Int))=true->(11:Int)=bV d)/\(decide (d=(5:Int))=false->(0:Int)=bV d))))))))):=by
  intro (f:Int) _ _
  by_cases h:0<=f/\f<9
  ·rcases im h with rfl|rfl|rfl|rfl|rfl|rfl|rfl|rfl|rfl<;>simp[show bV 0=3 from rfl,show bV 1=5 from rfl,show bV 2=5 from rfl,show bV 3=3 from rfl,show bV 4=17 from rfl,show bV 5=11 from rfl,show bV 6=3 from rfl,show bV 7=3 from rfl,show bV 8=3 from rfl]
  ·rw[WI h]
   simp only[exists_const,forall_const,decide_eq_true_eq,decide_eq_false_iff_not,beq_iff_eq,sxS]
   omega
theorem To :
 ∀(d:Int×Int),Ty.wf ai d.1/\Ty.wf ai d.2->True->True/\(Ty.wf ai (af d.1)->(decide (af d.1=(0:Int))=true->(-1:Int)=b8 d.1 d.2)/\(decide (af d.1=(0:Int))=false->True/\(Ty.wf ai (dP d.1)->True/\((!(decide ((0:Int)<=d.2)&&decide (d.2<=dP d.1)))=true->(-1:Int)=b8 d.1 d.2)/\((!(decide ((0:Int)<=d.2)&&decide (d.2<=dP d.1)))=false->True/\(Ty.wf ai (bV d.1)->True/\(Ty.wf ai (af d.1)->(0:Int)<=IntKind.wrap IntKind.u64 d.2/\True/\(Ty.wf ai (bG d.1 (bV d.1) (lP i64 (i64.wrap (af d.1-(1:Int))) (IntKind.wrap IntKind.u64 d.2)))->bG d.1 (bV d.1) (lP i64 (i64.wrap (af d.1-(1:Int))) (IntKind.wrap IntKind.u64 d.2))=b8 d.1 d.2))))))):=by
  intro (d:Int×Int) hw hp
  obtain⟨f,k⟩:=d
  simp only[exists_const,forall_const,decide_eq_true_eq,decide_eq_false_iff_not,beq_iff_eq,sxS]
  intro _
  refine⟨fun h=>by unfold b8;rw[if_neg (fun hh=>hh.1 h)],fun h _=>⟨fun h1=>?_,fun h1 _ _=>?_⟩⟩
  ·unfold b8
   rw[if_neg (fun hh=>by rw[decide_eq_true hh.2.1,decide_eq_true hh.2.2] at h1;cases h1)]
  ·simp only[Bool.and_eq_true,decide_eq_true_eq] at h1
   obtain⟨hp,hf⟩:=b9 h
   have hb:=kr hf
   obtain⟨n,rfl⟩:=Int.eq_ofNat_of_zero_le h1.1
   unfold au at hp
   rw[ae3 (by omega),wrap_small (n:=af f-1) (by omega),MF (by omega) (by omega),yn h]
   refine⟨by omega,fun _=>?_⟩
   unfold b8
   rw[if_pos ⟨h,h1⟩,Int.toNat_natCast]
theorem XR :
 ∀(d:(Int×Int×Int)×Int),Ty.wf bW d.1/\Ty.wf ai d.2->au d.1.1/\El d.1.1 d.1.2.1/\(0:cj [ai])<=d.2/\d.2<=(30:cj [ai])->(0:Int)<=d.2/\(au d.1.1/\El d.1.1 d.1.2.1/\(0:cj [ai])<=lP i64 (i64.wrap (d.1.1-(1:Int))) d.2)/\(Ty.wf ai (b6 d.1.1 d.1.2.1 (Int.toNat (lP i64 (i64.wrap (d.1.1-(1:Int))) d.2)))->b6 d.1.1 d.1.2.1 (Int.toNat (lP i64 (i64.wrap (d.1.1-(1:Int))) d.2))=bc d.1 d.2):=by
  intro (d:Fd×Int) hw hp
  obtain⟨⟨p,g,u⟩,k⟩:=d
  replace hp:au p/\El p g/\(0:Int)<=k/\k<=30:=hp
  simp only[exists_const,forall_const,decide_eq_true_eq,decide_eq_false_iff_not,beq_iff_eq,sxS]
  obtain⟨h0,h1,h2,h3⟩:=hp
  obtain⟨n,rfl⟩:=Int.eq_ofNat_of_zero_le h2
  have h0':=h0
  unfold au at h0'
  rw[wrap_small (n:=p-1) (by omega),MF (by omega) (by omega)]
  refine⟨by omega,⟨h0,h1,?_⟩,fun _=>rfl⟩
  exact Int.ediv_nonneg (by omega) (Int.le_of_lt (Int.pow_pos (by omega)))
theorem ZG{f:Int}{a b c:List Int}(h:aH f a=true)(hl:b.length=a.length):aH f (lx (af f) b c)=true:=by
 obtain⟨hm,_,_⟩:=dB h
 refine Re h (by unfold lx;rw[eB];exact hl) ?_
 unfold aq lx
 refine decide_eq_true fun x hx=>?_
 obtain⟨t,ht,rfl⟩:=List.mem_map.1 hx
 have:=f_ (b9 hm).1 (b.getD t 0) (c.getD t 0)
 exact⟨this.1,Int.le_sub_one_of_lt this.2⟩
theorem Ft{f:Int}(hm:af f≠0)(v:List Int)(w:Int)(n:Nat):aq (af f) (bD (af f) v w n)=true:=by
 have hp:=(b9 hm).1
 unfold au at hp
 unfold aq bD
 refine decide_eq_true fun x hx=>?_
 obtain⟨t,ht,rfl⟩:=List.mem_map.1 hx
 have:=ei (p:=af f) (by omega) (bm (py v w t) v.length)
 exact⟨this.1,Int.le_sub_one_of_lt this.2⟩
theorem jH(p:Int)(a b:List Int)(x y:Nat):(dN p a b x y).length=a.length:=eB _ _
theorem JK(p:Int)(a b:List Int)(x y:Nat){t:Nat}(h:t<a.length):(dN p a b x y).getD t 0=if (t+a.length-x)%a.length<y then jY p a b t (x+1) else jY p a b t x:=by
 simp[dN,List.getD_eq_getElem?_getD,h]
theorem JL{p:Int}{a b:List Int}{x y t:Nat}(ki:a.length=b.length)(hx:x<a.length)(hy:y<a.length)(ht:t<a.length)(hi:if x+y<a.length then t=x+y else t=x+y-a.length) :
 (dN p a b x y).set t (if x+y<a.length then eO p ((dN p a b x y).getD t 0) (mulM p (a.getD x 0) (b.getD y 0)) else bR p ((dN p a b x y).getD t 0) (mulM p (a.getD x 0) (b.getD y 0)))=dN p a b x (y+1):=by
 have Bx:=(V3 hx hy ht).2 hi
 refine List.ext_getElem (by rw[List.length_set,jH,jH]) fun s h1 h2=>?_
 rw[jH] at h2
 rw[List.getElem_set]
 by_cases hs:t=s
 ·rw[if_pos hs]
  subst hs
  rw[JK _ _ _ _ _ ht,Bx,if_neg (Nat.lt_irrefl y)]
  simp only[dN,List.getElem_map,List.getElem_range]
  rw[Bx,if_pos (Nat.lt_succ_self y),jY]
  by_cases hc:x+y<a.length
  ·rw[if_pos hc] at hi
   rw[if_pos hc,if_pos (by omega),show t-x=y by omega]
  ·rw[if_neg hc] at hi
   rw[if_neg hc,if_neg (by omega),show t+a.length-x=y by omega]
 ·rw[if_neg hs]
  simp only[dN,List.getElem_map,List.getElem_range]
  have bo:(s+a.length-x)%a.length≠y:=by
   intro e
   have:=(V3 hx hy h2).1 e
   apply hs
   by_cases hc:x+y<a.length
   ·rw[if_pos hc] at this hi;omega
   ·rw[if_neg hc] at this hi;omega
  by_cases hc:(s+a.length-x)%a.length<y
  ·rw[if_pos hc,if_pos (by omega)]
  ·rw[if_neg hc,if_neg (by omega)]
theorem ZS{d:Fd}{v:List Int}{l B:Nat}:((qW d v l B).set (e_ (2^l) B) (sf d v l (e_ (2^l) B))).set (e_ (2^l) B+2^l) (sf d v l (e_ (2^l) B+2^l))=qW d v l (B+1):=by
 unfold qW
 rw[qe,qe]
 refine eG (fun t _=>?_)
 by_cases h1:t=e_ (2^l) B+2^l
 ·have hb:pt l t=B:=by rw[h1];exact Wp l B
  rw[if_pos h1,if_pos (by omega),h1]
 ·rw[if_neg h1]
  by_cases h2:t=e_ (2^l) B
  ·have hb:pt l t=B:=by rw[h2];exact Y4 l B
   rw[if_pos h2,if_pos (by omega),h2]
  ·rw[if_neg h2]
   have hb:pt l t≠B:=by
    intro e
    have:=Y5 l t
    rw[e] at this
    split at this
    ·exact h2 this
    ·exact h1 this
   by_cases h3:pt l t<B
   ·rw[if_pos h3,if_pos (by omega)]
   ·rw[if_neg h3,if_neg (by omega)]
theorem S7 :
 ∀(d:Int×List Int×List Int),Ty.wf ai d.1/\Ty.wf aj d.2.1/\Ty.wf aj d.2.2->True->List.length [d.2.1,d.2.2]=(2:Nat)/\(Ty.wf bW (aR d.1 [d.2.1,d.2.2]).1/\Ty.wf Ty.bool (aR d.1 [d.2.1,d.2.2]).2->((!(aR d.1 [d.2.1,d.2.2]).2)=true->[]=lO d.1 d.2.1 d.2.2)/\((!(aR d.1 [d.2.1,d.2.2]).2)=false->oB (aR d.1 [d.2.1,d.2.2]).1 d.2.1/\oB (aR d.1 [d.2.1,d.2.2]).1 d.2.2/\(au (aR d.1 [d.2.1,d.2.2]).1.1/\aq (aR d.1 [d.2.1,d.2.2]).1.1 (bD (aR d.1 [d.2.1,d.2.2]).1.1 d.2.1 (bc (aR d.1 [d.2.1,d.2.2]).1 (aE (d.2.1.length:Int))) d.2.1.length)=true/\aq (aR d.1 [d.2.1,d.2.2]).1.1 (bD (aR d.1 [d.2.1,d.2.2]).1.1 d.2.2 (bc (aR d.1 [d.2.1,d.2.2]).1 (aE (d.2.2.length:Int))) d.2.2.length)=true/\List.length (bD (aR d.1 [d.2.1,d.2.2]).1.1 d.2.1 (bc (aR d.1 [d.2.1,d.2.2]).1 (aE (d.2.1.length:Int))) d.2.1.length)=List.length (bD (aR d.1 [d.2.1,d.2.2]).1.1 d.2.2 (bc (aR d.1 [d.2.1,d.2.2]).1 (aE (d.2.2.length:Int))) d.2.2.length)/\List.length (bD (aR d.1 [d.2.1,d.2.2]).1.1 d.2.1 (bc (aR d.1 [d.2.1,d.2.2]).1 (aE (d.2.1.length:Int))) d.2.1.length)<=(1048576:Nat))/\oB (aR d.1 [d.2.1,d.2.2]).1 (lx (aR d.1 [d.2.1,d.2.2]).1.1 (bD (aR d.1 [d.2.1,d.2.2]).1.1 d.2.1 (bc (aR d.1 [d.2.1,d.2.2]).1 (aE (d.2.1.length:Int))) d.2.1.length) (bD (aR d.1 [d.2.1,d.2.2]).1.1 d.2.2 (bc (aR d.1 [d.2.1,d.2.2]).1 (aE (d.2.2.length:Int))) d.2.2.length))/\(Ty.wf aj (vN (aR d.1 [d.2.1,d.2.2]).1.1 (bc (aR d.1 [d.2.1,d.2.2]).1 (aE (↑(List.length (lx (aR d.1 [d.2.1,d.2.2]).1.1 (bD (aR d.1 [d.2.1,d.2.2]).1.1 d.2.1 (bc (aR d.1 [d.2.1,d.2.2]).1 (aE (d.2.1.length:Int))) d.2.1.length) (bD (aR d.1 [d.2.1,d.2.2]).1.1 d.2.2 (bc (aR d.1 [d.2.1,d.2.2]).1 (aE (d.2.2.length:Int))) d.2.2.length))):Int))) (bk (aR d.1 [d.2.1,d.2.2]).1.1 (↑(List.length (lx (aR d.1 [d.2.1,d.2.2]).1.1 (bD (aR d.1 [d.2.1,d.2.2]).1.1 d.2.1 (bc (aR d.1 [d.2.1,d.2.2]).1 (aE (d.2.1.length:Int))) d.2.1.length) (bD (aR d.1 [d.2.1,d.2.2]).1.1 d.2.2 (bc (aR d.1 [d.2.1,d.2.2]).1 (aE (d.2.2.length:Int))) d.2.2.length))):Int)) (lx (aR d.1 [d.2.1,d.2.2]).1.1 (bD (aR d.1 [d.2.1,d.2.2]).1.1 d.2.1 (bc (aR d.1 [d.2.1,d.2.2]).1 (aE (d.2.1.length:Int))) d.2.1.length) (bD (aR d.1 [d.2.1,d.2.2]).1.1 d.2.2 (bc (aR d.1 [d.2.1,d.2.2]).1 (aE (d.2.2.length:Int))) d.2.2.length)))->Ty.wf aj (lx (aR d.1 [d.2.1,d.2.2]).1.1 (bD (aR d.1 [d.2.1,d.2.2]).1.1 d.2.1 (bc (aR d.1 [d.2.1,d.2.2]).1 (aE (d.2.1.length:Int))) d.2.1.length) (bD (aR d.1 [d.2.1,d.2.2]).1.1 d.2.2 (bc (aR d.1 [d.2.1,d.2.2]).1 (aE (d.2.2.length:Int))) d.2.2.length))->Ty.wf aj (bD (aR d.1 [d.2.1,d.2.2]).1.1 d.2.2 (bc (aR d.1 [d.2.1,d.2.2]).1 (aE (d.2.2.length:Int))) d.2.2.length)->Ty.wf aj (bD (aR d.1 [d.2.1,d.2.2]).1.1 d.2.1 (bc (aR d.1 [d.2.1,d.2.2]).1 (aE (d.2.1.length:Int))) d.2.1.length)->vN (aR d.1 [d.2.1,d.2.2]).1.1 (bc (aR d.1 [d.2.1,d.2.2]).1 (aE (↑(List.length (lx (aR d.1 [d.2.1,d.2.2]).1.1 (bD (aR d.1 [d.2.1,d.2.2]).1.1 d.2.1 (bc (aR d.1 [d.2.1,d.2.2]).1 (aE (d.2.1.length:Int))) d.2.1.length) (bD (aR d.1 [d.2.1,d.2.2]).1.1 d.2.2 (bc (aR d.1 [d.2.1,d.2.2]).1 (aE (d.2.2.length:Int))) d.2.2.length))):Int))) (bk (aR d.1 [d.2.1,d.2.2]).1.1 (↑(List.length (lx (aR d.1 [d.2.1,d.2.2]).1.1 (bD (aR d.1 [d.2.1,d.2.2]).1.1 d.2.1 (bc (aR d.1 [d.2.1,d.2.2]).1 (aE (d.2.1.length:Int))) d.2.1.length) (bD (aR d.1 [d.2.1,d.2.2]).1.1 d.2.2 (bc (aR d.1 [d.2.1,d.2.2]).1 (aE (d.2.2.length:Int))) d.2.2.length))):Int)) (lx (aR d.1 [d.2.1,d.2.2]).1.1 (bD (aR d.1 [d.2.1,d.2.2]).1.1 d.2.1 (bc (aR d.1 [d.2.1,d.2.2]).1 (aE (d.2.1.length:Int))) d.2.1.length) (bD (aR d.1 [d.2.1,d.2.2]).1.1 d.2.2 (bc (aR d.1 [d.2.1,d.2.2]).1 (aE (d.2.2.length:Int))) d.2.2.length))=lO d.1 d.2.1 d.2.2))):=by
  intro d hw hp
  obtain⟨f,a,b⟩:=d
  simp only[exists_const,forall_const,decide_eq_true_eq,decide_eq_false_iff_not,beq_iff_eq,sxS]
  refine⟨rfl,fun _=>?_⟩
  rw[Ac.1]
  refine⟨fun h=>by unfold lO;rw[if_neg (by rw[h];simp)],fun h=>?_⟩
  obtain⟨ki,ha,hb⟩:=C6 h
  obtain⟨hm,qv,K,hK,u_,hlen,iu⟩:=dB ha
  obtain⟨l1,l2,l3,l4⟩:=sR ha
  rw[Ac.2 h]
  have FV:(ar f).1.1=af f:=rfl
  simp only[FV]
  have hr:bc (ar f).1 (aE a.length)=b8 f (aE a.length):=by rw[hK];exact wJ hm iu
  rw[<-ki,hr]
  have tz:(lx (af f) (bD (af f) a (b8 f (aE a.length)) a.length) (bD (af f) b (b8 f (aE a.length)) a.length)).length=a.length:=by unfold lx;rw[eB,fT]
  rw[tz,hr]
  refine⟨⟨f,ha,rfl⟩,⟨f,hb,rfl⟩,⟨(b9 hm).1,Ft hm _ _ _,Ft hm _ _ _,by rw[fT,fT],by rw[fT];omega⟩,⟨f,ZG ha (fT _ _ _ _),rfl⟩,fun _ _ _ _=>?_⟩
  unfold lO
  rw[if_pos h]
  unfold vN
  rw[tz]
  refine List.map_congr_left fun k hk=>?_
  have:=Ww (a:=a) (b:=b) ha ki (k:=k) (List.mem_range.1 hk)
  rw[<-ki] at this
  exact this
theorem PE :
 ∀(d:(Int×Int×Int)×List Int×List Int),Ty.wf bW d.1/\Ty.wf aj d.2.1/\Ty.wf aj d.2.2->au d.1.1/\aq d.1.1 d.2.1=true/\aq d.1.1 d.2.2=true/\d.2.1.length=d.2.2.length/\d.2.1.length<=(512:Nat)->((0:Int)<=(d.2.1.length:Int)/\(d.2.1.length:Int)<=(d.2.1.length:Int)/\(d.2.1.length:Int)*(↑(8:Nat):Int)<=(140737488355328:Int))/\(0:Nat)<=d.2.1.length/\(((ae d.1.1/\ae d.1.2.1/\ae d.1.2.2)/\ae d.2.1/\ae d.2.2/\aQ/\ae (d.2.1.length:Int)/\ae d.2.1/\ae (d.2.1.length:Int)/\(0:Int)=(↑(0:Nat):Int))/\(ae d.1.1/\ae d.1.2.1/\ae d.1.2.2)/\List.replicate ((d.2.1.length:Int).toNat) (0:Int)=dN d.1.1 d.2.1 d.2.2 (0:Nat) (0:Nat))/\∀(x:Nat),x<=d.2.1.length->(decide ((x:Int)<(d.2.1.length:Int))=true->((0:Int)<=(x:Int)/\(x:Int)<(d.2.1.length:Int))/\(0:Nat)<=d.2.2.length/\(((ae d.1.1/\ae d.1.2.1/\ae d.1.2.2)/\ae d.2.1/\ae d.2.2/\aQ/\ae (d.2.1.length:Int)/\ae (x:Int)/\ae (d.2.1.getD ((x:Int).toNat) (0:Int))/\ae d.2.1/\ae (d.2.1.length:Int)/\ae (x:Int)/\ae d.2.2/\ae (d.2.2.length:Int)/\(0:Int)=(↑(0:Nat):Int))/\(ae d.1.1/\ae d.1.2.1/\ae d.1.2.2)/\ae (dN d.1.1 d.2.1 d.2.2 x (0:Nat)))/\∀(x_1:Nat),x_1<=d.2.2.length->(decide ((x_1:Int)<(d.2.2.length:Int))=true->((0:Int)<=(x_1:Int)/\(x_1:Int)<(d.2.2.length:Int))/\(au d.1.1/\El d.1.1 (d.2.1.getD ((x:Int).toNat) (0:Int))/\El d.1.1 (d.2.2.getD ((x_1:Int).toNat) (0:Int)))/\(Ty.wf ai (mulM d.1.1 (d.2.1.getD ((x:Int).toNat) (0:Int)) (d.2.2.getD ((x_1:Int).toNat) (0:Int)))->(decide (i64.wrap ((x:Int)+(x_1:Int))<(d.2.1.length:Int))=true->((0:Int)<=i64.wrap ((x:Int)+(x_1:Int))/\i64.wrap ((x:Int)+(x_1:Int))<(↑(List.length (dN d.1.1 d.2.1 d.2.2 x x_1)):Int))/\(au d.1.1/\El d.1.1 (List.getD (dN d.1.1 d.2.1 d.2.2 x x_1) (Int.toNat (i64.wrap ((x:Int)+(x_1:Int)))) (0:Int))/\El d.1.1 (mulM d.1.1 (d.2.1.getD ((x:Int).toNat) (0:Int)) (d.2.2.getD ((x_1:Int).toNat) (0:Int))))/\((0:Int)<=i64.wrap ((x:Int)+(x_1:Int))/\i64.wrap ((x:Int)+(x_1:Int))<(↑(List.length (dN d.1.1 d.2.1 d.2.2 x x_1)):Int))/\(Ty.wf ai (eO d.1.1 (List.getD (dN d.1.1 d.2.1 d.2.2 x x_1) (Int.toNat (i64.wrap ((x:Int)+(x_1:Int)))) (0:Int)) (mulM d.1.1 (d.2.1.getD ((x:Int).toNat) (0:Int)) (d.2.2.getD ((x_1:Int).toNat) (0:Int))))->∃(x':Nat),x'<=d.2.2.length/\d.2.2.length-x'<d.2.2.length-x_1/\((ae d.1.1/\ae d.1.2.1/\ae d.1.2.2)/\ae d.2.1/\ae d.2.2/\aQ/\ae (d.2.1.length:Int)/\ae (x:Int)/\ae (d.2.1.getD ((x:Int).toNat) (0:Int))/\ae d.2.1/\ae (d.2.1.length:Int)/\ae (x:Int)/\ae d.2.2/\ae (d.2.2.length:Int)/\i64.wrap ((x_1:Int)+(1:Int))=(x':Int))/\(ae d.1.1/\ae d.1.2.1/\ae d.1.2.2)/\List.set (dN d.1.1 d.2.1 d.2.2 x x_1) (Int.toNat (i64.wrap ((x:Int)+(x_1:Int)))) (eO d.1.1 (List.getD (dN d.1.1 d.2.1 d.2.2 x x_1) (Int.toNat (i64.wrap ((x:Int)+(x_1:Int)))) (0:Int)) (mulM d.1.1 (d.2.1.getD ((x:Int).toNat) (0:Int)) (d.2.2.getD ((x_1:Int).toNat) (0:Int))))=dN d.1.1 d.2.1 d.2.2 x x'))/\(decide (i64.wrap ((x:Int)+(x_1:Int))<(d.2.1.length:Int))=false->((0:Int)<=i64.wrap (i64.wrap ((x:Int)+(x_1:Int))-(d.2.1.length:Int))/\i64.wrap (i64.wrap ((x:Int)+(x_1:Int))-(d.2.1.length:Int))<(↑(List.length (dN d.1.1 d.2.1 d.2.2 x x_1)):Int))/\(au d.1.1/\El d.1.1 (List.getD (dN d.1.1 d.2.1 d.2.2 x x_1) (Int.toNat (i64.wrap (i64.wrap ((x:Int)+(x_1:Int))-(d.2.1.length:Int)))) (0:Int))/\El d.1.1 (mulM d.1.1 (d.2.1.getD ((x:Int).toNat) (0:Int)) (d.2.2.getD ((x_1:Int).toNat) (0:Int))))/\((0:Int)<=i64.wrap (i64.wrap ((x:Int)+(x_1:Int))-(d.2.1.length:Int))/\i64.wrap (i64.wrap ((x:Int)+(x_1:Int))-(d.2.1.length:Int))<(↑(List.length (dN d.1.1 d.2.1 d.2.2 x x_1)):Int))/\(Ty.wf ai (bR d.1.1 (List.getD (dN d.1.1 d.2.1 d.2.2 x x_1) (Int.toNat (i64.wrap (i64.wrap ((x:Int)+(x_1:Int))-(d.2.1.length:Int)))) (0:Int)) (mulM d.1.1 (d.2.1.getD ((x:Int).toNat) (0:Int)) (d.2.2.getD ((x_1:Int).toNat) (0:Int))))->∃(x':Nat),x'<=d.2.2.length/\d.2.2.length-x'<d.2.2.length-x_1/\((ae d.1.1/\ae d.1.2.1/\ae d.1.2.2)/\ae d.2.1/\ae d.2.2/\aQ/\ae (d.2.1.length:Int)/\ae (x:Int)/\ae (d.2.1.getD ((x:Int).toNat) (0:Int))/\ae d.2.1/\ae (d.2.1.length:Int)/\ae (x:Int)/\ae d.2.2/\ae (d.2.2.length:Int)/\i64.wrap ((x_1:Int)+(1:Int))=(x':Int))/\(ae d.1.1/\ae d.1.2.1/\ae d.1.2.2)/\List.set (dN d.1.1 d.2.1 d.2.2 x x_1) (Int.toNat (i64.wrap (i64.wrap ((x:Int)+(x_1:Int))-(d.2.1.length:Int)))) (bR d.1.1 (List.getD (dN d.1.1 d.2.1 d.2.2 x x_1) (Int.toNat (i64.wrap (i64.wrap ((x:Int)+(x_1:Int))-(d.2.1.length:Int)))) (0:Int)) (mulM d.1.1 (d.2.1.getD ((x:Int).toNat) (0:Int)) (d.2.2.getD ((x_1:Int).toNat) (0:Int))))=dN d.1.1 d.2.1 d.2.2 x x'))))/\(decide ((x_1:Int)<(d.2.2.length:Int))=false->∃(x':Nat),x'<=d.2.1.length/\d.2.1.length-x'<d.2.1.length-x/\((ae d.1.1/\ae d.1.2.1/\ae d.1.2.2)/\ae d.2.1/\ae d.2.2/\aQ/\ae (d.2.1.length:Int)/\ae d.2.1/\ae (d.2.1.length:Int)/\i64.wrap ((x:Int)+(1:Int))=(x':Int))/\(ae d.1.1/\ae d.1.2.1/\ae d.1.2.2)/\dN d.1.1 d.2.1 d.2.2 x x_1=dN d.1.1 d.2.1 d.2.2 x' (0:Nat)))/\(decide ((x:Int)<(d.2.1.length:Int))=false->dN d.1.1 d.2.1 d.2.2 x (0:Nat)=List.map (fun (t:Nat)=>jY d.1.1 d.2.1 d.2.2 t d.2.1.length) (List.range d.2.1.length)):=by
  intro d hw hp
  obtain⟨d,a,b⟩:=d
  obtain⟨p1,p2,p3,p4,p5⟩:=hp
  replace p1:au d.1:=p1
  replace p2:aq d.1 a=true:=p2
  replace p3:aq d.1 b=true:=p3
  replace p4:a.length=b.length:=p4
  replace p5:a.length<=512:=p5
  simp only[exists_const,forall_const,decide_eq_true_eq,decide_eq_false_iff_not,beq_iff_eq,sxS]
  refine⟨⟨by omega,by omega,by show (a.length:Int)*((8:Nat):Int)<=140737488355328;omega⟩,Nat.zero_le _,⟨rfl,?_⟩,fun x hx=>⟨fun we=>⟨⟨by omega,we⟩,Nat.zero_le _,rfl,fun y hy=>⟨fun hyl=>⟨⟨by omega,hyl⟩,⟨p1,eY p1 p2 x,eY p1 p3 y⟩,fun _=>?_⟩,fun hyg=>⟨x+1,by omega,by omega,?_,?_⟩⟩⟩,fun hxg=>?_⟩⟩
  ·refine List.ext_getElem (by rw[List.length_replicate,jH]) fun t h1 h2=>?_
   simp[dN,jY]
  ·have mj:x<a.length:=by omega
   have AF:y<a.length:=by omega
   have lq:∀ t,t<a.length->El d.1 ((dN d.1 a b x y).getD t 0):=fun t ht=>by
    rw[JK _ _ _ _ _ ht]
    split<;>exact YU p1 _ _ _ _
   rw[wrap_small (n:=(x:Int)+y) (by omega),jH]
   refine⟨fun hc=>?_,fun hc=>?_⟩
   ·have e:((x:Int)+y).toNat=x+y:=by omega
    rw[e]
    refine⟨⟨by omega,hc⟩,⟨p1,lq _ (by omega),f_ p1 _ _⟩,⟨by omega,hc⟩,fun _=>⟨y+1,by omega,by omega,?_,?_⟩⟩
    ·rw[wrap_small (by omega)];rfl
    ·have:=JL (p:=d.1) (a:=a) (b:=b) (x:=x) (y:=y) (t:=x+y) p4 mj AF (by omega) (by rw[if_pos (by omega)])
     rw[if_pos (by omega)] at this
     exact this
   ·rw[wrap_small (n:=(x:Int)+y-a.length) (by omega)]
    have e:((x:Int)+y-a.length).toNat=x+y-a.length:=by omega
    rw[e]
    refine⟨⟨by omega,by omega⟩,⟨p1,lq _ (by omega),f_ p1 _ _⟩,⟨by omega,by omega⟩,fun _=>⟨y+1,by omega,by omega,?_,?_⟩⟩
    ·rw[wrap_small (by omega)];rfl
    ·have:=JL (p:=d.1) (a:=a) (b:=b) (x:=x) (y:=y) (t:=x+y-a.length) p4 mj AF (by omega) (by rw[if_neg (by omega)])
     rw[if_neg (by omega)] at this
     exact this
  ·rw[wrap_small (by omega)];rfl
  ·refine List.ext_getElem (by rw[jH,jH]) fun t h1 h2=>?_
   rw[jH] at h2
   simp only[dN,List.getElem_map,List.getElem_range]
   rw[if_pos (Nat.lt_of_lt_of_le (Nat.mod_lt _ (by omega)) (by omega)),if_neg (Nat.not_lt_zero _)]
  ·rw[show x=a.length by omega]
   refine List.ext_getElem (by rw[jH];simp) fun t h1 h2=>?_
   simp only[dN,List.getElem_map,List.getElem_range]
   rw[if_neg (Nat.not_lt_zero _)]
theorem Wa :
 ∀(d:(Int×Int×Int)×List Int×Int),Ty.wf bW d.1/\Ty.wf aj d.2.1/\Ty.wf ai d.2.2->oB d.1 d.2.1/\(0:cj [ai])<=d.2.2/\d.2.2<=aE (d.2.1.length:Int)-(1:cj [ai])->((0:Int)<=(d.2.1.length:Int)/\(d.2.1.length:Int)<=(d.2.1.length:Int)/\(d.2.1.length:Int)*(↑(8:Nat):Int)<=(140737488355328:Int))/\(0:Int)<=d.2.2/\(au d.1.1/\El d.1.1 d.1.2.1/\(0:cj [ai])<=i64.wrap (d.2.2+(1:Int))/\i64.wrap (d.2.2+(1:Int))<=(30:cj [ai]))/\(Ty.wf ai (bc d.1 (i64.wrap (d.2.2+(1:Int))))->(0:Nat)*((2:Nat)*(2:Nat)^d.2.2.toNat)<=d.2.1.length/\(((ae d.1.1/\ae d.1.2.1/\ae d.1.2.2)/\ae d.2.1/\ae d.2.2/\aQ/\ae (dq i64 (1:Int) d.2.2)/\ae (bc d.1 (i64.wrap (d.2.2+(1:Int))))/\(0:Int)=(↑((0:Nat)*((2:Nat)*(2:Nat)^d.2.2.toNat)):Int))/\(ae d.1.1/\ae d.1.2.1/\ae d.1.2.2)/\List.replicate ((d.2.1.length:Int).toNat) (0:Int)=qW d.1 d.2.1 d.2.2.toNat ((0:Nat)*(2:Nat)^d.2.2.toNat))/\∀(x:Nat),x*((2:Nat)*(2:Nat)^d.2.2.toNat)<=d.2.1.length->(decide ((↑(x*((2:Nat)*(2:Nat)^d.2.2.toNat)):Int)<(d.2.1.length:Int))=true->(0:Nat)<=(2:Nat)^d.2.2.toNat/\(((ae d.1.1/\ae d.1.2.1/\ae d.1.2.2)/\ae d.2.1/\ae d.2.2/\aQ/\ae (dq i64 (1:Int) d.2.2)/\ae (bc d.1 (i64.wrap (d.2.2+(1:Int))))/\ae (↑(x*((2:Nat)*(2:Nat)^d.2.2.toNat)):Int)/\(1:Int)=b6 d.1.1 (bc d.1 (d.2.2+(1:Int))) (0:Nat)/\ae (dq i64 (1:Int) d.2.2)/\(0:Int)=(↑(0:Nat):Int))/\(ae d.1.1/\ae d.1.2.1/\ae d.1.2.2)/\qW d.1 d.2.1 d.2.2.toNat (x*(2:Nat)^d.2.2.toNat)=qW d.1 d.2.1 d.2.2.toNat (x*(2:Nat)^d.2.2.toNat+(0:Nat)))/\∀(x_1:Nat),x_1<=(2:Nat)^d.2.2.toNat->(decide ((x_1:Int)<dq i64 (1:Int) d.2.2)=true->((0:Int)<=i64.wrap ((↑(x*((2:Nat)*(2:Nat)^d.2.2.toNat)):Int)+(x_1:Int))/\i64.wrap ((↑(x*((2:Nat)*(2:Nat)^d.2.2.toNat)):Int)+(x_1:Int))<(d.2.1.length:Int))/\((0:Int)<=i64.wrap (i64.wrap ((↑(x*((2:Nat)*(2:Nat)^d.2.2.toNat)):Int)+(x_1:Int))+dq i64 (1:Int) d.2.2)/\i64.wrap (i64.wrap ((↑(x*((2:Nat)*(2:Nat)^d.2.2.toNat)):Int)+(x_1:Int))+dq i64 (1:Int) d.2.2)<(d.2.1.length:Int))/\(au d.1.1/\El d.1.1 (d.2.1.getD (Int.toNat (i64.wrap (i64.wrap ((↑(x*((2:Nat)*(2:Nat)^d.2.2.toNat)):Int)+(x_1:Int))+dq i64 (1:Int) d.2.2))) (0:Int))/\El d.1.1 (b6 d.1.1 (bc d.1 (d.2.2+(1:Int))) x_1))/\(Ty.wf ai (mulM d.1.1 (d.2.1.getD (Int.toNat (i64.wrap (i64.wrap ((↑(x*((2:Nat)*(2:Nat)^d.2.2.toNat)):Int)+(x_1:Int))+dq i64 (1:Int) d.2.2))) (0:Int)) (b6 d.1.1 (bc d.1 (d.2.2+(1:Int))) x_1))->(au d.1.1/\El d.1.1 (d.2.1.getD (Int.toNat (i64.wrap ((↑(x*((2:Nat)*(2:Nat)^d.2.2.toNat)):Int)+(x_1:Int)))) (0:Int))/\El d.1.1 (mulM d.1.1 (d.2.1.getD (Int.toNat (i64.wrap (i64.wrap ((↑(x*((2:Nat)*(2:Nat)^d.2.2.toNat)):Int)+(x_1:Int))+dq i64 (1:Int) d.2.2))) (0:Int)) (b6 d.1.1 (bc d.1 (d.2.2+(1:Int))) x_1)))/\(Ty.wf ai (eO d.1.1 (d.2.1.getD (Int.toNat (i64.wrap ((↑(x*((2:Nat)*(2:Nat)^d.2.2.toNat)):Int)+(x_1:Int)))) (0:Int)) (mulM d.1.1 (d.2.1.getD (Int.toNat (i64.wrap (i64.wrap ((↑(x*((2:Nat)*(2:Nat)^d.2.2.toNat)):Int)+(x_1:Int))+dq i64 (1:Int) d.2.2))) (0:Int)) (b6 d.1.1 (bc d.1 (d.2.2+(1:Int))) x_1)))->((0:Int)<=i64.wrap ((↑(x*((2:Nat)*(2:Nat)^d.2.2.toNat)):Int)+(x_1:Int))/\i64.wrap ((↑(x*((2:Nat)*(2:Nat)^d.2.2.toNat)):Int)+(x_1:Int))<(↑(List.length (qW d.1 d.2.1 d.2.2.toNat (x*(2:Nat)^d.2.2.toNat+x_1))):Int))/\(au d.1.1/\El d.1.1 (d.2.1.getD (Int.toNat (i64.wrap ((↑(x*((2:Nat)*(2:Nat)^d.2.2.toNat)):Int)+(x_1:Int)))) (0:Int))/\El d.1.1 (mulM d.1.1 (d.2.1.getD (Int.toNat (i64.wrap (i64.wrap ((↑(x*((2:Nat)*(2:Nat)^d.2.2.toNat)):Int)+(x_1:Int))+dq i64 (1:Int) d.2.2))) (0:Int)) (b6 d.1.1 (bc d.1 (d.2.2+(1:Int))) x_1)))/\(Ty.wf ai (bR d.1.1 (d.2.1.getD (Int.toNat (i64.wrap ((↑(x*((2:Nat)*(2:Nat)^d.2.2.toNat)):Int)+(x_1:Int)))) (0:Int)) (mulM d.1.1 (d.2.1.getD (Int.toNat (i64.wrap (i64.wrap ((↑(x*((2:Nat)*(2:Nat)^d.2.2.toNat)):Int)+(x_1:Int))+dq i64 (1:Int) d.2.2))) (0:Int)) (b6 d.1.1 (bc d.1 (d.2.2+(1:Int))) x_1)))->((0:Int)<=i64.wrap (i64.wrap ((↑(x*((2:Nat)*(2:Nat)^d.2.2.toNat)):Int)+(x_1:Int))+dq i64 (1:Int) d.2.2)/\i64.wrap (i64.wrap ((↑(x*((2:Nat)*(2:Nat)^d.2.2.toNat)):Int)+(x_1:Int))+dq i64 (1:Int) d.2.2)<(↑(List.length (List.set (qW d.1 d.2.1 d.2.2.toNat (x*(2:Nat)^d.2.2.toNat+x_1)) (Int.toNat (i64.wrap ((↑(x*((2:Nat)*(2:Nat)^d.2.2.toNat)):Int)+(x_1:Int)))) (eO d.1.1 (d.2.1.getD (Int.toNat (i64.wrap ((↑(x*((2:Nat)*(2:Nat)^d.2.2.toNat)):Int)+(x_1:Int)))) (0:Int)) (mulM d.1.1 (d.2.1.getD (Int.toNat (i64.wrap (i64.wrap ((↑(x*((2:Nat)*(2:Nat)^d.2.2.toNat)):Int)+(x_1:Int))+dq i64 (1:Int) d.2.2))) (0:Int)) (b6 d.1.1 (bc d.1 (d.2.2+(1:Int))) x_1))))):Int))/\(au d.1.1/\El d.1.1 (b6 d.1.1 (bc d.1 (d.2.2+(1:Int))) x_1)/\El d.1.1 (bc d.1 (i64.wrap (d.2.2+(1:Int)))))/\(Ty.wf ai (mulM d.1.1 (b6 d.1.1 (bc d.1 (d.2.2+(1:Int))) x_1) (bc d.1 (i64.wrap (d.2.2+(1:Int)))))->∃(x':Nat),x'<=(2:Nat)^d.2.2.toNat/\(2:Nat)^d.2.2.toNat-x'<(2:Nat)^d.2.2.toNat-x_1/\((ae d.1.1/\ae d.1.2.1/\ae d.1.2.2)/\ae d.2.1/\ae d.2.2/\aQ/\ae (dq i64 (1:Int) d.2.2)/\ae (bc d.1 (i64.wrap (d.2.2+(1:Int))))/\ae (↑(x*((2:Nat)*(2:Nat)^d.2.2.toNat)):Int)/\mulM d.1.1 (b6 d.1.1 (bc d.1 (d.2.2+(1:Int))) x_1) (bc d.1 (i64.wrap (d.2.2+(1:Int))))=b6 d.1.1 (bc d.1 (d.2.2+(1:Int))) x'/\ae (dq i64 (1:Int) d.2.2)/\i64.wrap ((x_1:Int)+(1:Int))=(x':Int))/\(ae d.1.1/\ae d.1.2.1/\ae d.1.2.2)/\List.set (List.set (qW d.1 d.2.1 d.2.2.toNat (x*(2:Nat)^d.2.2.toNat+x_1)) (Int.toNat (i64.wrap ((↑(x*((2:Nat)*(2:Nat)^d.2.2.toNat)):Int)+(x_1:Int)))) (eO d.1.1 (d.2.1.getD (Int.toNat (i64.wrap ((↑(x*((2:Nat)*(2:Nat)^d.2.2.toNat)):Int)+(x_1:Int)))) (0:Int)) (mulM d.1.1 (d.2.1.getD (Int.toNat (i64.wrap (i64.wrap ((↑(x*((2:Nat)*(2:Nat)^d.2.2.toNat)):Int)+(x_1:Int))+dq i64 (1:Int) d.2.2))) (0:Int)) (b6 d.1.1 (bc d.1 (d.2.2+(1:Int))) x_1)))) (Int.toNat (i64.wrap (i64.wrap ((↑(x*((2:Nat)*(2:Nat)^d.2.2.toNat)):Int)+(x_1:Int))+dq i64 (1:Int) d.2.2))) (bR d.1.1 (d.2.1.getD (Int.toNat (i64.wrap ((↑(x*((2:Nat)*(2:Nat)^d.2.2.toNat)):Int)+(x_1:Int)))) (0:Int)) (mulM d.1.1 (d.2.1.getD (Int.toNat (i64.wrap (i64.wrap ((↑(x*((2:Nat)*(2:Nat)^d.2.2.toNat)):Int)+(x_1:Int))+dq i64 (1:Int) d.2.2))) (0:Int)) (b6 d.1.1 (bc d.1 (d.2.2+(1:Int))) x_1)))=qW d.1 d.2.1 d.2.2.toNat (x*(2:Nat)^d.2.2.toNat+x'))))))/\(decide ((x_1:Int)<dq i64 (1:Int) d.2.2)=false->∃(x':Nat),x'*((2:Nat)*(2:Nat)^d.2.2.toNat)<=d.2.1.length/\d.2.1.length-x'<d.2.1.length-x/\((ae d.1.1/\ae d.1.2.1/\ae d.1.2.2)/\ae d.2.1/\ae d.2.2/\aQ/\ae (dq i64 (1:Int) d.2.2)/\ae (bc d.1 (i64.wrap (d.2.2+(1:Int))))/\i64.wrap ((↑(x*((2:Nat)*(2:Nat)^d.2.2.toNat)):Int)+i64.wrap ((2:Int)*dq i64 (1:Int) d.2.2))=(↑(x'*((2:Nat)*(2:Nat)^d.2.2.toNat)):Int))/\(ae d.1.1/\ae d.1.2.1/\ae d.1.2.2)/\qW d.1 d.2.1 d.2.2.toNat (x*(2:Nat)^d.2.2.toNat+x_1)=qW d.1 d.2.1 d.2.2.toNat (x'*(2:Nat)^d.2.2.toNat)))/\(decide ((↑(x*((2:Nat)*(2:Nat)^d.2.2.toNat)):Int)<(d.2.1.length:Int))=false->qW d.1 d.2.1 d.2.2.toNat (x*(2:Nat)^d.2.2.toNat)=Ch d.1 d.2.1 d.2.2.toNat (0:Nat) (d.2.1.length/(2:Nat)))):=by
  intro d hw hp
  obtain⟨d,v,s⟩:=d
  obtain⟨⟨f,h,hd⟩,s0,s1⟩:=hp
  replace h:aH f v=true:=h
  replace hd:d=(ar f).1:=hd
  replace s0:(0:Int)<=s:=s0
  replace s1:s<=aE v.length-1:=s1
  obtain⟨hm,he,K,hK,u_,hn,iu⟩:=dB h
  have RL:=kX u_
  have FV:d.1=af f:=by rw[hd];rfl
  have hd2:d.2.1=bV f:=by rw[hd];rfl
  have tC:=(b9 hm).1
  have aJ:=tC
  unfold au at aJ
  have sy:au d.1:=by rw[FV];exact tC
  obtain⟨l,rfl⟩:=Int.eq_ofNat_of_zero_le s0
  rw[hK] at s1
  have hl:l<K:=by omega
  have x7:=o9 hl
  have hhf:=FQ hl
  have hh:=mM l
  have lq:∀ t,El d.1 (v.getD t 0):=fun t=>eY sy (by rw[FV];exact he) t
  have x_:∀ B,(qW d v l B).length=v.length:=fun B=>eB _ _
  have Uv:bc d ((l:Int)+1)=bc d ((l+1:Nat):Int):=rfl
  simp only[exists_const,forall_const,decide_eq_true_eq,decide_eq_false_iff_not,beq_iff_eq,sxS]
  simp only[ae1 (show l<=10 by omega),Int.toNat_natCast,wrap_small (n:=(l:Int)+1) (by omega),Uv,H8 d sy,x_,List.length_set]
  refine⟨⟨by omega,by omega,by show (v.length:Int)*((8:Nat):Int)<=140737488355328;omega⟩,by omega,⟨sy,by rw[FV,hd2];exact (FM hm).1,(by show (0:Int)<=(l:Int)+1;omega),(by show (l:Int)+1<=(30:Int);omega)⟩,fun _=>⟨by omega,⟨by omega,?_⟩,fun x hx=>⟨fun h2=>⟨Nat.zero_le _,⟨⟨?_,rfl⟩,by rw[Nat.add_zero]⟩,fun y hy=>⟨fun h3=>?_,fun h3=>?_⟩⟩,fun h2=>?_⟩⟩⟩
  ·rw[Nat.zero_mul]
   refine List.ext_getElem (by rw[x_,List.length_replicate]) fun t h1 h2=>?_
   simp[qW]
  ·unfold wM b6
   rw[Nat.mul_zero,Int.pow_zero,Int.emod_eq_of_lt (by omega) (by omega)]
  ·have AF:y<2^l:=by omega
   have mj:x<2^(K-l-1):=by
    rcases Nat.lt_or_ge x (2^(K-l-1)) with e|e
    ·exact e
    ·have:=Nat.mul_le_mul_right (2*2^l) e
     rw[Nat.mul_comm (2^(K-l-1))] at this
     omega
   have hB:x*2^l+y<2^l*2^(K-l-1):=by
    have:=Nat.mul_le_mul_right (2^l) (show x+1<=2^(K-l-1) by omega)
    rw[Nat.add_mul,Nat.one_mul,Nat.mul_comm (2^(K-l-1))] at this
    omega
   have hid:=acM (x:=x) AF
   have aT:=abY hh hB
   have i1:i64.wrap (((x*(2*2^l):Nat):Int)+(y:Int))=((e_ (2^l) (x*2^l+y):Nat):Int):=by rw[hid,wrap_small (by omega)];omega
   have i2:i64.wrap (((e_ (2^l) (x*2^l+y):Nat):Int)+((2^l:Nat):Int))=((e_ (2^l) (x*2^l+y)+2^l:Nat):Int):=by rw[wrap_small (by omega)];omega
   have iw:=ZS (d:=d) (v:=v) (l:=l) (B:=x*2^l+y)
   rw[acz,acy,(Ri (x:=x) AF).2] at iw
   have Yy:mulM d.1 (wM d l y) (bc d ((l+1:Nat):Int))=wM d l (y+1):=by
    rw[<-H8 d sy,<-H8 d sy]
    unfold mulM b6
    rw[bZ,<-Int.pow_succ]
   have etw:∀ j,El d.1 (wM d l j):=fun j=>CJ sy _ _
   simp only[i1,i2,Yy,Int.toNat_natCast]
   refine⟨⟨by omega,by omega⟩,⟨by omega,by omega⟩,⟨sy,lq _,etw _⟩,fun _=>⟨⟨sy,lq _,f_ sy _ _⟩,fun _=>⟨⟨by omega,by omega⟩,⟨sy,lq _,f_ sy _ _⟩,fun _=>⟨⟨by omega,by omega⟩,⟨sy,etw _,by unfold bc;exact CJ sy _ _⟩,fun _=>⟨y+1,by omega,by omega,⟨rfl,aG (by omega)⟩,iw⟩⟩⟩⟩⟩
  ·obtain rfl:y=2^l:=by omega
   have mj:x<2^(K-l-1):=by
    rcases Nat.lt_or_ge x (2^(K-l-1)) with e|e
    ·exact e
    ·have:=Nat.mul_le_mul_right (2*2^l) e
     rw[Nat.mul_comm (2^(K-l-1))] at this
     omega
   have nR:=Nat.mul_le_mul_right (2*2^l) (show x+1<=2^(K-l-1) by omega)
   rw[Nat.mul_comm (2^(K-l-1))] at nR
   have hx3:(x+1)*(2*2^l)=x*(2*2^l)+2*2^l:=by rw[Nat.add_mul,Nat.one_mul]
   have hx4:x<2^K:=by
    have:x*1<=x*(2*2^l):=Nat.mul_le_mul_left x (by omega)
    omega
   refine⟨x+1,by omega,by omega,?_,by rw[Nat.add_mul,Nat.one_mul]⟩
   rw[wrap_small (n:=2*((2^l:Nat):Int)) (by omega),wrap_small (by omega)]
   omega
  ·have UB:x*(2*2^l)=2^(K-l-1)*(2*2^l):=by rw[Nat.mul_comm (2^(K-l-1))];omega
   have hxm:=Nat.eq_of_mul_eq_mul_right (show 0<2*2^l by omega) UB
   rw[hn,hhf,hxm,Nat.mul_comm]
   refine List.ext_getElem (by rw[x_,Ci]) fun t h1 h2=>?_
   rw[x_] at h1
   have hb:pt l t<2^l*2^(K-l-1):=TN (by omega)
   simp only[qW,Ch,List.getElem_map,List.getElem_range]
   rw[if_pos hb,if_pos ⟨Nat.zero_le _,hb⟩]
def eW:Nat->Nat->Nat
 | _,0=>1
 | 0,_+1=>0
 | n+1,k+1=>eW n k+eW n (k+1)
theorem xN:∀ n k,n<k->eW n k=0
 | n,0,h=>absurd h (Nat.not_lt_zero _)
 | 0,k+1,_=>rfl
 | n+1,k+1,h=>by rw[eW,xN n k (by omega),xN n (k+1) (by omega)]
theorem Lp:∀ n,eW n n=1
 | 0=>rfl
 | n+1=>by rw[eW,Lp n,xN n (n+1) (by omega)]
theorem Ws:∀ n,eW n 0=1
 | 0=>rfl
 | n+1=>rfl
theorem Qh:∀ n,eW n 1=n
 | 0=>rfl
 | n+1=>by rw[eW,Ws,Qh n];omega
theorem Hl:∀ n k,(k+1)*eW (n+1) (k+1)=(n+1)*eW n k
 | 0,0=>rfl
 | 0,k+1=>by rw[xN 1 (k+1+1) (by omega),xN 0 (k+1) (by omega)];simp
 | n+1,0=>by
   rw[Qh]
   show (0+1)*(n+1+1)=(n+1+1)*1
   omega
 | n+1,k+1=>by
   have h1:=Hl n k
   have h2:=Hl n (k+1)
   rw[eW,Nat.mul_add,h2,show (k+1+1)*eW (n+1) (k+1)=(k+1)*eW (n+1) (k+1)+eW (n+1) (k+1) by rw[Nat.add_mul _ 1,Nat.one_mul],h1]
   have h3:eW (n+1) (k+1)=eW n k+eW n (k+1):=rfl
   rw[h3,show (n+1+1)*(eW n k+eW n (k+1))=(n+1)*(eW n k+eW n (k+1))+(eW n k+eW n (k+1)) by rw[Nat.add_mul _ 1,Nat.one_mul],Nat.mul_add]
   omega
theorem uc(f:Nat->Int):∀ n,bm f (n+1)=f 0+bm (fun k=>f (k+1)) n
 | 0=>by simp[bm]
 | n+1=>by rw[bm,uc f n,bm];omega
theorem XZ(x:Int):∀ n,(x+1)^n=bm (fun k=>(eW n k:Int)*x^k) (n+1)
 | 0=>by simp[bm,eW]
 | n+1=>by
   rw[Int.pow_succ,XZ x n,Int.mul_add,Int.mul_one]
   have h1:bm (fun k=>(eW n k:Int)*x^k) (n+1)*x=bm (fun k=>(eW n k:Int)*x^(k+1)) (n+1):=by
    rw[Int.mul_comm,<-lg]
    refine jE _ fun k _=>?_
    rw[Int.pow_succ];ac_rfl
   have h2:bm (fun k=>(eW (n+1) k:Int)*x^k) (n+1+1)=1+bm (fun k=>(eW n k:Int)*x^(k+1)+(eW n (k+1):Int)*x^(k+1)) (n+1):=by
    rw[uc]
    congr 1
    ·simp[eW]
    ·refine jE _ fun k _=>?_
     rw[eW]
     push_cast
     rw[Int.add_mul]
   have h3:bm (fun k=>(eW n k:Int)*x^k) (n+1)=1+bm (fun k=>(eW n (k+1):Int)*x^(k+1)) (n+1):=by
    have:bm (fun k=>(eW n k:Int)*x^k) (n+1+1)=1+bm (fun k=>(eW n (k+1):Int)*x^(k+1)) (n+1):=by
     rw[uc];congr 1
     simp[eW]
    rw[<-this]
    show _=bm (fun k=>(eW n k:Int)*x^k) (n+1)+(eW n (n+1):Int)*x^(n+1)
    rw[xN n (n+1) (by omega)]
    simp
   rw[h1,h2,EN,h3]
   omega
theorem Y7{p n:Nat}(hp:p=n+1)(xZ:∀ a b:Int,a*b%(p:Int)=0->a%(p:Int)=0\/b%(p:Int)=0):∀ k,0<k->k<p->(eW p k:Int)%(p:Int)=0
 | 0,h,_=>absurd h (Nat.lt_irrefl 0)
 | k+1,_,hk=>by
   subst hp
   have h:=Hl n k
   have h2:((k+1:Nat):Int)*(eW (n+1) (k+1):Int)%((n+1:Nat):Int)=0:=by
    rw[<-Int.natCast_mul,h,Int.natCast_mul,Int.mul_emod_right]
   rcases xZ _ _ h2 with h3|h3
   ·rw[Int.emod_eq_of_lt (by omega) (by omega)] at h3;omega
   ·exact h3
theorem FH{p n:Nat}(hp:p=n+1)(xZ:∀ a b:Int,a*b%(p:Int)=0->a%(p:Int)=0\/b%(p:Int)=0):∀ x:Nat,(x:Int)^p%(p:Int)=(x:Int)%(p:Int)
 | 0=>by subst hp;rw[Int.pow_succ];simp
 | x+1=>by
   have h:=FH hp xZ x
   have hb:=XZ (x:Int) p
   have h1:bm (fun k=>(eW p k:Int)*(x:Int)^k) (p+1)%(p:Int)=(1+(x:Int)^p)%(p:Int):=by
    subst hp
    rw[bm,uc,Lp]
    have:bm (fun k=>(eW (n+1) (k+1):Int)*(x:Int)^(k+1)) n%((n+1:Nat):Int)=bm (fun _=>0) n%((n+1:Nat):Int):=iU _ fun k hk=>by
     rw[<-bZ,Y7 rfl xZ (k+1) (by omega) (by omega),Int.zero_mul,Int.zero_emod]
    rw[Co] at this
    have e0:(eW (n+1) 0:Int)*(x:Int)^0=1:=by simp[eW]
    rw[e0]
    refine sV ?_ (by rw[show ((1:Nat):Int)=1 from rfl,Int.one_mul])
    rw[<-fM,this,fM,Int.add_zero]
   show ((x+1:Nat):Int)^p%(p:Int)=((x+1:Nat):Int)%(p:Int)
   rw[show ((x+1:Nat):Int)=(x:Int)+1 from rfl,hb,h1,<-fM,h,fM,Int.add_comm]
theorem aaH{f:Int}(hm:af f≠0)(a:Int)(ha:a%af f≠0):a^(af f-1).toNat%af f=1%af f:=by
 have xZ:=nU hm
 have hp:=xZ.mod
 unfold au at hp
 obtain⟨n,hn⟩:∃ n:Nat,af f=((n+1:Nat):Int):=⟨(af f-1).toNat,by omega⟩
 have hpn:=xZ.pr
 rw[hn] at hpn ha hp ⊢
 obtain⟨x,hx⟩:=Int.eq_ofNat_of_zero_le (Int.emod_nonneg a (show ((n+1:Nat):Int)≠0 by omega))
 have h1:=FH rfl hpn x
 have e:(((n+1:Nat):Int)-1).toNat=n:=by omega
 rw[e]
 have h2:(x:Int)*((x:Int)^n-1)%((n+1:Nat):Int)=0:=by
  rw[Int.mul_sub,Int.mul_one,Int.mul_comm,<-Int.pow_succ,Int.sub_emod]
  show ((x:Int)^(n+1)%((n+1:Nat):Int)-(x:Int)%((n+1:Nat):Int))%((n+1:Nat):Int)=0
  rw[h1,Int.sub_self,Int.zero_emod]
 rw[<-pow_mod,hx]
 rcases hpn _ _ h2 with h3|h3
 ·rw[<-hx,mod_mod] at h3
  exact absurd h3 ha
 ·have:(x:Int)^n=((x:Int)^n-1)+1:=by omega
  rw[this,<-eC,h3,Int.zero_add]
theorem inv_mul{f:Int}(hm:af f≠0){a:Int}(ha:a%af f≠0):a*bk (af f) a%af f=1:=by
 have hp:=(b9 hm).1
 unfold au at hp
 unfold bk b6
 rw[bU,Int.mul_comm,<-Int.pow_succ,show (af f-2).toNat.succ=(af f-1).toNat by omega,aaH hm a ha,Int.emod_eq_of_lt (by omega) (by omega)]
set_option maxRecDepth 10000
theorem oT{f:Int}{xs:List Int}{k:Int}(h:eX f xs k=true):bT f xs=true/\xs.length<=10/\1<=k/\k<=xs.length:=by
 unfold eX at h
 simp only[Bool.and_eq_true,decide_eq_true_eq] at h
 exact⟨h.1.2,h.1.1,h.2.1,h.2.2⟩
theorem Y_{f:Int}{xs:List Int}{k:Int}(h1:bT f xs=true)(h2:xs.length<=10)(h3:1<=k)(h4:k<=xs.length):eX f xs k=true:=by
 unfold eX
 simp only[Bool.and_eq_true,decide_eq_true_eq]
 exact⟨⟨h2,h1⟩,h3,h4⟩
theorem Y9{f:Int}{xs:List Int}{k:Int}:(bM f xs k).2=eX f xs k:=by
 unfold bM
 cases h:eX f xs k<;>rfl
theorem Y8{f:Int}{xs:List Int}{k:Int}(h:eX f xs k=true):(bM f xs k).1.1=af f:=by
 unfold bM
 rw[if_pos h];rfl
theorem uA(a b:List Int)(s:Nat):∀ n,(bn a s n).length=(bn b s n).length
 | 0=>rfl
 | n+1=>by
   unfold bn
   split
   ·rw[List.length_append,List.length_append,uA a b s n];rfl
   ·exact uA a b s n
theorem sub_sub{xs:List Int}(s:Nat):∀ n,n<=xs.length->(bn xs s n).Sublist (xs.take n)
 | 0,_=>by simp[bn]
 | n+1,h=>by
   have h1:=sub_sub (xs:=xs) s n (by omega)
   rw[<-rH (z:=(0:Int)) (show n<xs.length by omega)]
   unfold bn
   split
   ·exact h1.append (List.Sublist.refl _)
   ·exact h1.trans (List.sublist_append_left _ _)
theorem H6{xs:List Int}(s:Nat):(bn xs s xs.length).Sublist xs:=by
 have:=sub_sub (xs:=xs) s xs.length (Nat.le_refl _)
 rwa [List.take_length] at this
theorem AL{p:Int}{a b:List Int}(h:a.Sublist b)(he:aq p b=true):aq p a=true:=by
 unfold aq at *
 rw[decide_eq_true_eq] at *
 exact fun x hx=>he x (h.subset hx)
theorem VU{f:Int}{xs:List Int}(hp:bT f xs=true){s:Nat}(h:1<=(bn xs s xs.length).length):bT f (bn xs s xs.length)=true:=by
 obtain⟨hm,tx,mg,he,hn⟩:=kY hp
 have hs:=H6 (xs:=xs) s
 exact So hm h (by have:=hs.length_le;omega) (AL hs he) (hn.sublist hs)
theorem zV{l:List Int}{s n:Nat}(h:s/2^n%2=1):bn l s n++[l.getD n 0]=bn l s (n+1):=by
 show _=if _ then _ else _
 rw[if_pos h]
theorem zU{l:List Int}{s n:Nat}(h:¬s/2^n%2=1):bn l s n=bn l s (n+1):=by
 show _=if _ then _ else _
 rw[if_neg h]
theorem M9{xs:List Int}{i:Nat}:∀ n,i<n->(dY xs i n).length+1<=n
 | 0,h=>by omega
 | n+1,h=>by
   by_cases e:n=i
   ·rw[Gj e]
    have:=uv xs i n
    omega
   ·rw[BR e,List.length_append]
    have:=M9 (xs:=xs) n (show i<n by omega)
    simp only[List.length_cons,List.length_nil];omega
theorem Q6{p:Int}(hp:au p){xs:List Int}(ys:List Int):∀ n,n<=xs.length->(fk p xs ys n).length<=xs.length
 | 0,_=>by simp[fk]
 | n+1,h=>by
   have h1:=Q6 hp (xs:=xs) ys n (by omega)
   unfold fk
   have e1:=(Fm hp (fk p xs ys n) (gv p (dx p (dY xs n xs.length)) (mulM p (ys.getD n 0) (n6 p xs n)))).2.1
   have e2:=(zQ hp (dx p (dY xs n xs.length)) (mulM p (ys.getD n 0) (n6 p xs n))).2.1
   have e3:=(uC hp (dY xs n xs.length)).1
   have e4:=M9 (xs:=xs) xs.length (show n<xs.length by omega)
   omega
theorem LF{p:Int}(hp:au p){a:List Int}(x:Int){n:Nat}(hn:a.length<=n):sm p a x n=sn p a x:=by
 induction n with
 | zero =>
   have:a.length=0:=by omega
   unfold sn
   rw[this]
 | succ n ih =>
   by_cases h:a.length=n+1
   ·unfold sn
    rw[h]
   ·have h1:=ih (by omega)
    show eO p (sm p a x n) (mulM p (a.getD n 0) (b6 p x n))=_
    rw[h1,my (by omega)]
    unfold eO mulM
    rw[Int.zero_mul,Int.zero_emod,Int.add_zero,gz (TY hp a x)]
theorem aaE{p:Int}(hp:au p){a b:List Int}(h:∀ t,a.getD t 0=b.getD t 0)(x:Int):sn p a x=sn p b x:=by
 have key:∀ n,sm p a x n=sm p b x n:=by
  intro n
  induction n with
  | zero=>rfl
  | succ n ih =>
    show eO p (sm p a x n) (mulM p (a.getD n 0) (b6 p x n))=eO p (sm p b x n) (mulM p (b.getD n 0) (b6 p x n))
    rw[ih,h n]
 rw[<-LF hp (a:=a) x (n:=max a.length b.length) (by omega),key,LF hp (a:=b) x (by omega)]
theorem IV{l:List Int}:∀ n,∀ t,oC l n<=t->t<n->l.getD t 0=0
 | 0,t,_,h=>by omega
 | n+1,t,h,h1=>by
   unfold oC at h
   split at h
   ·rename_i h0
    by_cases e:t=n
    ·rw[e];exact h0
    ·exact IV n t h (by omega)
   ·omega
theorem Cu(l:List Int)(t:Nat):(cf l).getD t 0=l.getD t 0:=by
 by_cases h:t<ka l
 ·exact v5 h
 ·rw[my (by rw[oP];omega)]
  by_cases h1:t<l.length
  ·exact (IV l.length t (Nat.le_of_not_lt h) h1).symm
  ·exact (my (by omega)).symm
theorem NV(l:List Int)(j t:Nat):(l++List.replicate j 0).getD t 0=l.getD t 0:=by
 rw[List.getD_eq_getElem?_getD,List.getD_eq_getElem?_getD,List.getElem?_append]
 split
 ·rfl
 ·rename_i h
  rw[List.getElem?_eq_none (show l.length<=t by omega),List.getElem?_replicate]
  split<;>rfl
theorem mZ(p:Int)(a xs:List Int)(n:Nat):(fx p a xs n).length=n:=jB _ n
theorem Ed(p:Int)(a xs:List Int)(n:Nat):fx p a xs n++[sn p a (xs.getD n 0)]=fx p a xs (n+1):=yh _ n
theorem Zl{p:Int}(hp:au p){a b:List Int}(h:∀ t,a.getD t 0=b.getD t 0)(xs:List Int)(n:Nat):fx p a xs n=fx p b xs n:=eG (fun _ _=>aaE hp h _)
theorem Bn{h:Nat->Bool}:∀ n,(∀ t,t<n->h t=false)->findF h n=none
 | 0,_=>rfl
 | n+1,hn=>by
   unfold findF
   rw[Bn n (fun t ht=>hn t (by omega)),hn n (by omega)];rfl
theorem I4{h:Nat->Bool}{s:Nat}(hs:h s=true)(hl:∀ t,t<s->h t=false):∀ n,s<n->findF h n=some s
 | 0,h0=>by omega
 | n+1,h0=>by
   unfold findF
   by_cases e:s=n
   ·subst e
    rw[Bn s hl,hs];rfl
   ·rw[I4 hs hl n (by omega)]
theorem uJ{f:Int}{xs ys:List Int}{k:Int}(h:(eX f xs k&&decide (ys.length=xs.length)&&aC f ys)=false):([],0,false)=dI f xs ys k:=by unfold dI;rw[h];rfl
theorem Hm{f:Int}{xs ys:List Int}{k:Int}(h1:eX f xs k=true)(h2:ys.length=xs.length)(h3:aC f ys=true):dI f xs ys k=Wx (af f) xs ys k.toNat (findF (kT (af f) xs ys k.toNat) (2^xs.length)):=by
 unfold dI
 rw[h1,h3,decide_eq_true h2];rfl
theorem Qn{f:Int}{xs ys:List Int}{k:Int}(h1:eX f xs k=true)(h2:ys.length=xs.length)(h3:aC f ys=true){s:Nat}(hs:nA (af f) xs ys k.toNat s)(hl:s<2^xs.length)(hh:kT (af f) xs ys k.toNat s=true) :
 dI f xs ys k=(Sk (dL (af f) xs ys s) k.toNat,((wQ (af f) xs ys s:Nat):Int),true):=by
 rw[Hm h1 h2 h3,I4 hh hs.2 _ hl];rfl
theorem Qm{f:Int}{xs ys:List Int}{k:Int}(h1:eX f xs k=true)(h2:ys.length=xs.length)(h3:aC f ys=true){s:Nat}(hs:nA (af f) xs ys k.toNat s)(hl:¬s<2^xs.length):([],0,false)=dI f xs ys k:=by
 obtain rfl:s=2^xs.length:=by have:=hs.1;omega
 rw[Hm h1 h2 h3,Bn _ hs.2];rfl
theorem N2{p:Int}{xs ys:List Int}{k s:Nat}(hs:nA p xs ys k s)(hl:s<2^xs.length)(hh:kT p xs ys k s=false):nA p xs ys k (s+1):=by
 refine⟨by omega,fun t ht=>?_⟩
 by_cases e:t=s
 ·rw[e];exact hh
 ·exact hs.2 t (by omega)
theorem Nk{n:Nat}(h:n<=10):2^n<=1024:=Nat.pow_le_pow_right (n:=2) (by omega) h
theorem Q1{n:Nat}(h:n<=10):dq .i64 1 (n:Int)=((2^n:Nat):Int):=by
 rw[zo (by omega)]
 exact (Int.natCast_pow 2 n).symm
theorem V4{n:Nat}(h:n<=10):IntKind.u64.wrap (n:Int)=(n:Int):=Cw ⟨n,by omega⟩
theorem UC:∀ a:Fin 1024,zl .i64 (a.val:Int) 1=((a.val%2:Nat):Int):=by decide +kernel
theorem Ly{a b:List Int}{n:Nat}(h:n<a.length/\n<b.length/\a.getD n 0=b.getD n 0):dO a b (n+1)=dO a b n:=by
 show (if _ then _ else _)=_
 rw[if_pos h]
theorem D_{a b:List Int}{n:Nat}(h:¬(n<a.length/\n<b.length/\a.getD n 0=b.getD n 0)):dO a b (n+1)=dO a b n+1:=by
 show (if _ then _ else _)=_
 rw[if_neg h]
theorem Fv(a b:List Int):∀ n,dO a b n<=n
 | 0=>Nat.le_refl _
 | n+1=>by
   have:=Fv a b n
   unfold dO
   split<;>omega
theorem Lz{a b:List Int}{m:Nat}(hm:m=min a.length b.length):∀ d,dO a b (m+d)=d+dO a b m
 | 0=>by rw[Nat.zero_add];rfl
 | d+1=>by
   have h:¬(m+d<a.length/\m+d<b.length/\a.getD (m+d) 0=b.getD (m+d) 0):=by omega
   rw[<-Nat.add_assoc,D_ h,Lz hm d]
   omega
theorem Qo{a b:List Int}{n:Nat}(ha:a.length=n)(hb:b.length=n):pz a b=((dO a b n:Nat):Int):=by
 unfold pz
 rw[ha,hb,Nat.max_self]
theorem Fu{a b:List Int}(ha:a.length<=4096)(hb:b.length<=4096):q_ a b=pz a b:=by
 unfold q_
 rw[if_neg (by omega)]
theorem LW{n k:Nat}(h:k<=n)(hn:n<=10):i64.wrap ((i64.wrap ((n:Int)-(k:Int))).tdiv 2)=(((n-k)/2:Nat):Int):=by
 rw[wrap_small (n:=(n:Int)-(k:Int)) (by omega),show (n:Int)-(k:Int)=((n-k:Nat):Int) by omega]
 exact sv (by omega)
theorem MX{f:Int}{xs ys:List Int}(hp:bT f xs=true)(hl:ys.length=xs.length)(s:Nat):aq (af f) (dL (af f) xs ys s)=true/\(dL (af f) xs ys s).length<=(bn xs s xs.length).length:=by
 obtain⟨hm,tx,mg,he,hn⟩:=kY hp
 have h0:=(nU hm).mod
 have hs:=(H6 (xs:=xs) s).length_le
 exact⟨(yB h0 (bn ys s xs.length) (by omega) _).1,Q6 h0 _ _ (Nat.le_refl _)⟩
theorem Vj{p:Int}(hp:au p){m:List Int}(h:aq p m=true)(j:Nat):aq p (m++List.replicate j 0)=true :=
 yO (fun i _=>by rw[NV];exact fc hp h i)
theorem vG{l:List Int}(h:jk l=true)(hn:0<l.length):l.getD (l.length-1) 0≠0:=by
 unfold jk at h
 have h:=of_decide_eq_true h
 intro h0
 obtain⟨n,gR⟩:∃ n,l.length=n+1:=⟨l.length-1,by omega⟩
 unfold ka at h
 rw[gR,oC] at h
 rw[gR,Nat.add_sub_cancel] at h0
 rw[if_pos h0] at h
 have:=CG l n
 omega
theorem VW{l:List Int}(h:0<l.length->l.getD (l.length-1) 0≠0):jk l=true:=by
 unfold jk
 refine decide_eq_true ?_
 unfold ka
 cases hn:l.length with
 | zero=>rfl
 | succ n =>
   rw[oC]
   rw[hn,Nat.add_sub_cancel] at h
   rw[if_neg (h (by omega))]
theorem ZY{x y:List Int}(hx:jk x=true)(hy:jk y=true)(h:∀ t,x.getD t 0=y.getD t 0):x=y:=by
 have key:∀ {x y:List Int},jk y=true->(∀ t,x.getD t 0=y.getD t 0)->y.length<=x.length:=by
  intro x y hy h
  rcases Nat.lt_or_ge x.length y.length with hl|hl
  ·have h1:=vG hy (by omega)
   rw[<-h,List.getD_eq_getElem?_getD,List.getElem?_eq_none (by omega)] at h1
   exact absurd rfl h1
  ·exact hl
 have h1:=key hy h
 have h2:=key hx (fun t=>(h t).symm)
 refine List.ext_getElem (by omega) fun t a b=>?_
 have:=h t
 simpa[List.getD_eq_getElem?_getD,a,b] using this
theorem ET{x y:List Int}(h:∀ t,x.getD t 0=y.getD t 0):cf x=cf y :=
 ZY (vH x) (vH y) (fun t=>by rw[Cu,Cu,h])
theorem kP(p:Int)(b L:List Int)(i:Nat)(c:Int)(j:Nat):(dr p b L i c j).length=L.length:=eB _ _
theorem mY(p:Int)(b L:List Int)(i:Nat)(c:Int)(j:Nat){t:Nat}(ht:t<L.length):(dr p b L i c j).getD t 0=if i<=t/\t<i+j then bR p (L.getD t 0) (mulM p c (b.getD (t-i) 0)) else L.getD t 0:=by
 simp[dr,List.getD_eq_getElem?_getD,ht]
theorem lB(p r:Int)(a b:List Int):∀ k,(cJ p r a b k).length=a.length
 | 0=>rfl
 | k+1=>by rw[cJ,kP,lB p r a b k]
theorem Fw{p r:Int}(hp:au p){a b:List Int}(ha:aq p a=true):∀ k t,El p ((cJ p r a b k).getD t 0)
 | 0,t=>eY hp ha t
 | k+1,t=>by
   rw[cJ]
   rcases Nat.lt_or_ge t a.length with ht|ht
   ·rw[mY _ _ _ _ _ _ (by rw[lB];exact ht)]
    split
    ·exact lC hp _ _
    ·exact Fw hp ha k t
   ·rw[List.getD_eq_getElem?_getD,List.getElem?_eq_none (by rw[kP,lB];exact ht)]
    exact gA hp
theorem LB{f:Int}(hm:af f≠0){a b:List Int}(ha:aq (af f) a=true)(hb:b.getD (b.length-1) 0%af f≠0)(vd:0<b.length)(ki:b.length<=a.length):∀ k,k<=a.length-b.length+1->∀ t,a.length-k<=t->(cJ (af f) (bC (af f) b) a b k).getD t 0=0
 | 0,_,t,ht=>by rw[cJ,List.getD_eq_getElem?_getD,List.getElem?_eq_none (by omega)];rfl
 | k+1,hk,t,ht=>by
   have hp:=(b9 hm).1
   have aJ:=hp
   unfold au at aJ
   rcases Nat.lt_or_ge t a.length with Uy|Uy
   ·rw[cJ,mY _ _ _ _ _ _ (by rw[lB];exact Uy)]
    by_cases h1:t=a.length-1-k
    ·rw[if_pos (by omega)]
     have e:t-(a.length-b.length-k)=b.length-1:=by omega
     rw[e,<-h1]
     have lq:=Fw (r:=bC (af f) b) (b:=b) hp ha k t
     generalize (cJ (af f) (bC (af f) b) a b k).getD t 0=x at *
     unfold bR mulM bC
     rw[mQ,<-mQ,bZ]
     have:x*bk (af f) (b.getD (b.length-1) 0)*b.getD (b.length-1) 0%af f=x%af f:=by
      rw[Int.mul_assoc,Int.mul_comm (bk _ _),<-bU,inv_mul hm hb,Int.mul_one]
     rw[this,mQ,Int.sub_self,Int.zero_emod]
    ·rw[if_neg (by omega)]
     exact LB hm ha hb vd ki k (by omega) t (by omega)
   ·rw[List.getD_eq_getElem?_getD,List.getElem?_eq_none (by rw[lB];exact Uy)];rfl
theorem ui(p r:Int)(a b:List Int)(n k:Nat):(gb p r a b n k).length=n:=eB _ _
theorem CI(p r:Int)(a b:List Int)(n k:Nat){t:Nat}(ht:t<n):(gb p r a b n k).getD t 0=if a.length-b.length<t+k/\t<=a.length-b.length then kc p r a b (a.length-b.length-t) else 0:=by
 simp[gb,List.getD_eq_getElem?_getD,ht]
theorem xV{l:List Int}{t:Nat}(h:l.length<=t):l.getD t 0=0:=by rw[List.getD_eq_getElem?_getD,List.getElem?_eq_none h];rfl
theorem Zi{f:Int}(hm:af f≠0){a b:List Int}(ha:aZ f a=true)(hb:b.getD (b.length-1) 0%af f≠0)(vd:0<b.length)(ki:b.length<=a.length):jk (gb (af f) (bC (af f) b) a b (a.length-b.length+1) (a.length-b.length+1))=true:=by
 have xZ:=nU hm
 have hp:=xZ.mod
 unfold aZ at ha
 simp only[Bool.and_eq_true,decide_eq_true_eq] at ha
 obtain⟨_,he⟩:=jt ha.1.2
 refine VW fun _=>?_
 rw[ui,Nat.add_sub_cancel,CI _ _ _ _ _ _ (by omega),if_pos (by omega),Nat.sub_self]
 unfold kc mulM
 rw[cJ,Nat.sub_zero]
 have h1:=vG ha.2 (by omega)
 have h2:=eY hp he (a.length-1)
 intro h3
 rcases xZ.pr _ _ h3 with h4|h4
 ·rw[gz h2] at h4;exact h1 h4
 ·have:=inv_mul hm hb
  unfold bC at h4
  rw[<-bU,h4,Int.mul_zero,Int.zero_emod] at this
  exact absurd this (by decide)
theorem WB{f:Int}(hm:af f≠0){a b:List Int}(ha:aZ f a=true)(hb:b.getD (b.length-1) 0%af f≠0)(vd:0<b.length)(ki:b.length<=a.length) :
 (cf (gb (af f) (bC (af f) b) a b a.length (a.length-b.length+1)),cf (cJ (af f) (bC (af f) b) a b (a.length-b.length+1)))=hU (af f) a b:=by
 unfold hU
 rw[if_neg (by omega)]
 congr 1
 rw[<-yN (Zi hm ha hb vd ki)]
 refine ET fun t=>?_
 rcases Nat.lt_or_ge t (a.length-b.length+1) with ht|ht
 ·rw[CI _ _ _ _ _ _ (by omega),CI _ _ _ _ _ _ ht]
 ·rw[xV (l:=gb _ _ _ _ (a.length-b.length+1) _) (by rw[ui];exact ht)]
  rcases Nat.lt_or_ge t a.length with Ux|Ux
  ·rw[CI _ _ _ _ _ _ Ux,if_neg (by omega)]
  ·exact xV (by rw[ui];exact Ux)
theorem WA{f:Int}(hm:af f≠0){a b:List Int}(ha:aZ f a=true)(hb:b.getD (b.length-1) 0%af f≠0)(vd:0<b.length)(ki:b.length<=a.length) :
 (gb (af f) (bC (af f) b) a b (a.length-b.length+1) (a.length-b.length+1),cf ((cJ (af f) (bC (af f) b) a b (a.length-b.length+1)).take (b.length-1)))=hU (af f) a b:=by
 have FO:=ha
 unfold aZ at FO
 simp only[Bool.and_eq_true,decide_eq_true_eq] at FO
 obtain⟨_,he⟩:=jt FO.1.2
 unfold hU
 rw[if_neg (by omega)]
 congr 1
 refine ET fun t=>?_
 rcases Nat.lt_or_ge t (b.length-1) with ht|ht
 ·simp only[List.getD_eq_getElem?_getD,List.getElem?_take,if_pos ht]
 ·rw[xV (by rw[List.length_take];omega),LB hm he hb vd ki _ (Nat.le_refl _) t (by omega)]
theorem zO(m:Int)(l:List Int):j7 m l 0:=⟨Nat.zero_le _,fun x hx=>by simp at hx⟩
theorem zN{m:Int}{l:List Int}{k:Nat}(h:j7 m l k)(hk:k<l.length)(h1 : -m<=l.getD k 0)(h2:l.getD k 0<=m):j7 m l (k+1):=by
 refine⟨hk,fun x hx=>?_⟩
 rw[<-rH (z:=(0:Int)) hk] at hx
 rcases List.mem_append.1 hx with h3|h3
 ·exact h.2 x h3
 ·rw[List.mem_singleton.1 h3];exact⟨h1,h2⟩
theorem yx{m:Int}{l:List Int}{k:Nat}(hk:k<l.length)(h:¬(-m<=l.getD k 0/\l.getD k 0<=m)):¬ ∀ x∈l,-m<=x/\x<=m:=by
 intro hx
 apply h
 refine hx _ ?_
 rw[List.getD_eq_getElem?_getD,List.getElem?_eq_getElem hk]
 exact List.getElem_mem _
theorem C0{m:Int}{l:List Int}{k:Nat}(h:j7 m l k)(hk:¬k<l.length):∀ x∈l,-m<=x/\x<=m:=by
 have:=h.2
 rwa [List.take_of_length_le (by omega)] at this
theorem OH :
 ∀(d:List Int),Ty.wf aj d->True->(decide ((200:Int)<(d.length:Int))=true->false=di d)/\(decide ((200:Int)<(d.length:Int))=false->j7 (1000000:Int) d (0:Nat)/\(d=d/\(0:Int)=(↑(0:Nat):Int))/\∀(x:Nat),j7 (1000000:Int) d x->(decide ((x:Int)<(d.length:Int))=true->((0:Int)<=(x:Int)/\(x:Int)<(d.length:Int))/\True/\((!(decide ((-1000000:Int)<=d.getD ((x:Int).toNat) (0:Int))&&decide (d.getD ((x:Int).toNat) (0:Int)<=(1000000:Int))))=true->false=di d)/\((!(decide ((-1000000:Int)<=d.getD ((x:Int).toNat) (0:Int))&&decide (d.getD ((x:Int).toNat) (0:Int)<=(1000000:Int))))=false->∃(x':Nat),j7 (1000000:Int) d x'/\d.length-x'<d.length-x/\d=d/\i64.wrap ((x:Int)+(1:Int))=(x':Int)))/\(decide ((x:Int)<(d.length:Int))=false->true=di d)):=by
  intro d hw hp
  replace hw:aj.wf d:=hw
  simp only[exists_const,forall_const,decide_eq_true_eq,decide_eq_false_iff_not,beq_iff_eq,sxS]
  unfold di
  refine⟨fun h=>by rw[decide_eq_false (show ¬d.length<=200 by omega)];rfl,fun h=>⟨zO _ _,rfl,fun x hx=>⟨fun aT=>⟨⟨by omega,aT⟩,fun h1=>?_,fun h1=>?_⟩,fun jV=>?_⟩⟩⟩
  ·rw[decide_eq_false (yx (m:=1000000) (show x<d.length by omega) (fun hh=>by rw[decide_eq_true hh.1,decide_eq_true hh.2] at h1;cases h1)),Bool.and_false]
  ·simp only[Bool.and_eq_true,decide_eq_true_eq] at h1
   exact⟨x+1,zN hx (by omega) h1.1 h1.2,by omega,by rw[wrap_small (by omega)];rfl⟩
  ·rw[decide_eq_true (show d.length<=200 by omega),decide_eq_true (C0 (m:=1000000) hx (by omega))];rfl
theorem Of :
 ∀(d:List Int),Ty.wf aj d->True->j7 (1000000:Int) d (0:Nat)/\(d=d/\d=d/\ae (d.length:Int)/\(0:Int)=(↑(0:Nat):Int))/\∀(x:Nat),j7 (1000000:Int) d x->(decide ((x:Int)<(d.length:Int))=true->((0:Int)<=(x:Int)/\(x:Int)<(d.length:Int))/\(decide (d.getD ((x:Int).toNat) (0:Int)<(-1000000:Int))=true->false=di d)/\(decide (d.getD ((x:Int).toNat) (0:Int)<(-1000000:Int))=false->(decide ((1000000:Int)<d.getD ((x:Int).toNat) (0:Int))=true->false=di d)/\(decide ((1000000:Int)<d.getD ((x:Int).toNat) (0:Int))=false->∃(x':Nat),j7 (1000000:Int) d x'/\d.length-x'<d.length-x/\d=d/\d=d/\ae (d.length:Int)/\i64.wrap ((x:Int)+(1:Int))=(x':Int))))/\(decide ((x:Int)<(d.length:Int))=false->decide ((d.length:Int)<=(200:Int))=di d):=by
  intro d hw hp
  have hl:d.length<=9223372036854775807:=by have:=hw.1;unfold cY at this;omega
  simp only[exists_const,forall_const,decide_eq_true_eq,decide_eq_false_iff_not,beq_iff_eq,sxS]
  unfold di
  refine⟨zO _ _,rfl,fun x hx=>⟨fun aT=>⟨⟨by omega,aT⟩,fun h1=>?_,fun h1=>⟨fun h2=>?_,fun h2=>?_⟩⟩,fun jV=>?_⟩⟩
  ·rw[decide_eq_false (yx (m:=1000000) (show x<d.length by omega) (fun hh=>by omega)),Bool.and_false]
  ·rw[decide_eq_false (yx (m:=1000000) (show x<d.length by omega) (fun hh=>by omega)),Bool.and_false]
  ·exact⟨x+1,zN hx (by omega) (by omega) (by omega),by omega,by rw[wrap_small (by omega)];rfl⟩
  ·rw[decide_eq_true (C0 (m:=1000000) hx (by omega)),Bool.and_true]
   by_cases h:d.length<=200
   ·rw[decide_eq_true h,decide_eq_true (show (d.length:Int)<=200 by omega)]
   ·rw[decide_eq_false h,decide_eq_false (show ¬(d.length:Int)<=200 by omega)]
theorem OJ :
 ∀(d:List Int),Ty.wf aj d->True->(decide ((400:Int)<(d.length:Int))=true->false=cn d)/\(decide ((400:Int)<(d.length:Int))=false->j7 (1099511627776:Int) d (0:Nat)/\(d=d/\(0:Int)=(↑(0:Nat):Int))/\∀(x:Nat),j7 (1099511627776:Int) d x->(decide ((x:Int)<(d.length:Int))=true->((0:Int)<=(x:Int)/\(x:Int)<(d.length:Int))/\True/\((!(decide ((-1099511627776:Int)<=d.getD ((x:Int).toNat) (0:Int))&&decide (d.getD ((x:Int).toNat) (0:Int)<=(1099511627776:Int))))=true->false=cn d)/\((!(decide ((-1099511627776:Int)<=d.getD ((x:Int).toNat) (0:Int))&&decide (d.getD ((x:Int).toNat) (0:Int)<=(1099511627776:Int))))=false->∃(x':Nat),j7 (1099511627776:Int) d x'/\d.length-x'<d.length-x/\d=d/\i64.wrap ((x:Int)+(1:Int))=(x':Int)))/\(decide ((x:Int)<(d.length:Int))=false->true=cn d)):=by
  intro d hw hp
  replace hw:aj.wf d:=hw
  simp only[exists_const,forall_const,decide_eq_true_eq,decide_eq_false_iff_not,beq_iff_eq,sxS]
  unfold cn
  refine⟨fun h=>by rw[decide_eq_false (show ¬d.length<=400 by omega)];rfl,fun h=>⟨zO _ _,rfl,fun x hx=>⟨fun aT=>⟨⟨by omega,aT⟩,fun h1=>?_,fun h1=>?_⟩,fun jV=>?_⟩⟩⟩
  ·rw[decide_eq_false (yx (m:=1099511627776) (show x<d.length by omega) (fun hh=>by rw[decide_eq_true hh.1,decide_eq_true hh.2] at h1;cases h1)),Bool.and_false]
  ·simp only[Bool.and_eq_true,decide_eq_true_eq] at h1
   exact⟨x+1,zN hx (by omega) h1.1 h1.2,by omega,by rw[wrap_small (by omega)];rfl⟩
  ·rw[decide_eq_true (show d.length<=400 by omega),decide_eq_true (C0 (m:=1099511627776) hx (by omega))];rfl
theorem Og :
 ∀(d:List Int),Ty.wf aj d->True->j7 (1099511627776:Int) d (0:Nat)/\(d=d/\d=d/\ae (d.length:Int)/\(0:Int)=(↑(0:Nat):Int))/\∀(x:Nat),j7 (1099511627776:Int) d x->(decide ((x:Int)<(d.length:Int))=true->((0:Int)<=(x:Int)/\(x:Int)<(d.length:Int))/\(decide (d.getD ((x:Int).toNat) (0:Int)<(-1099511627776:Int))=true->false=cn d)/\(decide (d.getD ((x:Int).toNat) (0:Int)<(-1099511627776:Int))=false->(decide ((1099511627776:Int)<d.getD ((x:Int).toNat) (0:Int))=true->false=cn d)/\(decide ((1099511627776:Int)<d.getD ((x:Int).toNat) (0:Int))=false->∃(x':Nat),j7 (1099511627776:Int) d x'/\d.length-x'<d.length-x/\d=d/\d=d/\ae (d.length:Int)/\i64.wrap ((x:Int)+(1:Int))=(x':Int))))/\(decide ((x:Int)<(d.length:Int))=false->decide ((d.length:Int)<=(400:Int))=cn d):=by
  intro d hw hp
  have hl:d.length<=9223372036854775807:=by have:=hw.1;unfold cY at this;omega
  simp only[exists_const,forall_const,decide_eq_true_eq,decide_eq_false_iff_not,beq_iff_eq,sxS]
  unfold cn
  refine⟨zO _ _,rfl,fun x hx=>⟨fun aT=>⟨⟨by omega,aT⟩,fun h1=>?_,fun h1=>⟨fun h2=>?_,fun h2=>?_⟩⟩,fun jV=>?_⟩⟩
  ·rw[decide_eq_false (yx (m:=1099511627776) (show x<d.length by omega) (fun hh=>by omega)),Bool.and_false]
  ·rw[decide_eq_false (yx (m:=1099511627776) (show x<d.length by omega) (fun hh=>by omega)),Bool.and_false]
  ·exact⟨x+1,zN hx (by omega) (by omega) (by omega),by omega,by rw[wrap_small (by omega)];rfl⟩
  ·rw[decide_eq_true (C0 (m:=1099511627776) hx (by omega)),Bool.and_true]
   by_cases h:d.length<=400
   ·rw[decide_eq_true h,decide_eq_true (show (d.length:Int)<=400 by omega)]
   ·rw[decide_eq_false h,decide_eq_false (show ¬(d.length:Int)<=400 by omega)]
theorem PY :
 ∀(d:Int×List Int×List Int),Ty.wf ai d.1/\Ty.wf aj d.2.1/\Ty.wf aj d.2.2->True->True/\((!aZ d.1 d.2.1)=true->([],false)=ef d.1 d.2.1 d.2.2)/\((!aZ d.1 d.2.1)=false->True/\((!aZ d.1 d.2.2)=true->([],false)=ef d.1 d.2.1 d.2.2)/\((!aZ d.1 d.2.2)=false->(decide ((0:Int)<(d.2.1.length:Int))=true->(decide ((0:Int)<(d.2.2.length:Int))=true->(decide ((400:Int)<i64.wrap (i64.wrap ((d.2.1.length:Int)+(d.2.2.length:Int))-(1:Int)))=true->([],false)=ef d.1 d.2.1 d.2.2)/\(decide ((400:Int)<i64.wrap (i64.wrap ((d.2.1.length:Int)+(d.2.2.length:Int))-(1:Int)))=false->(aC d.1 d.2.1=true/\aC d.1 d.2.2=true/\d.2.1.length<=(1000:Nat)/\d.2.2.length<=(1000:Nat))/\(Ty.wf aj (ee (af d.1) d.2.1 d.2.2)->(ee (af d.1) d.2.1 d.2.2,true)=ef d.1 d.2.1 d.2.2)))/\(decide ((0:Int)<(d.2.2.length:Int))=false->(aC d.1 d.2.1=true/\aC d.1 d.2.2=true/\d.2.1.length<=(1000:Nat)/\d.2.2.length<=(1000:Nat))/\(Ty.wf aj (ee (af d.1) d.2.1 d.2.2)->(ee (af d.1) d.2.1 d.2.2,true)=ef d.1 d.2.1 d.2.2)))/\(decide ((0:Int)<(d.2.1.length:Int))=false->(aC d.1 d.2.1=true/\aC d.1 d.2.2=true/\d.2.1.length<=(1000:Nat)/\d.2.2.length<=(1000:Nat))/\(Ty.wf aj (ee (af d.1) d.2.1 d.2.2)->(ee (af d.1) d.2.1 d.2.2,true)=ef d.1 d.2.1 d.2.2)))):=by
  intro d hw hp
  obtain⟨f,a,b⟩:=d
  simp only[exists_const,forall_const,decide_eq_true_eq,decide_eq_false_iff_not,beq_iff_eq,sxS]
  unfold ef
  refine⟨fun h=>by rw[h];rfl,fun ha=>⟨fun h=>by rw[h,Bool.and_false];rfl,fun hb=>?_⟩⟩
  have FO:=ha
  have fO:=hb
  unfold aZ at FO fO
  simp only[Bool.and_eq_true,decide_eq_true_eq] at FO fO
  have eS:aC f a=true/\aC f b=true/\a.length<=1000/\b.length<=1000:=⟨FO.1.2,fO.1.2,by omega,by omega⟩
  rw[ha,hb]
  have w1:i64.wrap (i64.wrap ((a.length:Int)+b.length)-1)=(a.length:Int)+b.length-1:=by rw[wrap_small (n:=(a.length:Int)+b.length) (by omega),wrap_small (by omega)]
  rw[w1]
  refine⟨fun h1=>⟨fun h2=>⟨fun h3=>?_,fun h3=>⟨eS,fun _=>?_⟩⟩,fun h2=>⟨eS,fun _=>?_⟩⟩,fun h1=>⟨eS,fun _=>?_⟩⟩
  ·rw[decide_eq_false (by omega)];rfl
  ·rw[decide_eq_true (by omega)];rfl
  ·rw[decide_eq_true (by omega)];rfl
  ·rw[decide_eq_true (by omega)];rfl
theorem Tk :
 ∀(d:Int×List Int×List Int),Ty.wf ai d.1/\Ty.wf aj d.2.1/\Ty.wf aj d.2.2->True->True/\((!aZ d.1 d.2.1)=true->([],[],false)=cy d.1 d.2.1 d.2.2)/\((!aZ d.1 d.2.1)=false->True/\((!aZ d.1 d.2.2)=true->([],[],false)=cy d.1 d.2.1 d.2.2)/\((!aZ d.1 d.2.2)=false->(decide ((d.2.2.length:Int)=(0:Int))=true->([],[],false)=cy d.1 d.2.1 d.2.2)/\(decide ((d.2.2.length:Int)=(0:Int))=false->(aZ d.1 d.2.1=true/\aZ d.1 d.2.2=true/\d.2.2.length≠(0:Nat))/\(Ty.wf aj (hU (af d.1) d.2.1 d.2.2).1/\Ty.wf aj (hU (af d.1) d.2.1 d.2.2).2->(Prod.fst (hU (af d.1) d.2.1 d.2.2),(hU (af d.1) d.2.1 d.2.2).2,true)=cy d.1 d.2.1 d.2.2)))):=by
  intro d hw hp
  obtain⟨f,a,b⟩:=d
  simp only[exists_const,forall_const,decide_eq_true_eq,decide_eq_false_iff_not,beq_iff_eq,sxS]
  unfold cy
  refine⟨fun h=>by rw[h];rfl,fun ha=>⟨fun h=>by rw[h,Bool.and_false];rfl,fun hb=>⟨fun h=>?_,fun h=>⟨⟨ha,hb,by omega⟩,fun _=>?_⟩⟩⟩⟩
  ·rw[decide_eq_false (show ¬b.length≠0 by omega),Bool.and_false];rfl
  ·rw[ha,hb,decide_eq_true (show b.length≠0 by omega)];rfl
theorem OD :
 ∀(d:Int×List Int),Ty.wf ai d.1/\Ty.wf aj d.2->True->True/\((decide ((1:Int)<=(d.2.length:Int))&&decide ((d.2.length:Int)<=(64:Int)))=true->True/\aC d.1 d.2=jU d.1 d.2)/\((decide ((1:Int)<=(d.2.length:Int))&&decide ((d.2.length:Int)<=(64:Int)))=false->false=jU d.1 d.2):=by
  intro d hw hp
  obtain⟨f,a⟩:=d
  simp only[exists_const,forall_const,decide_eq_true_eq,decide_eq_false_iff_not,beq_iff_eq,sxS]
  unfold jU
  have e1:decide ((1:Int)<=a.length)=decide (1<=a.length):=by by_cases h:1<=a.length<;>simp[h]<;>omega
  have e2:decide ((a.length:Int)<=64)=decide (a.length<=64):=by by_cases h:a.length<=64<;>simp[h]<;>omega
  rw[e1,e2]
  exact⟨fun h=>by rw[h];rfl,fun h=>by rw[h];rfl⟩
theorem Wf :
 ∀(d:Int×Int×List Int×List Int×Int),Ty.wf eF d->True->True/\((!(decide ((1:Int)<=d.1)&&decide (d.1<=(11:Int))))=true->false=aK d)/\((!(decide ((1:Int)<=d.1)&&decide (d.1<=(11:Int))))=false->True/\(Ty.wf ai (af d.2.1)->(decide (af d.2.1=(0:Int))=true->false=aK d)/\(decide (af d.2.1=(0:Int))=false->(decide (d.1=(6:Int))=true->((!decide (d.2.1=(0:Int)))=true->false=aK d)/\((!decide (d.2.1=(0:Int)))=false->True/\((!cn d.2.2.1)=true->false=aK d)/\((!cn d.2.2.1)=false->True/\((!cn d.2.2.2.1)=true->false=aK d)/\((!cn d.2.2.2.1)=false->True/\((!(decide ((0:Int)<=d.2.2.2.2)&&decide (d.2.2.2.2<=(400:Int))))=true->false=aK d)/\((!(decide ((0:Int)<=d.2.2.2.2)&&decide (d.2.2.2.2<=(400:Int))))=false->True/\(gy d.1=true->(decide (d.1=(11:Int))=true->true=aK d)/\(decide (d.1=(11:Int))=false->decide (d.2.2.2.2=(0:Int))=aK d))/\(gy d.1=false->(decide ((d.2.2.2.1.length:Int)=(0:Int))=true->(decide (d.1=(11:Int))=true->true=aK d)/\(decide (d.1=(11:Int))=false->decide (d.2.2.2.2=(0:Int))=aK d))/\(decide ((d.2.2.2.1.length:Int)=(0:Int))=false->false=aK d)))))))/\(decide (d.1=(6:Int))=false->True/\((!cn d.2.2.1)=true->false=aK d)/\((!cn d.2.2.1)=false->True/\((!cn d.2.2.2.1)=true->false=aK d)/\((!cn d.2.2.2.1)=false->True/\((!(decide ((0:Int)<=d.2.2.2.2)&&decide (d.2.2.2.2<=(400:Int))))=true->false=aK d)/\((!(decide ((0:Int)<=d.2.2.2.2)&&decide (d.2.2.2.2<=(400:Int))))=false->True/\(gy d.1=true->(decide (d.1=(11:Int))=true->true=aK d)/\(decide (d.1=(11:Int))=false->decide (d.2.2.2.2=(0:Int))=aK d))/\(gy d.1=false->(decide ((d.2.2.2.1.length:Int)=(0:Int))=true->(decide (d.1=(11:Int))=true->true=aK d)/\(decide (d.1=(11:Int))=false->decide (d.2.2.2.2=(0:Int))=aK d))/\(decide ((d.2.2.2.1.length:Int)=(0:Int))=false->false=aK d))))))))):=by
  intro d hw hp
  simp only[exists_const,forall_const,decide_eq_true_eq,decide_eq_false_iff_not,beq_iff_eq,sxS]
  unfold aK
  generalize cn d.2.2.1=wa
  generalize cn d.2.2.2.1=wb
  generalize gy d.1=u
  repeat' first
   | apply And.intro
   | intro _
  all_goals (simp_all<;>(intros;omega))
theorem Wd :
 ∀(d:(Int×Int×List Int×List Int×Int)×Int),Ty.wf eF d.1/\Ty.wf ai d.2->True->True/\(Ty.wf ai (dG d.1.2.2.1.length d.2)->(decide (dG d.1.2.2.1.length d.2<(0:Int))=true->(-1:Int)=jF d.1 d.2)/\(decide (dG d.1.2.2.1.length d.2<(0:Int))=false->True/\(Ty.wf ai (dG d.1.2.2.2.1.length (dG d.1.2.2.1.length d.2))->(decide (dG d.1.2.2.2.1.length (dG d.1.2.2.1.length d.2)<(0:Int))=true->(-1:Int)=jF d.1 d.2)/\(decide (dG d.1.2.2.2.1.length (dG d.1.2.2.1.length d.2)<(0:Int))=false->dG d.1.2.2.2.1.length (dG d.1.2.2.1.length d.2)=jF d.1 d.2)))):=by
  intro d hw _
  simp only[exists_const,forall_const,decide_eq_true_eq,decide_eq_false_iff_not,beq_iff_eq,sxS]
  intro _
  unfold jF
  exact⟨fun h=>by rw[if_pos h],fun h _=>⟨fun h1=>by rw[if_neg h];exact (acB h1).symm,fun h1=>by rw[if_neg h]⟩⟩
theorem We :
 ∀(d:Int×Int×List Int×List Int×Int),Ty.wf eF d->d.2.2.1.length<=(1048576:Nat)/\d.2.2.2.1.length<=(1048576:Nat)->d.2.2.1.length<=(1048576:Nat)/\(Ty.wf aj d.2.2.1->d.2.2.2.1.length<=(1048576:Nat)/\(Ty.wf aj d.2.2.2.1->d=d)):=by
  intro d hw hp
  exact⟨hp.1,fun _=>⟨hp.2,fun _=>rfl⟩⟩
theorem Wc :
 ∀(d:(Int×Int×List Int×List Int×Int)×Int×Int×List Int×List Int×Int),Ty.wf eF d.1/\Ty.wf eF d.2->True->((!decide (d.1.1=d.2.1))=true->false=decide (d.1=d.2))/\((!decide (d.1.1=d.2.1))=false->((!decide (d.1.2.1=d.2.2.1))=true->false=decide (d.1=d.2))/\((!decide (d.1.2.1=d.2.2.1))=false->True/\((!decide (d.1.2.2.1=d.2.2.2.1))=true->false=decide (d.1=d.2))/\((!decide (d.1.2.2.1=d.2.2.2.1))=false->True/\((!decide (d.1.2.2.2.1=d.2.2.2.2.1))=true->false=decide (d.1=d.2))/\((!decide (d.1.2.2.2.1=d.2.2.2.2.1))=false->((!decide (d.1.2.2.2.2=d.2.2.2.2.2))=true->false=decide (d.1=d.2))/\((!decide (d.1.2.2.2.2=d.2.2.2.2.2))=false->true=decide (d.1=d.2)))))):=by
  intro d _ _
  obtain⟨⟨a,b,c,e,g⟩,⟨a',b',c',e',g'⟩⟩:=d
  grind
theorem PL :
 ∀(d:Int×Int×List Int×List Int×Int) (k:Int),Ty.wf eF d->IntKind.min i64<=k/\k<=IntKind.max i64->True->(List.length (c7 d.2.2.1 k)=d.2.2.1.length/\List.length (c7 d.2.2.2.1 (dJ d.2.2.1 k))=d.2.2.2.1.length)/\True/\True/\ae (dJ d.2.2.2.1 (dJ d.2.2.1 k))/\ae (c7 d.2.2.1 k)/\ae (c7 d.2.2.2.1 (dJ d.2.2.1 k)):=by
  intro d k hw hp _
  simp only[exists_const,forall_const,decide_eq_true_eq,decide_eq_false_iff_not,beq_iff_eq,sxS]
  exact⟨qc _ _,qc _ _⟩
theorem Wv(a b:List Int)(n:Nat):oU a b n++[ja a b n (min (n+1) a.length)]=oU a b (n+1):=yh (fun i=>ja a b i (min (i+1) a.length)) n
theorem Qj(a b:List Int)(n:Nat):(oU a b n).length=n:=jB _ n
theorem D9{a b:List Int}{i j:Nat}(h:i-j<b.length):ja a b i (j+1)=ja a b i j+a.getD j 0*b.getD (i-j) 0:=by
 show (if _ then _ else _)=_
 rw[if_pos h]
theorem D8{a b:List Int}{i j:Nat}(h:¬i-j<b.length):ja a b i (j+1)=ja a b i j:=by
 show (if _ then _ else _)=_
 rw[if_neg h]
theorem mR{l:List Int}(h:di l=true):l.length<=200/\∀ t,-1000000<=l.getD t 0/\l.getD t 0<=1000000:=by
 unfold di at h
 simp only[Bool.and_eq_true,decide_eq_true_eq] at h
 refine⟨h.1,fun t=>?_⟩
 rcases Nat.lt_or_ge t l.length with ht|ht
 ·refine h.2 _ ?_
  rw[List.getD_eq_getElem?_getD,List.getElem?_eq_getElem ht]
  exact List.getElem_mem _
 ·rw[xV ht];omega
theorem QT{x y:Int}(hx : -1000000<=x/\x<=1000000)(hy : -1000000<=y/\y<=1000000) : -1000000000000<=x*y/\x*y<=1000000000000:=by
 have h:(x*y).natAbs<=1000000*1000000:=by rw[Int.natAbs_mul];exact Nat.mul_le_mul (by omega) (by omega)
 omega
theorem TQ{a b:List Int}(ha:di a=true)(hb:di b=true)(i:Nat):∀ j:Nat,-(1000000000000*(j:Int))<=ja a b i j/\ja a b i j<=1000000000000*(j:Int)
 | 0=>by simp[ja]
 | j+1=>by
   have ih:=TQ ha hb i j
   have hp:=QT ((mR ha).2 j) ((mR hb).2 (i-j))
   by_cases h:i-j<b.length
   ·rw[D9 h];omega
   ·rw[D8 h];omega
theorem aaw(a b:List Int)(x y:Nat):(gn a b x y).length=a.length+b.length-1:=jB _ _
theorem Zb(a b:List Int):List.replicate (a.length+b.length-1) 0=gn a b 0 0:=by
 rw[vr]
 refine eG (fun t _=>?_)
 rw[if_neg (by omega),Nat.zero_min]
 rfl
theorem aav{a b:List Int}{x y:Nat}(hx:x<a.length)(hy:y<b.length):(gn a b x y).getD (x+y) 0=ja a b (x+y) x:=by
 unfold gn
 rw[qd,if_pos (by omega),if_neg (by omega),Nat.min_eq_left (by omega)]
theorem aax{a b:List Int}{x y:Nat}(hx:x<a.length)(hy:y<b.length):(gn a b x y).set (x+y) (ja a b (x+y) (x+1))=gn a b x (y+1):=by
 unfold gn
 rw[qe]
 refine eG (fun t _=>?_)
 by_cases h:t=x+y
 ·subst h
  rw[if_pos rfl,if_pos (by omega)]
 ·rw[if_neg h]
  by_cases h2:x<=t/\t<x+y
  ·rw[if_pos h2,if_pos (by omega)]
  ·rw[if_neg h2,if_neg (by omega)]
theorem Za(a b:List Int)(x:Nat):gn a b x b.length=gn a b (x+1) 0:=by
 refine eG (fun t _=>?_)
 rw[if_neg (show ¬(x+1<=t/\t<x+1+0) by omega)]
 by_cases h:x<=t
 ·rw[Nat.min_eq_left (show x+1<=t+1 by omega)]
  by_cases h2:t<x+b.length
  ·rw[if_pos ⟨h,h2⟩]
  ·rw[if_neg (by omega),Nat.min_eq_left (by omega),D8 (by omega)]
 ·rw[if_neg (by omega),Nat.min_eq_right (by omega),Nat.min_eq_right (by omega)]
theorem aau(a b:List Int):gn a b a.length 0=oU a b (a.length+b.length-1):=by
 refine eG (fun t _=>?_)
 rw[if_neg (by omega),Nat.min_comm]
theorem Qk{a b:List Int}(ha:di a=true)(hb:di b=true)(i j k m:Nat)(hj:j<=1000):i64.wrap (ja a b i j+i64.wrap (a.getD k 0*b.getD m 0))=ja a b i j+a.getD k 0*b.getD m 0:=by
 have h1:=TQ ha hb i j
 have h2:=QT ((mR ha).2 k) ((mR hb).2 m)
 have h3:(1000000000000*(j:Int))<=1000000000000000:=by omega
 rw[wrap_small (n:=a.getD k 0*b.getD m 0) (by omega),wrap_small (by omega)]
theorem KT{a b:List Int}(h:¬(di a=true/\di b=true)):cW a b=([],false):=by
 unfold cW
 rw[if_neg (by rw[Bool.and_eq_true];exact h)]
theorem Fs{a b:List Int}(ha:di a=true)(hb:di b=true)(h:a.length=0\/b.length=0):cW a b=([],true):=by
 unfold cW
 rw[if_pos (by rw[Bool.and_eq_true];exact⟨ha,hb⟩),if_pos h]
theorem TR{a b:List Int}(ha:di a=true)(hb:di b=true)(h:¬(a.length=0\/b.length=0)):cW a b=(oU a b (a.length+b.length-1),true):=by
 unfold cW
 rw[if_pos (by rw[Bool.and_eq_true];exact⟨ha,hb⟩),if_neg h]
theorem KG :
 ∀(d:List Int×List Int),Ty.wf aj d.1/\Ty.wf aj d.2->True->True/\((!di d.1)=true->([],false)=cW d.1 d.2)/\((!di d.1)=false->True/\((!di d.2)=true->([],false)=cW d.1 d.2)/\((!di d.2)=false->(decide ((d.1.length:Int)=(0:Int))=true->([],true)=cW d.1 d.2)/\(decide ((d.1.length:Int)=(0:Int))=false->(decide ((d.2.length:Int)=(0:Int))=true->([],true)=cW d.1 d.2)/\(decide ((d.2.length:Int)=(0:Int))=false->(0:Nat)<=d.1.length+d.2.length-(1:Nat)/\((d.1=d.1/\d.2=d.2/\aQ/\(0:Int)=(↑(0:Nat):Int))/\[]=oU d.1 d.2 (0:Nat))/\∀(x:Nat),x<=d.1.length+d.2.length-(1:Nat)->(decide ((x:Int)<i64.wrap (i64.wrap ((d.1.length:Int)+(d.2.length:Int))-(1:Int)))=true->(0:Nat)<=min (x+(1:Nat)) d.1.length/\((d.1=d.1/\d.2=d.2/\aQ/\ae (x:Int)/\(0:Int)=ja d.1 d.2 x (0:Nat)/\(0:Int)=(↑(0:Nat):Int))/\ae (oU d.1 d.2 x))/\∀(x_1:Nat),x_1<=min (x+(1:Nat)) d.1.length->(decide ((x_1:Int)<=(x:Int))=true->(decide ((x_1:Int)<(d.1.length:Int))=true->(decide (i64.wrap ((x:Int)-(x_1:Int))<(d.2.length:Int))=true->((0:Int)<=(x_1:Int)/\(x_1:Int)<(d.1.length:Int))/\((0:Int)<=i64.wrap ((x:Int)-(x_1:Int))/\i64.wrap ((x:Int)-(x_1:Int))<(d.2.length:Int))/\∃(x':Nat),x'<=min (x+(1:Nat)) d.1.length/\min (x+(1:Nat)) d.1.length-x'<min (x+(1:Nat)) d.1.length-x_1/\(d.1=d.1/\d.2=d.2/\aQ/\ae (x:Int)/\i64.wrap (ja d.1 d.2 x x_1+i64.wrap (d.1.getD ((x_1:Int).toNat) (0:Int)*d.2.getD (Int.toNat (i64.wrap ((x:Int)-(x_1:Int)))) (0:Int)))=ja d.1 d.2 x x'/\i64.wrap ((x_1:Int)+(1:Int))=(x':Int))/\ae (oU d.1 d.2 x))/\(decide (i64.wrap ((x:Int)-(x_1:Int))<(d.2.length:Int))=false->∃(x':Nat),x'<=min (x+(1:Nat)) d.1.length/\min (x+(1:Nat)) d.1.length-x'<min (x+(1:Nat)) d.1.length-x_1/\(d.1=d.1/\d.2=d.2/\aQ/\ae (x:Int)/\ja d.1 d.2 x x_1=ja d.1 d.2 x x'/\i64.wrap ((x_1:Int)+(1:Int))=(x':Int))/\ae (oU d.1 d.2 x)))/\(decide ((x_1:Int)<(d.1.length:Int))=false->(List.length (oU d.1 d.2 x)+List.length [ja d.1 d.2 x x_1])*(8:Nat)<=(140737488355328:Nat)/\∃(x':Nat),x'<=d.1.length+d.2.length-(1:Nat)/\d.1.length+d.2.length-(1:Nat)-x'<d.1.length+d.2.length-(1:Nat)-x/\(d.1=d.1/\d.2=d.2/\aQ/\i64.wrap ((x:Int)+(1:Int))=(x':Int))/\oU d.1 d.2 x++[ja d.1 d.2 x x_1]=oU d.1 d.2 x'))/\(decide ((x_1:Int)<=(x:Int))=false->(List.length (oU d.1 d.2 x)+List.length [ja d.1 d.2 x x_1])*(8:Nat)<=(140737488355328:Nat)/\∃(x':Nat),x'<=d.1.length+d.2.length-(1:Nat)/\d.1.length+d.2.length-(1:Nat)-x'<d.1.length+d.2.length-(1:Nat)-x/\(d.1=d.1/\d.2=d.2/\aQ/\i64.wrap ((x:Int)+(1:Int))=(x':Int))/\oU d.1 d.2 x++[ja d.1 d.2 x x_1]=oU d.1 d.2 x'))/\(decide ((x:Int)<i64.wrap (i64.wrap ((d.1.length:Int)+(d.2.length:Int))-(1:Int)))=false->(oU d.1 d.2 x,true)=cW d.1 d.2))))):=by
  intro (d:List Int×List Int) hw hp
  obtain⟨a,b⟩:=d
  simp only[exists_const,forall_const,decide_eq_true_eq,decide_eq_false_iff_not,beq_iff_eq,sxS]
  refine⟨fun h=>(KT (by simp[h])).symm,fun ha=>⟨fun h=>(KT (by simp[h])).symm,fun hb=>⟨fun h=>(Fs ha hb (by omega)).symm,fun h=>⟨fun h1=>(Fs ha hb (by omega)).symm,fun h1=>?_⟩⟩⟩⟩
  have h3:=(mR ha).1
  have h4:=(mR hb).1
  have fW:i64.wrap (i64.wrap ((a.length:Int)+(b.length:Int))-1)=((a.length+b.length-1:Nat):Int):=by
   rw[wrap_small (n:=(a.length:Int)+(b.length:Int)) (by omega),wrap_small (by omega)];omega
  rw[fW]
  refine⟨by omega,⟨rfl,rfl⟩,fun x hx=>?_⟩
  rw[Qj]
  refine⟨fun h2=>⟨by omega,⟨rfl,rfl⟩,fun y hy=>?_⟩,fun h2=>?_⟩
  ·have fin:y=min (x+1) a.length->(x+[ja a b x y].length)*8<=140737488355328/\∃ x',x'<=a.length+b.length-1/\a.length+b.length-1-x'<a.length+b.length-1-x/\i64.wrap ((x:Int)+1)=(x':Int) ∧
    oU a b x++[ja a b x y]=oU a b x':=fun e =>
    ⟨by simp only[List.length_cons,List.length_nil];omega,x+1,by omega,by omega,aG (by omega),by rw[e];exact Wv _ _ _⟩
   refine⟨fun h3=>⟨fun h4=>?_,fun h4=>fin (by omega)⟩,fun h3=>fin (by omega)⟩
   have nQ:i64.wrap ((x:Int)-(y:Int))=((x-y:Nat):Int):=by rw[wrap_small (by omega)];omega
   rw[nQ,Int.toNat_natCast]
   refine⟨fun h5=>⟨⟨by omega,by omega⟩,⟨by omega,by omega⟩,y+1,by omega,by omega,?_,aG (by omega)⟩,fun h5=>⟨y+1,by omega,by omega,(D8 (by omega)).symm,aG (by omega)⟩⟩
   rw[Qk ha hb _ _ _ _ (by omega),D9 (by omega)]
  ·rw[TR ha hb (by omega),show x=a.length+b.length-1 by omega]
theorem Kq :
 ∀(d:List Int×List Int),Ty.wf aj d.1/\Ty.wf aj d.2->True->True/\((!di d.1)=true->([],false)=cW d.1 d.2)/\((!di d.1)=false->True/\((!di d.2)=true->([],false)=cW d.1 d.2)/\((!di d.2)=false->(decide ((d.1.length:Int)=(0:Int))=true->([],true)=cW d.1 d.2)/\(decide ((d.1.length:Int)=(0:Int))=false->(decide ((d.2.length:Int)=(0:Int))=true->([],true)=cW d.1 d.2)/\(decide ((d.2.length:Int)=(0:Int))=false->((0:Int)<=i64.wrap (i64.wrap ((d.1.length:Int)+(d.2.length:Int))-(1:Int))/\i64.wrap (i64.wrap ((d.1.length:Int)+(d.2.length:Int))-(1:Int))<=i64.wrap (i64.wrap ((d.1.length:Int)+(d.2.length:Int))-(1:Int))/\i64.wrap (i64.wrap ((d.1.length:Int)+(d.2.length:Int))-(1:Int))*(↑(8:Nat):Int)<=(140737488355328:Int))/\(0:Nat)<=d.1.length/\((d.1=d.1/\d.2=d.2/\aQ/\d.1=d.1/\ae (d.1.length:Int)/\(0:Int)=(↑(0:Nat):Int))/\List.replicate (Int.toNat (i64.wrap (i64.wrap ((d.1.length:Int)+(d.2.length:Int))-(1:Int)))) (0:Int)=gn d.1 d.2 (0:Nat) (0:Nat))/\∀(x:Nat),x<=d.1.length->(decide ((x:Int)<(d.1.length:Int))=true->((0:Int)<=(x:Int)/\(x:Int)<(d.1.length:Int))/\(0:Nat)<=d.2.length/\((d.1=d.1/\d.2=d.2/\aQ/\ae (x:Int)/\ae (d.1.getD ((x:Int).toNat) (0:Int))/\d.1=d.1/\ae (d.1.length:Int)/\ae (x:Int)/\d.2=d.2/\ae (d.2.length:Int)/\(0:Int)=(↑(0:Nat):Int))/\ae (gn d.1 d.2 x (0:Nat)))/\∀(x_1:Nat),x_1<=d.2.length->(decide ((x_1:Int)<(d.2.length:Int))=true->((0:Int)<=(x_1:Int)/\(x_1:Int)<(d.2.length:Int))/\((0:Int)<=i64.wrap ((x:Int)+(x_1:Int))/\i64.wrap ((x:Int)+(x_1:Int))<(↑(List.length (gn d.1 d.2 x x_1)):Int))/\((0:Int)<=i64.wrap ((x:Int)+(x_1:Int))/\i64.wrap ((x:Int)+(x_1:Int))<(↑(List.length (gn d.1 d.2 x x_1)):Int))/\∃(x':Nat),x'<=d.2.length/\d.2.length-x'<d.2.length-x_1/\(d.1=d.1/\d.2=d.2/\aQ/\ae (x:Int)/\ae (d.1.getD ((x:Int).toNat) (0:Int))/\d.1=d.1/\ae (d.1.length:Int)/\ae (x:Int)/\d.2=d.2/\ae (d.2.length:Int)/\i64.wrap ((x_1:Int)+(1:Int))=(x':Int))/\List.set (gn d.1 d.2 x x_1) (Int.toNat (i64.wrap ((x:Int)+(x_1:Int)))) (i64.wrap (List.getD (gn d.1 d.2 x x_1) (Int.toNat (i64.wrap ((x:Int)+(x_1:Int)))) (0:Int)+i64.wrap (d.1.getD ((x:Int).toNat) (0:Int)*d.2.getD ((x_1:Int).toNat) (0:Int))))=gn d.1 d.2 x x')/\(decide ((x_1:Int)<(d.2.length:Int))=false->∃(x':Nat),x'<=d.1.length/\d.1.length-x'<d.1.length-x/\(d.1=d.1/\d.2=d.2/\aQ/\d.1=d.1/\ae (d.1.length:Int)/\i64.wrap ((x:Int)+(1:Int))=(x':Int))/\gn d.1 d.2 x x_1=gn d.1 d.2 x' (0:Nat)))/\(decide ((x:Int)<(d.1.length:Int))=false->(gn d.1 d.2 x (0:Nat),true)=cW d.1 d.2))))):=by
  intro (d:List Int×List Int) hw hp
  obtain⟨a,b⟩:=d
  simp only[exists_const,forall_const,decide_eq_true_eq,decide_eq_false_iff_not,beq_iff_eq,sxS]
  refine⟨fun h=>(KT (by simp[h])).symm,fun ha=>⟨fun h=>(KT (by simp[h])).symm,fun hb=>⟨fun h=>(Fs ha hb (by omega)).symm,fun h=>⟨fun h1=>(Fs ha hb (by omega)).symm,fun h1=>?_⟩⟩⟩⟩
  have h3:=(mR ha).1
  have h4:=(mR hb).1
  have fW:i64.wrap (i64.wrap ((a.length:Int)+(b.length:Int))-1)=((a.length+b.length-1:Nat):Int):=by
   rw[wrap_small (n:=(a.length:Int)+(b.length:Int)) (by omega),wrap_small (by omega)];omega
  rw[fW,Int.toNat_natCast]
  refine⟨⟨by omega,by omega,by omega⟩,by omega,⟨rfl,Zb _ _⟩,fun x hx=>⟨fun h2=>⟨⟨by omega,by omega⟩,by omega,rfl,fun y hy=>⟨fun h5=>?_,fun h5=>?_⟩⟩,fun h2=>?_⟩⟩
  ·have nQ:i64.wrap ((x:Int)+(y:Int))=((x+y:Nat):Int):=by rw[wrap_small (by omega)];omega
   rw[nQ,Int.toNat_natCast,aaw,aav (by omega) (by omega),Qk ha hb _ _ _ _ (by omega)]
   refine⟨⟨by omega,by omega⟩,⟨by omega,by omega⟩,⟨by omega,by omega⟩,y+1,by omega,by omega,aG (by omega),?_⟩
   rw[<-aax (by omega) (by omega),D9 (by omega),Nat.add_sub_cancel_left]
  ·refine⟨x+1,by omega,by omega,aG (by omega),?_⟩
   rw[show y=b.length by omega]
   exact Za _ _ _
  ·rw[TR ha hb (by omega),show x=a.length by omega,aau]
theorem yz{f:Int}{a:List Int}(h:jU f a=true):1<=a.length/\a.length<=64/\af f≠0/\aq (af f) a=true:=by
 unfold jU at h
 simp only[Bool.and_eq_true,decide_eq_true_eq] at h
 exact⟨h.1.1,h.1.2,jt h.2⟩
theorem K8{f:Int}{a:List Int}(h:¬(jU f a=true/\a.getD 0 0≠0)):c_ f a=([],false):=by
 unfold c_
 rw[if_neg (by rw[Bool.and_eq_true,decide_eq_true_eq];exact h)]
theorem VP{f:Int}{a:List Int}(h:jU f a=true)(h0:a.getD 0 0≠0):c_ f a=(ck (af f) a a.length,true):=by
 unfold c_
 rw[if_pos (by rw[Bool.and_eq_true,decide_eq_true_eq];exact⟨h,h0⟩)]
theorem VN{p:Int}(hp:au p)(a out:List Int)(i:Nat):∀ j,El p (qX p a out i j)
 | 0=>gA hp
 | j+1=>xR hp _ _
theorem VO{p:Int}(hp:au p)(a:List Int):∀ k,aq p (ck p a k)=true
 | 0=>by unfold aq ck;simp
 | k+1=>by
   have ih:=VO hp a k
   have h:=f_ hp (jX p a (ck p a k) k k) (bk p (a.getD 0 0))
   unfold aq at *
   unfold El at h
   rw[decide_eq_true_eq] at *
   rw[ck]
   intro x hx
   rcases List.mem_append.1 hx with hx|hx
   ·exact ih x hx
   ·rw[List.mem_singleton.1 hx];omega
theorem acx{p:Int}(hp:au p)(a:List Int):[bk p (a.getD 0 0)]=ck p a 1:=by
 have h:=uj hp (a.getD 0 0)
 show[_]=[mulM p 1 _]
 unfold mulM
 unfold El at h
 rw[Int.one_mul,Int.emod_eq_of_lt h.1 h.2]
theorem ZV{p:Int}{a out:List Int}{i:Nat}(hi:i≠0)(j:Nat)(c:Int):mulM p (bR p 0 (qX p a out i j)) c=mulM p (jX p a out i j) c:=by
 rw[<-Q2 hi]
 unfold mulM
 rw[Int.mul_emod,Int.emod_emod_of_dvd _ (Int.dvd_refl p),<-Int.mul_emod]
theorem KM :
 ∀(d:Int×List Int),Ty.wf ai d.1/\Ty.wf aj d.2->True->True/\((!jU d.1 d.2)=true->([],false)=c_ d.1 d.2)/\((!jU d.1 d.2)=false->((0:Int)<=(0:Int)/\(0:Int)<(d.2.length:Int))/\(decide (d.2.getD ((0:Int).toNat) (0:Int)=(0:Int))=true->([],false)=c_ d.1 d.2)/\(decide (d.2.getD ((0:Int).toNat) (0:Int)=(0:Int))=false->((0:Int)<=(0:Int)/\(0:Int)<(d.2.length:Int))/\True/\(Ty.wf ai (bG d.1 (d.2.getD ((0:Int).toNat) (0:Int)) (-1:Int))->(0:Nat)<=d.2.length/\((d.1=d.1/\d.2=d.2/\aQ/\ae (bG d.1 (d.2.getD ((0:Int).toNat) (0:Int)) (-1:Int))/\(0:Int)=(↑(0:Nat):Int))/\[]=ck (af d.1) d.2 (0:Nat))/\∀(x:Nat),x<=d.2.length->(decide ((x:Int)<(d.2.length:Int))=true->(decide ((x:Int)=(0:Int))=true->(0:Nat)<=x/\((d.1=d.1/\d.2=d.2/\aQ/\ae (bG d.1 (d.2.getD ((0:Int).toNat) (0:Int)) (-1:Int))/\ae (x:Int)/\(1:Int)=jX (af d.1) d.2 (ck (af d.1) d.2 x) x (0:Nat)/\(1:Int)=(↑(0:Nat):Int)+(1:Int))/\ae (ck (af d.1) d.2 x))/\∀(x_1:Nat),x_1<=x->(decide ((x_1:Int)+(1:Int)<=(x:Int))=true->((0:Int)<=(x_1:Int)+(1:Int)/\(x_1:Int)+(1:Int)<(d.2.length:Int))/\((0:Int)<=i64.wrap ((x:Int)-((x_1:Int)+(1:Int)))/\i64.wrap ((x:Int)-((x_1:Int)+(1:Int)))<(↑(List.length (ck (af d.1) d.2 x)):Int))/\True/\True/\(Ty.wf ai (jj d.1 (jX (af d.1) d.2 (ck (af d.1) d.2 x) x x_1) (c8 d.1 (d.2.getD (Int.toNat ((x_1:Int)+(1:Int))) (0:Int)) (List.getD (ck (af d.1) d.2 x) (Int.toNat (i64.wrap ((x:Int)-((x_1:Int)+(1:Int))))) (0:Int))))->Ty.wf ai (c8 d.1 (d.2.getD (Int.toNat ((x_1:Int)+(1:Int))) (0:Int)) (List.getD (ck (af d.1) d.2 x) (Int.toNat (i64.wrap ((x:Int)-((x_1:Int)+(1:Int))))) (0:Int)))->∃(x':Nat),x'<=x/\x-x'<x-x_1/\(d.1=d.1/\d.2=d.2/\aQ/\ae (bG d.1 (d.2.getD ((0:Int).toNat) (0:Int)) (-1:Int))/\ae (x:Int)/\jj d.1 (jX (af d.1) d.2 (ck (af d.1) d.2 x) x x_1) (c8 d.1 (d.2.getD (Int.toNat ((x_1:Int)+(1:Int))) (0:Int)) (List.getD (ck (af d.1) d.2 x) (Int.toNat (i64.wrap ((x:Int)-((x_1:Int)+(1:Int))))) (0:Int)))=jX (af d.1) d.2 (ck (af d.1) d.2 x) x x'/\i64.wrap ((x_1:Int)+(1:Int)+(1:Int))=(x':Int)+(1:Int))/\ae (ck (af d.1) d.2 x)))/\(decide ((x_1:Int)+(1:Int)<=(x:Int))=false->True/\(Ty.wf ai (c8 d.1 (jX (af d.1) d.2 (ck (af d.1) d.2 x) x x_1) (bG d.1 (d.2.getD ((0:Int).toNat) (0:Int)) (-1:Int)))->(List.length (ck (af d.1) d.2 x)+List.length [c8 d.1 (jX (af d.1) d.2 (ck (af d.1) d.2 x) x x_1) (bG d.1 (d.2.getD ((0:Int).toNat) (0:Int)) (-1:Int))])*(8:Nat)<=(140737488355328:Nat)/\∃(x':Nat),x'<=d.2.length/\d.2.length-x'<d.2.length-x/\(d.1=d.1/\d.2=d.2/\aQ/\ae (bG d.1 (d.2.getD ((0:Int).toNat) (0:Int)) (-1:Int))/\i64.wrap ((x:Int)+(1:Int))=(x':Int))/\ck (af d.1) d.2 x++[c8 d.1 (jX (af d.1) d.2 (ck (af d.1) d.2 x) x x_1) (bG d.1 (d.2.getD ((0:Int).toNat) (0:Int)) (-1:Int))]=ck (af d.1) d.2 x')))/\(decide ((x:Int)=(0:Int))=false->(0:Nat)<=x/\((d.1=d.1/\d.2=d.2/\aQ/\ae (bG d.1 (d.2.getD ((0:Int).toNat) (0:Int)) (-1:Int))/\ae (x:Int)/\(0:Int)=jX (af d.1) d.2 (ck (af d.1) d.2 x) x (0:Nat)/\(1:Int)=(↑(0:Nat):Int)+(1:Int))/\ae (ck (af d.1) d.2 x))/\∀(x_1:Nat),x_1<=x->(decide ((x_1:Int)+(1:Int)<=(x:Int))=true->((0:Int)<=(x_1:Int)+(1:Int)/\(x_1:Int)+(1:Int)<(d.2.length:Int))/\((0:Int)<=i64.wrap ((x:Int)-((x_1:Int)+(1:Int)))/\i64.wrap ((x:Int)-((x_1:Int)+(1:Int)))<(↑(List.length (ck (af d.1) d.2 x)):Int))/\True/\True/\(Ty.wf ai (jj d.1 (jX (af d.1) d.2 (ck (af d.1) d.2 x) x x_1) (c8 d.1 (d.2.getD (Int.toNat ((x_1:Int)+(1:Int))) (0:Int)) (List.getD (ck (af d.1) d.2 x) (Int.toNat (i64.wrap ((x:Int)-((x_1:Int)+(1:Int))))) (0:Int))))->Ty.wf ai (c8 d.1 (d.2.getD (Int.toNat ((x_1:Int)+(1:Int))) (0:Int)) (List.getD (ck (af d.1) d.2 x) (Int.toNat (i64.wrap ((x:Int)-((x_1:Int)+(1:Int))))) (0:Int)))->∃(x':Nat),x'<=x/\x-x'<x-x_1/\(d.1=d.1/\d.2=d.2/\aQ/\ae (bG d.1 (d.2.getD ((0:Int).toNat) (0:Int)) (-1:Int))/\ae (x:Int)/\jj d.1 (jX (af d.1) d.2 (ck (af d.1) d.2 x) x x_1) (c8 d.1 (d.2.getD (Int.toNat ((x_1:Int)+(1:Int))) (0:Int)) (List.getD (ck (af d.1) d.2 x) (Int.toNat (i64.wrap ((x:Int)-((x_1:Int)+(1:Int))))) (0:Int)))=jX (af d.1) d.2 (ck (af d.1) d.2 x) x x'/\i64.wrap ((x_1:Int)+(1:Int)+(1:Int))=(x':Int)+(1:Int))/\ae (ck (af d.1) d.2 x)))/\(decide ((x_1:Int)+(1:Int)<=(x:Int))=false->True/\(Ty.wf ai (c8 d.1 (jX (af d.1) d.2 (ck (af d.1) d.2 x) x x_1) (bG d.1 (d.2.getD ((0:Int).toNat) (0:Int)) (-1:Int)))->(List.length (ck (af d.1) d.2 x)+List.length [c8 d.1 (jX (af d.1) d.2 (ck (af d.1) d.2 x) x x_1) (bG d.1 (d.2.getD ((0:Int).toNat) (0:Int)) (-1:Int))])*(8:Nat)<=(140737488355328:Nat)/\∃(x':Nat),x'<=d.2.length/\d.2.length-x'<d.2.length-x/\(d.1=d.1/\d.2=d.2/\aQ/\ae (bG d.1 (d.2.getD ((0:Int).toNat) (0:Int)) (-1:Int))/\i64.wrap ((x:Int)+(1:Int))=(x':Int))/\ck (af d.1) d.2 x++[c8 d.1 (jX (af d.1) d.2 (ck (af d.1) d.2 x) x x_1) (bG d.1 (d.2.getD ((0:Int).toNat) (0:Int)) (-1:Int))]=ck (af d.1) d.2 x'))))/\(decide ((x:Int)<(d.2.length:Int))=false->(ck (af d.1) d.2 x,true)=c_ d.1 d.2)))):=by
  intro (d:Int×List Int) hw hp
  obtain⟨f,a⟩:=d
  simp only[exists_const,forall_const,decide_eq_true_eq,decide_eq_false_iff_not,beq_iff_eq,sxS]
  refine⟨fun h=>(K8 (by simp[h])).symm,fun h=>?_⟩
  obtain⟨h1,h2,hm,he⟩:=yz h
  have hq:=(b9 hm).1
  refine⟨⟨by omega,by omega⟩,fun h0=>(K8 (fun hh=>hh.2 h0)).symm,fun h0=>⟨⟨by omega,by omega⟩,fun _=>?_⟩⟩
  replace h0:a.getD 0 0≠0:=h0
  have hz:bG f (a.getD (Int.toNat 0) 0) (-1)=bk (af f) (a.getD 0 0):=CX hm (by
   have hh:=fc hq he 0
   unfold El at hh
   rw[show (Int.toNat 0)=0 from rfl,Int.emod_eq_of_lt hh.1 hh.2];exact h0)
  refine⟨by omega,⟨rfl,rfl⟩,fun x hx=>?_⟩
  have body:∀ x_1:Nat,x_1<=x->x<a.length->((x_1:Int)+1<=(x:Int) →
   (0<=(x_1:Int)+1/\(x_1:Int)+1<(a.length:Int))/\(0<=i64.wrap ((x:Int)-((x_1:Int)+1))/\i64.wrap ((x:Int)-((x_1:Int)+1))<((ck (af f) a x).length:Int)) ∧
   (ai.wf (jj f (jX (af f) a (ck (af f) a x) x x_1) (c8 f (a.getD ((x_1:Int)+1).toNat 0) ((ck (af f) a x).getD (i64.wrap ((x:Int)-((x_1:Int)+1))).toNat 0))) →
    ai.wf (c8 f (a.getD ((x_1:Int)+1).toNat 0) ((ck (af f) a x).getD (i64.wrap ((x:Int)-((x_1:Int)+1))).toNat 0)) →
    ∃ x',x'<=x/\x-x'<x-x_1/\jj f (jX (af f) a (ck (af f) a x) x x_1) (c8 f (a.getD ((x_1:Int)+1).toNat 0) ((ck (af f) a x).getD (i64.wrap ((x:Int)-((x_1:Int)+1))).toNat 0))=jX (af f) a (ck (af f) a x) x x'/\i64.wrap ((x_1:Int)+1+1)=(x':Int)+1)) ∧
   (¬(x_1:Int)+1<=(x:Int)->ai.wf (c8 f (jX (af f) a (ck (af f) a x) x x_1) (bG f (a.getD (Int.toNat 0) 0) (-1))) →
    ((ck (af f) a x).length+[c8 f (jX (af f) a (ck (af f) a x) x x_1) (bG f (a.getD (Int.toNat 0) 0) (-1))].length)*8<=140737488355328 ∧
    ∃ x',x'<=a.length/\a.length-x'<a.length-x/\i64.wrap ((x:Int)+1)=(x':Int) ∧
     ck (af f) a x++[c8 f (jX (af f) a (ck (af f) a x) x x_1) (bG f (a.getD (Int.toNat 0) 0) (-1))]=ck (af f) a x'):=by
   intro y hy we
   have nQ:y+1<=x->i64.wrap ((x:Int)-((y:Int)+1))=((x-(y+1):Nat):Int):=fun _=>by rw[wrap_small (by omega)];omega
   rw[C4]
   refine⟨fun h3=>?_,fun h3 _=>?_⟩
   ·rw[nQ (by omega),Int.toNat_natCast,show ((y:Int)+1).toNat=y+1 by omega]
    refine⟨⟨by omega,by omega⟩,⟨by omega,by omega⟩,fun _ _=>⟨y+1,by omega,by omega,?_,?_⟩⟩
    ·rw[yA hm,lJ hm];rfl
    ·rw[wrap_small (by omega)];omega
   ·rw[hz,lJ hm,show y=x by omega]
    exact⟨by simp only[List.length_cons,List.length_nil];omega,x+1,by omega,by omega,aG (by omega),rfl⟩
  refine⟨fun h3=>⟨fun h4=>⟨by omega,⟨?_,rfl⟩,fun y hy=>body y hy (by omega)⟩,fun h4=>⟨by omega,⟨?_,rfl⟩,fun y hy=>body y hy (by omega)⟩⟩,fun h3=>?_⟩
  ·show _=if _ then _ else _
   rw[if_pos (by omega)]
  ·show _=if _ then _ else _
   rw[if_neg (by omega)]
  ·rw[VP h h0,show x=a.length by omega]
theorem Kz :
 ∀(d:(Int×Int×Int)×List Int),Ty.wf bW d.1/\Ty.wf aj d.2->au d.1.1/\aq d.1.1 d.2=true/\(1:Nat)<=d.2.length/\d.2.length<=(64:Nat)->((0:Int)<=(0:Int)/\(0:Int)<(d.2.length:Int))/\(au d.1.1/\El d.1.1 (d.2.getD ((0:Int).toNat) (0:Int)))/\(Ty.wf ai (bk d.1.1 (d.2.getD ((0:Int).toNat) (0:Int)))->((1:Nat)<=(1:Nat)/\(1:Nat)<=d.2.length)/\(((ae d.1.1/\ae d.1.2.1/\ae d.1.2.2)/\d.2=d.2/\aQ/\ae (bk d.1.1 (d.2.getD ((0:Int).toNat) (0:Int)))/\(1:Int)=(↑(1:Nat):Int))/\(ae d.1.1/\ae d.1.2.1/\ae d.1.2.2)/\[bk d.1.1 (d.2.getD ((0:Int).toNat) (0:Int))]=ck d.1.1 d.2 (1:Nat))/\∀(x:Nat),(1:Nat)<=x/\x<=d.2.length->(decide ((x:Int)<(d.2.length:Int))=true->(0:Nat)<=x/\(((ae d.1.1/\ae d.1.2.1/\ae d.1.2.2)/\d.2=d.2/\aQ/\ae (bk d.1.1 (d.2.getD ((0:Int).toNat) (0:Int)))/\ae (x:Int)/\(0:Int)=qX d.1.1 d.2 (ck d.1.1 d.2 x) x (0:Nat)/\(1:Int)=(↑(0:Nat):Int)+(1:Int))/\(ae d.1.1/\ae d.1.2.1/\ae d.1.2.2)/\ae (ck d.1.1 d.2 x))/\∀(x_1:Nat),x_1<=x->(decide ((x_1:Int)+(1:Int)<=(x:Int))=true->((0:Int)<=(x_1:Int)+(1:Int)/\(x_1:Int)+(1:Int)<(d.2.length:Int))/\((0:Int)<=i64.wrap ((x:Int)-((x_1:Int)+(1:Int)))/\i64.wrap ((x:Int)-((x_1:Int)+(1:Int)))<(↑(List.length (ck d.1.1 d.2 x)):Int))/\(au d.1.1/\El d.1.1 (d.2.getD (Int.toNat ((x_1:Int)+(1:Int))) (0:Int))/\El d.1.1 (List.getD (ck d.1.1 d.2 x) (Int.toNat (i64.wrap ((x:Int)-((x_1:Int)+(1:Int))))) (0:Int)))/\(au d.1.1/\El d.1.1 (qX d.1.1 d.2 (ck d.1.1 d.2 x) x x_1)/\El d.1.1 (mulM d.1.1 (d.2.getD (Int.toNat ((x_1:Int)+(1:Int))) (0:Int)) (List.getD (ck d.1.1 d.2 x) (Int.toNat (i64.wrap ((x:Int)-((x_1:Int)+(1:Int))))) (0:Int))))/\(Ty.wf ai (eO d.1.1 (qX d.1.1 d.2 (ck d.1.1 d.2 x) x x_1) (mulM d.1.1 (d.2.getD (Int.toNat ((x_1:Int)+(1:Int))) (0:Int)) (List.getD (ck d.1.1 d.2 x) (Int.toNat (i64.wrap ((x:Int)-((x_1:Int)+(1:Int))))) (0:Int))))->Ty.wf ai (mulM d.1.1 (d.2.getD (Int.toNat ((x_1:Int)+(1:Int))) (0:Int)) (List.getD (ck d.1.1 d.2 x) (Int.toNat (i64.wrap ((x:Int)-((x_1:Int)+(1:Int))))) (0:Int)))->∃(x':Nat),x'<=x/\x-x'<x-x_1/\((ae d.1.1/\ae d.1.2.1/\ae d.1.2.2)/\d.2=d.2/\aQ/\ae (bk d.1.1 (d.2.getD ((0:Int).toNat) (0:Int)))/\ae (x:Int)/\eO d.1.1 (qX d.1.1 d.2 (ck d.1.1 d.2 x) x x_1) (mulM d.1.1 (d.2.getD (Int.toNat ((x_1:Int)+(1:Int))) (0:Int)) (List.getD (ck d.1.1 d.2 x) (Int.toNat (i64.wrap ((x:Int)-((x_1:Int)+(1:Int))))) (0:Int)))=qX d.1.1 d.2 (ck d.1.1 d.2 x) x x'/\i64.wrap ((x_1:Int)+(1:Int)+(1:Int))=(x':Int)+(1:Int))/\(ae d.1.1/\ae d.1.2.1/\ae d.1.2.2)/\ae (ck d.1.1 d.2 x)))/\(decide ((x_1:Int)+(1:Int)<=(x:Int))=false->(au d.1.1/\El d.1.1 (0:Int)/\El d.1.1 (qX d.1.1 d.2 (ck d.1.1 d.2 x) x x_1))/\(au d.1.1/\El d.1.1 (bR d.1.1 (0:Int) (qX d.1.1 d.2 (ck d.1.1 d.2 x) x x_1))/\El d.1.1 (bk d.1.1 (d.2.getD ((0:Int).toNat) (0:Int))))/\(Ty.wf ai (mulM d.1.1 (bR d.1.1 (0:Int) (qX d.1.1 d.2 (ck d.1.1 d.2 x) x x_1)) (bk d.1.1 (d.2.getD ((0:Int).toNat) (0:Int))))->Ty.wf ai (bR d.1.1 (0:Int) (qX d.1.1 d.2 (ck d.1.1 d.2 x) x x_1))->(List.length (ck d.1.1 d.2 x)+List.length [mulM d.1.1 (bR d.1.1 (0:Int) (qX d.1.1 d.2 (ck d.1.1 d.2 x) x x_1)) (bk d.1.1 (d.2.getD ((0:Int).toNat) (0:Int)))])*(8:Nat)<=(140737488355328:Nat)/\∃(x':Nat),((1:Nat)<=x'/\x'<=d.2.length)/\d.2.length-x'<d.2.length-x/\((ae d.1.1/\ae d.1.2.1/\ae d.1.2.2)/\d.2=d.2/\aQ/\ae (bk d.1.1 (d.2.getD ((0:Int).toNat) (0:Int)))/\i64.wrap ((x:Int)+(1:Int))=(x':Int))/\(ae d.1.1/\ae d.1.2.1/\ae d.1.2.2)/\ck d.1.1 d.2 x++[mulM d.1.1 (bR d.1.1 (0:Int) (qX d.1.1 d.2 (ck d.1.1 d.2 x) x x_1)) (bk d.1.1 (d.2.getD ((0:Int).toNat) (0:Int)))]=ck d.1.1 d.2 x')))/\(decide ((x:Int)<(d.2.length:Int))=false->ck d.1.1 d.2 x=ck d.1.1 d.2 d.2.length)):=by
  intro (d:Fd×List Int) hw hp
  obtain⟨⟨p,g,t⟩,a⟩:=d
  replace hp:au p/\aq p a=true/\1<=a.length/\a.length<=64:=hp
  simp only[exists_const,forall_const,decide_eq_true_eq,decide_eq_false_iff_not,beq_iff_eq,sxS]
  obtain⟨hq,he,h1,h2⟩:=hp
  refine⟨⟨by omega,by omega⟩,⟨hq,fc hq he _⟩,fun _=>⟨⟨by omega,by omega⟩,⟨rfl,acx hq a⟩,fun x hx=>⟨fun h3=>⟨by omega,⟨rfl,rfl⟩,fun y hy=>?_⟩,fun h3=>by rw[show x=a.length by omega]⟩⟩⟩
  have nQ:y+1<=x->i64.wrap ((x:Int)-((y:Int)+1))=((x-(y+1):Nat):Int):=fun _=>by rw[wrap_small (by omega)];omega
  rw[C4]
  refine⟨fun h4=>?_,fun h4=>⟨⟨hq,gA hq,VN hq _ _ _ _⟩,⟨hq,lC hq _ _,uj hq _⟩,fun _ _=>⟨by simp only[List.length_cons,List.length_nil];omega,x+1,⟨by omega,by omega⟩,by omega,aG (by omega),?_⟩⟩⟩
  ·rw[nQ (by omega),Int.toNat_natCast,show ((y:Int)+1).toNat=y+1 by omega]
   refine⟨⟨by omega,by omega⟩,⟨by omega,by omega⟩,⟨hq,fc hq he _,fc hq (VO hq a x) _⟩,⟨hq,VN hq _ _ _ _,f_ hq _ _⟩,fun _ _=>⟨y+1,by omega,by omega,rfl,?_⟩⟩
   rw[wrap_small (by omega)];omega
  ·rw[ZV (by omega),show y=x by omega]
   rfl
theorem V7{k:Int}(h1:1<=k)(h2:k<=11):mU k=gy k:=by
 unfold mU gy
 rw[decide_eq_decide]
 omega
theorem vn{k f:Int}{a b:List Int}{c:Int}:aK (k,f,a,b,c)=true↔((1<=k/\k<=11)/\af f≠0/\¬(k=6/\f≠0))/\cn a=true/\cn b=true/\(0<=c/\c<=400)/\(gy k=true\/b.length=0)/\(k=11\/c=0):=by
 unfold aK
 simp only[Bool.and_eq_true,Bool.or_eq_true,decide_eq_true_eq]
 constructor
 ·rintro⟨⟨⟨⟨⟨⟨⟨h1,h2⟩,h3⟩,h4⟩,h5⟩,h6⟩,h7⟩,h8⟩;exact⟨⟨h1,h2,h3⟩,h4,h5,h6,h7,h8⟩
 ·rintro⟨⟨h1,h2,h3⟩,h4,h5,h6,h7,h8⟩;exact⟨⟨⟨⟨⟨⟨⟨h1,h2⟩,h3⟩,h4⟩,h5⟩,h6⟩,h7⟩,h8⟩
theorem p9{k f:Int}{a b:List Int}{c:Int}(h:¬(((1<=k/\k<=11)/\af f≠0/\¬(k=6/\f≠0))/\cn a=true/\cn b=true/\(0<=c/\c<=400)/\(gy k=true\/b.length=0)/\(k=11\/c=0))):false=aK (k,f,a,b,c):=by
 cases e:aK (k,f,a,b,c)
 ·rfl
 ·exact absurd (vn.1 e) h
theorem Zx{k f:Int}{a b:List Int}{c:Int}{Q:Prop}[Decidable Q](h:Q↔(((1<=k/\k<=11)/\af f≠0/\¬(k=6/\f≠0))/\cn a=true/\cn b=true/\(0<=c/\c<=400)/\(gy k=true\/b.length=0)/\(k=11\/c=0))):decide Q=aK (k,f,a,b,c):=by
 cases e:aK (k,f,a,b,c)
 ·rw[decide_eq_false_iff_not];intro hQ;rw[vn.2 (h.1 hQ)] at e;cases e
 ·rw[decide_eq_true_eq];exact h.2 (vn.1 e)
theorem Xb{k f:Int}{a b:List Int}{c:Int}(h:((1<=k/\k<=11)/\af f≠0/\¬(k=6/\f≠0))/\cn a=true/\cn b=true/\(0<=c/\c<=400)/\(gy k=true\/b.length=0)/\(k=11\/c=0)):true=aK (k,f,a,b,c):=(vn.2 h).symm
theorem u7{f:Int}:(ar f).2=true↔af f≠0:=by
 rw[fU]
 refine⟨fun h=>?_,fun h=>(b9 h).2⟩
 have:=kr h
 omega
theorem OI :
 ∀(d:Int),Ty.wf ai d->True->True/\zf [(3:Int),(4:Int),(5:Int),(6:Int),(8:Int),(9:Int),(10:Int),(11:Int)] d=gy d:=by
  intro d hw hp
  simp only[exists_const,forall_const,decide_eq_true_eq,decide_eq_false_iff_not,beq_iff_eq,sxS]
  unfold gy
  unfold zf
  rw[decide_eq_decide]
  simp only[List.mem_cons,List.not_mem_nil,or_false]
theorem Wb :
 ∀(d:Int),Ty.wf ai d->True->((!decide (d=(1:Int)))=true->((!decide (d=(2:Int)))=true->(!decide (d=(7:Int)))=mU d)/\((!decide (d=(2:Int)))=false->false=mU d))/\((!decide (d=(1:Int)))=false->false=mU d):=by
  intro d hw hp
  simp only[exists_const,forall_const,decide_eq_true_eq,decide_eq_false_iff_not,beq_iff_eq,sxS]
  unfold mU
  refine⟨fun h1=>⟨fun h2=>?_,fun h2=>?_⟩,fun h1=>?_⟩
  ·by_cases h:d=7<;>simp[h,h1,h2]
  ·simp[h2]
  ·simp[h1]
theorem V8 :
 ∀(d:Int×Int×List Int×List Int×Int),Ty.wf eF d->True->True/\(Ty.wf bW (ar d.2.1).1/\Ty.wf Ty.bool (ar d.2.1).2->((!(ar d.2.1).2)=true->false=aK d)/\((!(ar d.2.1).2)=false->(decide (d.1<(1:Int))=true->false=aK d)/\(decide (d.1<(1:Int))=false->(decide ((11:Int)<d.1)=true->false=aK d)/\(decide ((11:Int)<d.1)=false->(decide (d.1=(6:Int))=true->((!decide (d.2.1=(0:Int)))=true->false=aK d)/\((!decide (d.2.1=(0:Int)))=false->True/\((!cn d.2.2.1)=true->false=aK d)/\((!cn d.2.2.1)=false->True/\((!cn d.2.2.2.1)=true->false=aK d)/\((!cn d.2.2.2.1)=false->(decide (d.2.2.2.2<(0:Int))=true->false=aK d)/\(decide (d.2.2.2.2<(0:Int))=false->(decide ((400:Int)<d.2.2.2.2)=true->false=aK d)/\(decide ((400:Int)<d.2.2.2.2)=false->True/\(mU d.1=true->(decide (d.1=(11:Int))=true->true=aK d)/\(decide (d.1=(11:Int))=false->decide (d.2.2.2.2=(0:Int))=aK d))/\(mU d.1=false->(decide ((d.2.2.2.1.length:Int)=(0:Int))=true->(decide (d.1=(11:Int))=true->true=aK d)/\(decide (d.1=(11:Int))=false->decide (d.2.2.2.2=(0:Int))=aK d))/\(decide ((d.2.2.2.1.length:Int)=(0:Int))=false->false=aK d))))))))/\(decide (d.1=(6:Int))=false->True/\((!cn d.2.2.1)=true->false=aK d)/\((!cn d.2.2.1)=false->True/\((!cn d.2.2.2.1)=true->false=aK d)/\((!cn d.2.2.2.1)=false->(decide (d.2.2.2.2<(0:Int))=true->false=aK d)/\(decide (d.2.2.2.2<(0:Int))=false->(decide ((400:Int)<d.2.2.2.2)=true->false=aK d)/\(decide ((400:Int)<d.2.2.2.2)=false->True/\(mU d.1=true->(decide (d.1=(11:Int))=true->true=aK d)/\(decide (d.1=(11:Int))=false->decide (d.2.2.2.2=(0:Int))=aK d))/\(mU d.1=false->(decide ((d.2.2.2.1.length:Int)=(0:Int))=true->(decide (d.1=(11:Int))=true->true=aK d)/\(decide (d.1=(11:Int))=false->decide (d.2.2.2.2=(0:Int))=aK d))/\(decide ((d.2.2.2.1.length:Int)=(0:Int))=false->false=aK d))))))))))):=by
  intro d hw hp
  obtain⟨k,f,a,b,c⟩:=d
  simp only[exists_const,forall_const,decide_eq_true_eq,decide_eq_false_iff_not,beq_iff_eq,sxS]
  intro _
  have e:¬(ar f).2=true↔af f=0:=by rw[u7];exact Classical.not_not
  refine⟨fun h=>p9 (fun hh=>hh.1.2.1 (e.1 (by rw[h];decide))),fun h=>?_⟩
  have hm:=u7.1 h
  refine⟨fun h=>p9 (by omega),fun h1=>⟨fun h=>p9 (by omega),fun h2=>?_⟩⟩
  have hu:=V7 (k:=k) (by omega) (by omega)
  rw[hu]
  have T:(¬(k=6/\f≠0))->(cn a=false->false=aK (k,f,a,b,c)) ∧
             (cn a=true →
               (cn b=false->false=aK (k,f,a,b,c)) ∧
                 (cn b=true →
                   (c<0->false=aK (k,f,a,b,c)) ∧
                     (¬c<0 →
                       (400<c->false=aK (k,f,a,b,c)) ∧
                         (¬400<c →
                           (gy k=true →
                             (k=11->true=aK (k,f,a,b,c)) ∧
                               (¬k=11->decide (c=0)=aK (k,f,a,b,c))) ∧
                             (gy k=false →
                               ((b.length:Int)=0 →
                                  (k=11->true=aK (k,f,a,b,c)) ∧
                                    (¬k=11->decide (c=0)=aK (k,f,a,b,c))) ∧
                                 (¬(b.length:Int)=0->false=aK (k,f,a,b,c))))))):=by
   intro h6
   refine⟨fun h=>p9 (by simp[h]),fun ha=>⟨fun h=>p9 (by simp[h]),fun hb=>⟨fun h=>p9 (by omega),fun h3=>⟨fun h=>p9 (by omega),fun h4=>?_⟩⟩⟩⟩
   have go:gy k=true\/b.length=0->(k=11->true=aK (k,f,a,b,c))/\(¬k=11->decide (c=0)=aK (k,f,a,b,c)):=fun hx =>
    ⟨fun h=>Xb ⟨⟨⟨by omega,by omega⟩,hm,h6⟩,ha,hb,⟨by omega,by omega⟩,hx,Or.inl h⟩,
     fun h=>Zx ⟨fun hc=>⟨⟨⟨by omega,by omega⟩,hm,h6⟩,ha,hb,⟨by omega,by omega⟩,hx,Or.inr hc⟩,fun hh=>by rcases hh.2.2.2.2.2 with h7|h7;exact absurd h7 h;exact h7⟩⟩
   refine⟨fun h=>go (Or.inl h),fun h=>⟨fun h5=>go (Or.inr (by omega)),fun h5=>p9 (fun hh=>?_)⟩⟩
   rcases hh.2.2.2.2.1 with h7|h7
   ·rw[h] at h7;cases h7
   ·omega
  exact⟨fun h=>⟨fun h0=>p9 (fun hh=>hh.1.2.2 ⟨h,h0⟩),fun h0=>T (fun hh=>hh.2 h0)⟩,fun h=>T (fun hh=>h hh.1)⟩
set_option maxRecDepth 10000
theorem Lx{a b:List Int}{x:Nat}(hb:max a.length b.length<=4096)(hn:¬(x<a.length/\x<b.length/\a.getD x 0=b.getD x 0))(aT:x<max a.length b.length):∃ x',x'<=max a.length b.length/\max a.length b.length-x'<max a.length b.length-x/\i64.wrap (((dO a b x:Nat):Int)+1)=((dO a b x':Nat):Int)/\i64.wrap ((x:Int)+1)=(x':Int):=by
 have hd:=Fv a b x
 exact⟨x+1,by omega,by omega,by rw[D_ hn];exact aG (by omega),aG (by omega)⟩
theorem P3 :
 ∀(d:Int×List Int×Int),Ty.wf ai d.1/\Ty.wf aj d.2.1/\Ty.wf ai d.2.2->True->(decide ((d.2.1.length:Int)<=(10:Int))=true->True/\(bT d.1 d.2.1=true->True/\(decide ((1:Int)<=d.2.2)&&decide (d.2.2<=(d.2.1.length:Int)))=eX d.1 d.2.1 d.2.2)/\(bT d.1 d.2.1=false->false=eX d.1 d.2.1 d.2.2))/\(decide ((d.2.1.length:Int)<=(10:Int))=false->false=eX d.1 d.2.1 d.2.2):=by
  intro (d:Int×List Int×Int) hw hp
  obtain⟨f,xs,k⟩:=d
  simp only[exists_const,forall_const,decide_eq_true_eq,decide_eq_false_iff_not,beq_iff_eq,sxS]
  unfold eX
  refine⟨fun h=>⟨fun h1=>?_,fun h1=>?_⟩,fun h=>?_⟩
  ·rw[decide_eq_true (show xs.length<=10 by omega),h1,Bool.true_and,Bool.true_and,Bool.decide_and]
  ·rw[h1,Bool.and_false];rfl
  ·rw[decide_eq_false (show ¬xs.length<=10 by omega)];rfl
theorem Ks :
 ∀(d:Int×List Int×Int),Ty.wf ai d.1/\Ty.wf aj d.2.1/\Ty.wf ai d.2.2->True->True/\(Ty.wf bW (iT d.1 d.2.1).1/\Ty.wf Ty.bool (iT d.1 d.2.1).2->((!(iT d.1 d.2.1).2)=true->(((0:Int),(0:Int),(0:Int)),false)=bM d.1 d.2.1 d.2.2)/\((!(iT d.1 d.2.1).2)=false->(decide ((10:Int)<(d.2.1.length:Int))=true->(((0:Int),(0:Int),(0:Int)),false)=bM d.1 d.2.1 d.2.2)/\(decide ((10:Int)<(d.2.1.length:Int))=false->(decide (d.2.2<(1:Int))=true->(((0:Int),(0:Int),(0:Int)),false)=bM d.1 d.2.1 d.2.2)/\(decide (d.2.2<(1:Int))=false->(decide ((d.2.1.length:Int)<d.2.2)=true->(((0:Int),(0:Int),(0:Int)),false)=bM d.1 d.2.1 d.2.2)/\(decide ((d.2.1.length:Int)<d.2.2)=false->((Prod.fst (iT d.1 d.2.1).1,(iT d.1 d.2.1).1.2.1,(iT d.1 d.2.1).1.2.2),true)=bM d.1 d.2.1 d.2.2))))):=by
  intro (d:Int×List Int×Int) hw hp
  obtain⟨f,xs,k⟩:=d
  simp only[exists_const,forall_const,decide_eq_true_eq,decide_eq_false_iff_not,beq_iff_eq,sxS]
  intro _
  have no:(eX f xs k=true->False)->((0,0,0),false)=bM f xs k:=fun h=>by
   unfold bM
   cases hc:eX f xs k with
   | false=>rfl
   | true=>exact (h hc).elim
  rw[Vm]
  refine⟨fun h=>no (fun hc=>?_),fun h=>⟨fun h1=>no (fun hc=>?_),fun h1=>⟨fun h2=>no (fun hc=>?_),fun h2=>⟨fun h3=>no (fun hc=>?_),fun h3=>?_⟩⟩⟩⟩
  ·rw[(oT hc).1] at h;cases h
  ·have:=(oT hc).2.1;omega
  ·have:=(oT hc).2.2.1;omega
  ·have:=(oT hc).2.2.2;omega
  ·unfold bM
   rw[if_pos (Y_ h (by omega) (by omega) (by omega)),Gm h]
theorem Is :
 ∀(d:Int×List Int×List Int),Ty.wf ai d.1/\Ty.wf aj d.2.1/\Ty.wf aj d.2.2->True->True/\((!eX d.1 d.2.1 (d.2.2.length:Int))=true->[]=oE d.1 d.2.1 d.2.2)/\((!eX d.1 d.2.1 (d.2.2.length:Int))=false->True/\((!aC d.1 d.2.2)=true->[]=oE d.1 d.2.1 d.2.2)/\((!aC d.1 d.2.2)=false->(0:Nat)<=d.2.1.length/\((d.1=d.1/\ae d.2.1/\ae d.2.2/\aQ/\(0:Int)=(↑(0:Nat):Int))/\[]=fx (af d.1) (cf d.2.2) d.2.1 (0:Nat))/\∀(x:Nat),x<=d.2.1.length->(decide ((x:Int)<(d.2.1.length:Int))=true->d.2.2.length<=(1048576:Nat)/\((0:Int)<=(x:Int)/\(x:Int)<(d.2.1.length:Int))/\True/\(Ty.wf ai (vT d.1 (cf d.2.2) (d.2.1.getD ((x:Int).toNat) (0:Int)))->Ty.wf aj (cf d.2.2)->(List.length (fx (af d.1) (cf d.2.2) d.2.1 x)+List.length [vT d.1 (cf d.2.2) (d.2.1.getD ((x:Int).toNat) (0:Int))])*(8:Nat)<=(140737488355328:Nat)/\∃(x':Nat),x'<=d.2.1.length/\d.2.1.length-x'<d.2.1.length-x/\(d.1=d.1/\ae d.2.1/\ae d.2.2/\aQ/\i64.wrap ((x:Int)+(1:Int))=(x':Int))/\fx (af d.1) (cf d.2.2) d.2.1 x++[vT d.1 (cf d.2.2) (d.2.1.getD ((x:Int).toNat) (0:Int))]=fx (af d.1) (cf d.2.2) d.2.1 x'))/\(decide ((x:Int)<(d.2.1.length:Int))=false->fx (af d.1) (cf d.2.2) d.2.1 x=oE d.1 d.2.1 d.2.2))):=by
  intro (d:Int×List Int×List Int) hw hp
  obtain⟨f,xs,m⟩:=d
  simp only[exists_const,forall_const,decide_eq_true_eq,decide_eq_false_iff_not,beq_iff_eq,sxS]
  refine⟨fun h=>by unfold oE;rw[h];rfl,fun h=>⟨fun h1=>by unfold oE;rw[h1,Bool.and_false];rfl,fun h1=>?_⟩⟩
  obtain⟨o7,hl,vf,oZ⟩:=oT h
  obtain⟨hm,he⟩:=jt h1
  have acZ:aZ f (cf m)=true:=lK hm (zZ he) (by rw[oP];have:=xO m;omega) (vH m)
  refine⟨by omega,⟨rfl,rfl⟩,fun x hx=>⟨fun h2=>⟨by omega,⟨by omega,by omega⟩,fun _ _=>?_⟩,fun h2=>?_⟩⟩
  ·rw[mZ]
   refine⟨by simp only[List.length_cons,List.length_nil];omega,x+1,by omega,by omega,aG (by omega),?_⟩
   unfold vT
   rw[if_pos acZ]
   exact Ed _ _ _ _
  ·rw[show x=xs.length by omega]
   unfold oE
   rw[h,h1];rfl
theorem Tj :
 ∀(d:List Int×List Int),Ty.wf aj d.1/\Ty.wf aj d.2->True->(decide ((4096:Int)<(d.1.length:Int))=true->(-1:Int)=q_ d.1 d.2)/\(decide ((4096:Int)<(d.1.length:Int))=false->(decide ((4096:Int)<(d.2.length:Int))=true->(-1:Int)=q_ d.1 d.2)/\(decide ((4096:Int)<(d.2.length:Int))=false->(0:Nat)<=max d.1.length d.2.length/\(d.1=d.1/\d.2=d.2/\ae (0:Int)/\(0:Int)=(↑(dO d.1 d.2 (0:Nat)):Int)/\(0:Int)=(↑(0:Nat):Int))/\∀(x:Nat),x<=max d.1.length d.2.length->(decide ((x:Int)<(d.1.length:Int))=true->(decide ((d.1.length:Int)<=(x:Int))=true->∃(x':Nat),x'<=max d.1.length d.2.length/\max d.1.length d.2.length-x'<max d.1.length d.2.length-x/\d.1=d.1/\d.2=d.2/\ae (0:Int)/\i64.wrap ((dO d.1 d.2 x:Int)+(1:Int))=(dO d.1 d.2 x':Int)/\i64.wrap ((x:Int)+(1:Int))=(x':Int))/\(decide ((d.1.length:Int)<=(x:Int))=false->(decide ((d.2.length:Int)<=(x:Int))=true->∃(x':Nat),x'<=max d.1.length d.2.length/\max d.1.length d.2.length-x'<max d.1.length d.2.length-x/\d.1=d.1/\d.2=d.2/\ae (0:Int)/\i64.wrap ((dO d.1 d.2 x:Int)+(1:Int))=(dO d.1 d.2 x':Int)/\i64.wrap ((x:Int)+(1:Int))=(x':Int))/\(decide ((d.2.length:Int)<=(x:Int))=false->((0:Int)<=(x:Int)/\(x:Int)<(d.1.length:Int))/\((0:Int)<=(x:Int)/\(x:Int)<(d.2.length:Int))/\((!decide (d.1.getD ((x:Int).toNat) (0:Int)=d.2.getD ((x:Int).toNat) (0:Int)))=true->∃(x':Nat),x'<=max d.1.length d.2.length/\max d.1.length d.2.length-x'<max d.1.length d.2.length-x/\d.1=d.1/\d.2=d.2/\ae (0:Int)/\i64.wrap ((dO d.1 d.2 x:Int)+(1:Int))=(dO d.1 d.2 x':Int)/\i64.wrap ((x:Int)+(1:Int))=(x':Int))/\((!decide (d.1.getD ((x:Int).toNat) (0:Int)=d.2.getD ((x:Int).toNat) (0:Int)))=false->∃(x':Nat),x'<=max d.1.length d.2.length/\max d.1.length d.2.length-x'<max d.1.length d.2.length-x/\d.1=d.1/\d.2=d.2/\ae (0:Int)/\(dO d.1 d.2 x:Int)=(dO d.1 d.2 x':Int)/\i64.wrap ((x:Int)+(1:Int))=(x':Int)))))/\(decide ((x:Int)<(d.1.length:Int))=false->(decide ((x:Int)<(d.2.length:Int))=true->(decide ((d.1.length:Int)<=(x:Int))=true->∃(x':Nat),x'<=max d.1.length d.2.length/\max d.1.length d.2.length-x'<max d.1.length d.2.length-x/\d.1=d.1/\d.2=d.2/\ae (0:Int)/\i64.wrap ((dO d.1 d.2 x:Int)+(1:Int))=(dO d.1 d.2 x':Int)/\i64.wrap ((x:Int)+(1:Int))=(x':Int))/\(decide ((d.1.length:Int)<=(x:Int))=false->(decide ((d.2.length:Int)<=(x:Int))=true->∃(x':Nat),x'<=max d.1.length d.2.length/\max d.1.length d.2.length-x'<max d.1.length d.2.length-x/\d.1=d.1/\d.2=d.2/\ae (0:Int)/\i64.wrap ((dO d.1 d.2 x:Int)+(1:Int))=(dO d.1 d.2 x':Int)/\i64.wrap ((x:Int)+(1:Int))=(x':Int))/\(decide ((d.2.length:Int)<=(x:Int))=false->((0:Int)<=(x:Int)/\(x:Int)<(d.1.length:Int))/\((0:Int)<=(x:Int)/\(x:Int)<(d.2.length:Int))/\((!decide (d.1.getD ((x:Int).toNat) (0:Int)=d.2.getD ((x:Int).toNat) (0:Int)))=true->∃(x':Nat),x'<=max d.1.length d.2.length/\max d.1.length d.2.length-x'<max d.1.length d.2.length-x/\d.1=d.1/\d.2=d.2/\ae (0:Int)/\i64.wrap ((dO d.1 d.2 x:Int)+(1:Int))=(dO d.1 d.2 x':Int)/\i64.wrap ((x:Int)+(1:Int))=(x':Int))/\((!decide (d.1.getD ((x:Int).toNat) (0:Int)=d.2.getD ((x:Int).toNat) (0:Int)))=false->∃(x':Nat),x'<=max d.1.length d.2.length/\max d.1.length d.2.length-x'<max d.1.length d.2.length-x/\d.1=d.1/\d.2=d.2/\ae (0:Int)/\(dO d.1 d.2 x:Int)=(dO d.1 d.2 x':Int)/\i64.wrap ((x:Int)+(1:Int))=(x':Int)))))/\(decide ((x:Int)<(d.2.length:Int))=false->(dO d.1 d.2 x:Int)=q_ d.1 d.2)))):=by
  intro (d:List Int×List Int) hw hp
  obtain⟨a,b⟩:=d
  simp only[exists_const,forall_const,decide_eq_true_eq,decide_eq_false_iff_not,beq_iff_eq,sxS]
  refine⟨fun h=>by unfold q_;rw[if_pos (by omega)],fun h=>⟨fun h1=>by unfold q_;rw[if_pos (by omega)],fun h1=>⟨by omega,⟨rfl,rfl⟩,fun x hx=>?_⟩⟩⟩
  have hd:=Fv a b x
  refine⟨fun h2=>⟨fun h3=>absurd h3 (by omega),fun h3=>⟨fun h4=>Lx (by omega) (fun hh=>absurd hh.2.1 (by omega)) (by omega),fun h4=>⟨⟨by omega,by omega⟩,⟨by omega,by omega⟩,fun h5=>Lx (by omega) (fun hh=>h5 hh.2.2) (by omega),fun h5=>⟨x+1,by omega,by omega,by rw[Ly ⟨by omega,by omega,h5⟩],aG (by omega)⟩⟩⟩⟩,fun h2=>⟨fun h3=>⟨fun h4=>Lx (by omega) (fun hh=>absurd hh.1 (by omega)) (by omega),fun h4=>absurd h2 (by omega)⟩,fun h3=>?_⟩⟩
  rw[Fu (by omega) (by omega),show x=max a.length b.length by omega];rfl
theorem S_ :
 ∀(d:List Int×List Int),Ty.wf aj d.1/\Ty.wf aj d.2->d.1.length<=(1048576:Nat)/\d.2.length<=(1048576:Nat)->(0:Nat)<=min d.1.length d.2.length/\(d.1=d.1/\d.2=d.2/\ae (0:Int)/\i64.wrap (imax (d.1.length:Int) (d.2.length:Int)-pZ (d.1.length:Int) (d.2.length:Int))=(↑(max d.1.length d.2.length-min d.1.length d.2.length+dO d.1 d.2 (0:Nat)):Int)/\ae (pZ (d.1.length:Int) (d.2.length:Int))/\(0:Int)=(↑(0:Nat):Int))/\∀(x:Nat),x<=min d.1.length d.2.length->(decide ((x:Int)<pZ (d.1.length:Int) (d.2.length:Int))=true->((0:Int)<=(x:Int)/\(x:Int)<(d.1.length:Int))/\((0:Int)<=(x:Int)/\(x:Int)<(d.2.length:Int))/\((!decide (d.1.getD ((x:Int).toNat) (0:Int)=d.2.getD ((x:Int).toNat) (0:Int)))=true->∃(x':Nat),x'<=min d.1.length d.2.length/\min d.1.length d.2.length-x'<min d.1.length d.2.length-x/\d.1=d.1/\d.2=d.2/\ae (0:Int)/\i64.wrap ((↑(max d.1.length d.2.length-min d.1.length d.2.length+dO d.1 d.2 x):Int)+(1:Int))=(↑(max d.1.length d.2.length-min d.1.length d.2.length+dO d.1 d.2 x'):Int)/\ae (pZ (d.1.length:Int) (d.2.length:Int))/\i64.wrap ((x:Int)+(1:Int))=(x':Int))/\((!decide (d.1.getD ((x:Int).toNat) (0:Int)=d.2.getD ((x:Int).toNat) (0:Int)))=false->∃(x':Nat),x'<=min d.1.length d.2.length/\min d.1.length d.2.length-x'<min d.1.length d.2.length-x/\d.1=d.1/\d.2=d.2/\ae (0:Int)/\(↑(max d.1.length d.2.length-min d.1.length d.2.length+dO d.1 d.2 x):Int)=(↑(max d.1.length d.2.length-min d.1.length d.2.length+dO d.1 d.2 x'):Int)/\ae (pZ (d.1.length:Int) (d.2.length:Int))/\i64.wrap ((x:Int)+(1:Int))=(x':Int)))/\(decide ((x:Int)<pZ (d.1.length:Int) (d.2.length:Int))=false->(↑(max d.1.length d.2.length-min d.1.length d.2.length+dO d.1 d.2 x):Int)=pz d.1 d.2):=by
  intro (d:List Int×List Int) hw hp
  obtain⟨a,b⟩:=d
  replace hp:a.length<=1048576/\b.length<=1048576:=hp
  simp only[exists_const,forall_const,decide_eq_true_eq,decide_eq_false_iff_not,beq_iff_eq,sxS]
  obtain⟨ha,hb⟩:=hp
  have hmx:imax (a.length:Int) (b.length:Int)=((max a.length b.length:Nat):Int):=by unfold imax;split<;>omega
  have DH:pZ (a.length:Int) (b.length:Int)=((min a.length b.length:Nat):Int):=by unfold pZ;split<;>omega
  rw[hmx,DH]
  refine⟨by omega,⟨?_,rfl⟩,fun x hx=>?_⟩
  ·rw[wrap_small (by omega),show dO a b 0=0 from rfl];omega
  have hd:=Fv a b x
  refine⟨fun h=>⟨⟨by omega,by omega⟩,⟨by omega,by omega⟩,fun h1=>⟨x+1,by omega,by omega,?_,aG (by omega)⟩,fun h1=>⟨x+1,by omega,by omega,by rw[Ly ⟨by omega,by omega,h1⟩],aG (by omega)⟩⟩,fun h=>?_⟩
  ·rw[D_ (fun hh=>h1 hh.2.2)];exact aG (by omega)
  ·obtain rfl:x=min a.length b.length:=by omega
   have:=Lz (a:=a) (b:=b) rfl (max a.length b.length-min a.length b.length)
   unfold pz
   rw[show max a.length b.length=min a.length b.length+(max a.length b.length-min a.length b.length) by omega,this]
   congr 2
   omega
theorem Oj :
 ∀(d:(Int×Int×Int)×List Int×List Int),Ty.wf bW d.1/\Ty.wf aj d.2.1/\Ty.wf aj d.2.2->au d.1.1/\aq d.1.1 d.2.1=true/\aq d.1.1 d.2.2=true/\d.2.2.length<=(1000:Nat)->(0:Nat)<=d.2.2.length/\(((ae d.1.1/\ae d.1.2.1/\ae d.1.2.2)/\ae d.2.1/\ae d.2.2/\aQ/\ae d.2.2/\ae (d.2.2.length:Int)/\(0:Int)=(↑(0:Nat):Int))/\(ae d.1.1/\ae d.1.2.1/\ae d.1.2.2)/\[]=fx d.1.1 d.2.1 d.2.2 (0:Nat))/\∀(x:Nat),x<=d.2.2.length->(decide ((x:Int)<(d.2.2.length:Int))=true->((0:Int)<=(x:Int)/\(x:Int)<(d.2.2.length:Int))/\(au d.1.1/\aq d.1.1 d.2.1=true/\El d.1.1 (d.2.2.getD ((x:Int).toNat) (0:Int)))/\(Ty.wf ai (sn d.1.1 d.2.1 (d.2.2.getD ((x:Int).toNat) (0:Int)))->(List.length (fx d.1.1 d.2.1 d.2.2 x)+List.length [sn d.1.1 d.2.1 (d.2.2.getD ((x:Int).toNat) (0:Int))])*(8:Nat)<=(140737488355328:Nat)/\∃(x':Nat),x'<=d.2.2.length/\d.2.2.length-x'<d.2.2.length-x/\((ae d.1.1/\ae d.1.2.1/\ae d.1.2.2)/\ae d.2.1/\ae d.2.2/\aQ/\ae d.2.2/\ae (d.2.2.length:Int)/\i64.wrap ((x:Int)+(1:Int))=(x':Int))/\(ae d.1.1/\ae d.1.2.1/\ae d.1.2.2)/\fx d.1.1 d.2.1 d.2.2 x++[sn d.1.1 d.2.1 (d.2.2.getD ((x:Int).toNat) (0:Int))]=fx d.1.1 d.2.1 d.2.2 x'))/\(decide ((x:Int)<(d.2.2.length:Int))=false->fx d.1.1 d.2.1 d.2.2 x=fx d.1.1 d.2.1 d.2.2 d.2.2.length):=by
  intro (d:Fd×List Int×List Int) hw hp
  obtain⟨⟨p,g,t⟩,a,xs⟩:=d
  replace hp:au p/\aq p a=true/\aq p xs=true/\xs.length<=1000:=hp
  simp only[exists_const,forall_const,decide_eq_true_eq,decide_eq_false_iff_not,beq_iff_eq,sxS]
  obtain⟨h0,h1,h2,h3⟩:=hp
  refine⟨by omega,⟨rfl,rfl⟩,fun x hx=>⟨fun h=>⟨⟨by omega,by omega⟩,⟨h0,h1,fc h0 h2 _⟩,fun _=>⟨by rw[mZ];simp only[List.length_cons,List.length_nil];omega,x+1,by omega,by omega,aG (by omega),Ed _ _ _ _⟩⟩,fun h=>by rw[show x=xs.length by omega]⟩⟩
theorem Ir :
 ∀(d:Int×List Int×List Int×Int),Ty.wf ai d.1/\Ty.wf aj d.2.1/\Ty.wf aj d.2.2.1/\Ty.wf ai d.2.2.2->True->True/\((!eX d.1 d.2.1 d.2.2.2)=true->([],(0:Int),false)=dI d.1 d.2.1 d.2.2.1 d.2.2.2)/\((!eX d.1 d.2.1 d.2.2.2)=false->((!decide ((d.2.2.1.length:Int)=(d.2.1.length:Int)))=true->([],(0:Int),false)=dI d.1 d.2.1 d.2.2.1 d.2.2.2)/\((!decide ((d.2.2.1.length:Int)=(d.2.1.length:Int)))=false->True/\((!aC d.1 d.2.2.1)=true->([],(0:Int),false)=dI d.1 d.2.1 d.2.2.1 d.2.2.2)/\((!aC d.1 d.2.2.1)=false->nA (af d.1) d.2.1 d.2.2.1 d.2.2.2.toNat (0:Nat)/\(d.1=d.1/\ae d.2.1/\ae d.2.2.1/\ae d.2.2.2/\ae (d.2.1.length:Int)/\(0:Int)=(↑(0:Nat):Int))/\∀(x:Nat),nA (af d.1) d.2.1 d.2.2.1 d.2.2.2.toNat x->(0:Int)<=IntKind.wrap IntKind.u64 (d.2.1.length:Int)/\(decide ((x:Int)<dq i64 (1:Int) (IntKind.wrap IntKind.u64 (d.2.1.length:Int)))=true->(0:Nat)<=d.2.1.length/\((d.1=d.1/\ae d.2.1/\ae d.2.2.1/\ae d.2.2.2/\ae (d.2.1.length:Int)/\ae (x:Int)/\(0:Int)=(↑(0:Nat):Int))/\[]=bn d.2.1 x (0:Nat)/\[]=bn d.2.2.1 x (0:Nat))/\∀(x_1:Nat),x_1<=d.2.1.length->(decide ((x_1:Int)<(d.2.1.length:Int))=true->(0:Int)<=IntKind.wrap IntKind.u64 (x_1:Int)/\(2:Int)≠(0:Int)/\(decide (Int.tmod (lP i64 (x:Int) (IntKind.wrap IntKind.u64 (x_1:Int))) (2:Int)=(1:Int))=true->((0:Int)<=(x_1:Int)/\(x_1:Int)<(d.2.1.length:Int))/\(List.length (bn d.2.1 x x_1)+List.length [d.2.1.getD ((x_1:Int).toNat) (0:Int)])*(8:Nat)<=(140737488355328:Nat)/\((0:Int)<=(x_1:Int)/\(x_1:Int)<(d.2.2.1.length:Int))/\(List.length (bn d.2.2.1 x x_1)+List.length [d.2.2.1.getD ((x_1:Int).toNat) (0:Int)])*(8:Nat)<=(140737488355328:Nat)/\∃(x':Nat),x'<=d.2.1.length/\d.2.1.length-x'<d.2.1.length-x_1/\(d.1=d.1/\ae d.2.1/\ae d.2.2.1/\ae d.2.2.2/\ae (d.2.1.length:Int)/\ae (x:Int)/\i64.wrap ((x_1:Int)+(1:Int))=(x':Int))/\bn d.2.1 x x_1++[d.2.1.getD ((x_1:Int).toNat) (0:Int)]=bn d.2.1 x x'/\bn d.2.2.1 x x_1++[d.2.2.1.getD ((x_1:Int).toNat) (0:Int)]=bn d.2.2.1 x x')/\(decide (Int.tmod (lP i64 (x:Int) (IntKind.wrap IntKind.u64 (x_1:Int))) (2:Int)=(1:Int))=false->∃(x':Nat),x'<=d.2.1.length/\d.2.1.length-x'<d.2.1.length-x_1/\(d.1=d.1/\ae d.2.1/\ae d.2.2.1/\ae d.2.2.2/\ae (d.2.1.length:Int)/\ae (x:Int)/\i64.wrap ((x_1:Int)+(1:Int))=(x':Int))/\bn d.2.1 x x_1=bn d.2.1 x x'/\bn d.2.2.1 x x_1=bn d.2.2.1 x x'))/\(decide ((x_1:Int)<(d.2.1.length:Int))=false->((!decide ((↑(List.length (bn d.2.1 x x_1)):Int)=d.2.2.2))=true->∃(x':Nat),nA (af d.1) d.2.1 d.2.2.1 d.2.2.2.toNat x'/\(2:Nat)^d.2.1.length-x'<(2:Nat)^d.2.1.length-x/\d.1=d.1/\ae d.2.1/\ae d.2.2.1/\ae d.2.2.2/\ae (d.2.1.length:Int)/\i64.wrap ((x:Int)+(1:Int))=(x':Int))/\((!decide ((↑(List.length (bn d.2.1 x x_1)):Int)=d.2.2.2))=false->(bT d.1 (bn d.2.1 x x_1)=true/\List.length (bn d.2.2.1 x x_1)=List.length (bn d.2.1 x x_1))/\(Ty.wf aj (gk (af d.1) (bn d.2.1 x x_1) (bn d.2.2.1 x x_1))->List.length (dL (af d.1) d.2.1 d.2.2.1 x)+(0:Nat)<=d.2.2.2.toNat/\((d.1=d.1/\ae d.2.1/\ae d.2.2.1/\ae d.2.2.2/\ae (d.2.1.length:Int)/\ae (x:Int)/\ae (x_1:Int))/\ae (bn d.2.1 x x_1)/\ae (bn d.2.2.1 x x_1)/\gk (af d.1) (bn d.2.1 x x_1) (bn d.2.2.1 x x_1)=dL (af d.1) d.2.1 d.2.2.1 x++List.replicate (0:Nat) (0:Int))/\∀(x_2:Nat),List.length (dL (af d.1) d.2.1 d.2.2.1 x)+x_2<=d.2.2.2.toNat->(decide ((↑(List.length (dL (af d.1) d.2.1 d.2.2.1 x++List.replicate x_2 (0:Int))):Int)<d.2.2.2)=true->(List.length (dL (af d.1) d.2.1 d.2.2.1 x++List.replicate x_2 (0:Int))+List.length [(0:Int)])*(8:Nat)<=(140737488355328:Nat)/\∃(x':Nat),List.length (dL (af d.1) d.2.1 d.2.2.1 x)+x'<=d.2.2.2.toNat/\d.2.2.2.toNat-x'<d.2.2.2.toNat-x_2/\(d.1=d.1/\ae d.2.1/\ae d.2.2.1/\ae d.2.2.2/\ae (d.2.1.length:Int)/\ae (x:Int)/\ae (x_1:Int))/\ae (bn d.2.1 x x_1)/\ae (bn d.2.2.1 x x_1)/\dL (af d.1) d.2.1 d.2.2.1 x++List.replicate x_2 (0:Int)++[(0:Int)]=dL (af d.1) d.2.1 d.2.2.1 x++List.replicate x' (0:Int))/\(decide ((↑(List.length (dL (af d.1) d.2.1 d.2.2.1 x++List.replicate x_2 (0:Int))):Int)<d.2.2.2)=false->True/\(Ty.wf aj (oE d.1 d.2.1 (dL (af d.1) d.2.1 d.2.2.1 x++List.replicate x_2 (0:Int)))->True/\(Ty.wf ai (q_ (oE d.1 d.2.1 (dL (af d.1) d.2.1 d.2.2.1 x++List.replicate x_2 (0:Int))) d.2.2.1)->(2:Int)≠(0:Int)/\(decide (q_ (oE d.1 d.2.1 (dL (af d.1) d.2.1 d.2.2.1 x++List.replicate x_2 (0:Int))) d.2.2.1<=i64.wrap (Int.tdiv (i64.wrap ((d.2.1.length:Int)-d.2.2.2)) (2:Int)))=true->(dL (af d.1) d.2.1 d.2.2.1 x++List.replicate x_2 (0:Int),q_ (oE d.1 d.2.1 (dL (af d.1) d.2.1 d.2.2.1 x++List.replicate x_2 (0:Int))) d.2.2.1,true)=dI d.1 d.2.1 d.2.2.1 d.2.2.2)/\(decide (q_ (oE d.1 d.2.1 (dL (af d.1) d.2.1 d.2.2.1 x++List.replicate x_2 (0:Int))) d.2.2.1<=i64.wrap (Int.tdiv (i64.wrap ((d.2.1.length:Int)-d.2.2.2)) (2:Int)))=false->∃(x':Nat),nA (af d.1) d.2.1 d.2.2.1 d.2.2.2.toNat x'/\(2:Nat)^d.2.1.length-x'<(2:Nat)^d.2.1.length-x/\d.1=d.1/\ae d.2.1/\ae d.2.2.1/\ae d.2.2.2/\ae (d.2.1.length:Int)/\i64.wrap ((x:Int)+(1:Int))=(x':Int)))))))))/\(decide ((x:Int)<dq i64 (1:Int) (IntKind.wrap IntKind.u64 (d.2.1.length:Int)))=false->([],(0:Int),false)=dI d.1 d.2.1 d.2.2.1 d.2.2.2)))):=by
  intro (d:Int×List Int×List Int×Int) hw hp
  obtain⟨f,xs,ys,k⟩:=d
  simp only[exists_const,forall_const,decide_eq_true_eq,decide_eq_false_iff_not,beq_iff_eq,sxS]
  refine⟨fun h=>uJ (by rw[h];rfl),fun h=>⟨fun h1=>uJ (by rw[decide_eq_false (show ¬ys.length=xs.length by omega),Bool.and_false];rfl),fun h1=>⟨fun h2=>uJ (by rw[h2,Bool.and_false]),fun h2=>⟨⟨Nat.zero_le _,fun t ht=>absurd ht (by omega)⟩,rfl,fun x hx=>?_⟩⟩⟩⟩
  obtain⟨o7,hl,vf,oZ⟩:=oT h
  obtain⟨hm,tx,mg,he,hn⟩:=kY o7
  have h0:=(nU hm).mod
  have AA:ys.length=xs.length:=by omega
  obtain⟨kk,rfl⟩:=Int.eq_ofNat_of_zero_le (show 0<=k by omega)
  simp only[Int.toNat_natCast] at hx ⊢
  have et:=Nk hl
  rw[V4 hl,Q1 hl]
  refine⟨by omega,fun h3=>⟨by omega,⟨rfl,rfl,rfl⟩,fun y hy=>⟨fun h4=>?_,fun h4=>?_⟩⟩,fun h3=>Qm h AA h2 hx (by omega)⟩
  ·have F3:=(sub_sub (xs:=xs) x y (by omega)).length_le
   have aeL:=uA ys xs x y
   rw[List.length_take] at F3
   rw[V4 (show y<=10 by omega),Ez x y (by omega),XL]
   refine⟨by omega,by decide,fun h5=>⟨⟨by omega,by omega⟩,by simp only[List.length_cons,List.length_nil];omega,⟨by omega,by omega⟩,by simp only[List.length_cons,List.length_nil];omega,y+1,by omega,by omega,aG (by omega),zV (by omega),zV (by omega)⟩,fun h5=>⟨y+1,by omega,by omega,aG (by omega),zU (by omega),zU (by omega)⟩⟩
  ·obtain rfl:y=xs.length:=by omega
   have Vf:kT (af f) xs ys kk x=false->∃ x',nA (af f) xs ys kk x'/\2^xs.length-x'<2^xs.length-x/\i64.wrap ((x:Int)+1)=(x':Int) :=
    fun hh=>⟨x+1,N2 hx (by omega) hh,by omega,aG (by omega)⟩
   refine⟨fun h5=>Vf (by unfold kT;rw[decide_eq_false (by omega)];rfl),fun h5=>⟨⟨VU o7 (by omega),uA _ _ _ _⟩,fun _=>?_⟩⟩
   obtain⟨wc,Yp⟩:=MX o7 AA x
   refine⟨by omega,by rw[List.replicate_zero,List.append_nil];rfl,fun z hz=>⟨fun h6=>?_,fun h6 _ _=>⟨by decide,?_⟩⟩⟩
   ·rw[List.length_append,List.length_replicate] at h6 ⊢
    refine⟨by simp only[List.length_cons,List.length_nil];omega,z+1,by omega,by omega,?_⟩
    rw[List.append_assoc,List.replicate_succ']
   ·rw[List.length_append,List.length_replicate] at h6
    have hzk:z=kk-(dL (af f) xs ys x).length:=by omega
    have QA:(dL (af f) xs ys x++List.replicate z 0).length=kk:=by rw[List.length_append,List.length_replicate];omega
    have aev:oE f xs (dL (af f) xs ys x++List.replicate z 0)=fx (af f) (dL (af f) xs ys x) xs xs.length:=by
     unfold oE
     rw[QA,h,iH hm (Vj h0 wc z)]
     exact Zl h0 (fun t=>by rw[Cu,NV]) _ _
    have WO:q_ (oE f xs (dL (af f) xs ys x++List.replicate z 0)) ys=((wQ (af f) xs ys x:Nat):Int):=by
     rw[aev,Fu (by rw[mZ];omega) (by omega),Qo (mZ _ _ _ _) AA];rfl
    rw[WO,LW (by omega) hl]
    refine⟨fun h7=>?_,fun h7=>Vf (by unfold kT;rw[decide_eq_false (show ¬wQ (af f) xs ys x<=(xs.length-kk)/2 by omega),Bool.and_false])⟩
    have hh:kT (af f) xs ys (kk:Int).toNat x=true:=by
     unfold kT
     rw[Int.toNat_natCast,decide_eq_true (show (bn xs x xs.length).length=kk by omega),decide_eq_true (show wQ (af f) xs ys x<=(xs.length-kk)/2 by omega)];rfl
    rw[Qn h AA h2 (s:=x) (by rw[Int.toNat_natCast];exact hx) (by omega) hh,Int.toNat_natCast,hzk]
    rfl
theorem Ih :
 ∀(d:Int×List Int×List Int×Int),Ty.wf ai d.1/\Ty.wf aj d.2.1/\Ty.wf aj d.2.2.1/\Ty.wf ai d.2.2.2->True->True/\(Ty.wf bW (bM d.1 d.2.1 d.2.2.2).1/\Ty.wf Ty.bool (bM d.1 d.2.1 d.2.2.2).2->((!(bM d.1 d.2.1 d.2.2.2).2)=true->([],(0:Int),false)=dI d.1 d.2.1 d.2.2.1 d.2.2.2)/\((!(bM d.1 d.2.1 d.2.2.2).2)=false->((!decide ((d.2.2.1.length:Int)=(d.2.1.length:Int)))=true->([],(0:Int),false)=dI d.1 d.2.1 d.2.2.1 d.2.2.2)/\((!decide ((d.2.2.1.length:Int)=(d.2.1.length:Int)))=false->True/\((!aq (bM d.1 d.2.1 d.2.2.2).1.1 d.2.2.1)=true->([],(0:Int),false)=dI d.1 d.2.1 d.2.2.1 d.2.2.2)/\((!aq (bM d.1 d.2.1 d.2.2.2).1.1 d.2.2.1)=false->(0:Int)<=(d.2.1.length:Int)/\nA (af d.1) d.2.1 d.2.2.1 d.2.2.2.toNat (0:Nat)/\((d.1=d.1/\ae d.2.1/\ae d.2.2.1/\ae d.2.2.2/\ae ((bM d.1 d.2.1 d.2.2.2).2)/\ae (dq i64 (1:Int) (d.2.1.length:Int))/\(0:Int)=(↑(0:Nat):Int))/\ae ((bM d.1 d.2.1 d.2.2.2).1.1)/\ae ((bM d.1 d.2.1 d.2.2.2).1.2.1)/\ae ((bM d.1 d.2.1 d.2.2.2).1.2.2))/\∀(x:Nat),nA (af d.1) d.2.1 d.2.2.1 d.2.2.2.toNat x->(decide ((x:Int)<dq i64 (1:Int) (d.2.1.length:Int))=true->(0:Nat)<=d.2.1.length/\((d.1=d.1/\ae d.2.1/\ae d.2.2.1/\ae d.2.2.2/\ae ((bM d.1 d.2.1 d.2.2.2).2)/\ae (x:Int)/\ae (dq i64 (1:Int) (d.2.1.length:Int))/\ae (x:Int)/\ae d.2.1/\ae (d.2.1.length:Int)/\(0:Int)=(↑(0:Nat):Int))/\(Prod.fst (bM d.1 d.2.1 d.2.2.2).1=(bM d.1 d.2.1 d.2.2.2).1.1/\ae ((bM d.1 d.2.1 d.2.2.2).1.2.1)/\ae ((bM d.1 d.2.1 d.2.2.2).1.2.2))/\[]=bn d.2.1 x (0:Nat)/\[]=bn d.2.2.1 x (0:Nat))/\∀(x_1:Nat),x_1<=d.2.1.length->(decide ((x_1:Int)<(d.2.1.length:Int))=true->((0:Int)<=(x_1:Int)/\(x_1:Int)<(d.2.1.length:Int))/\(0:Int)<=(x_1:Int)/\(decide (zl i64 (lP i64 (x:Int) (x_1:Int)) (1:Int)=(1:Int))=true->(List.length (bn d.2.1 x x_1)+List.length [d.2.1.getD ((x_1:Int).toNat) (0:Int)])*(8:Nat)<=(140737488355328:Nat)/\((0:Int)<=(x_1:Int)/\(x_1:Int)<(d.2.2.1.length:Int))/\(List.length (bn d.2.2.1 x x_1)+List.length [d.2.2.1.getD ((x_1:Int).toNat) (0:Int)])*(8:Nat)<=(140737488355328:Nat)/\∃(x':Nat),x'<=d.2.1.length/\d.2.1.length-x'<d.2.1.length-x_1/\(d.1=d.1/\ae d.2.1/\ae d.2.2.1/\ae d.2.2.2/\ae ((bM d.1 d.2.1 d.2.2.2).2)/\ae (x:Int)/\ae (dq i64 (1:Int) (d.2.1.length:Int))/\ae (x:Int)/\ae d.2.1/\ae (d.2.1.length:Int)/\i64.wrap ((x_1:Int)+(1:Int))=(x':Int))/\(Prod.fst (bM d.1 d.2.1 d.2.2.2).1=(bM d.1 d.2.1 d.2.2.2).1.1/\ae ((bM d.1 d.2.1 d.2.2.2).1.2.1)/\ae ((bM d.1 d.2.1 d.2.2.2).1.2.2))/\bn d.2.1 x x_1++[d.2.1.getD ((x_1:Int).toNat) (0:Int)]=bn d.2.1 x x'/\bn d.2.2.1 x x_1++[d.2.2.1.getD ((x_1:Int).toNat) (0:Int)]=bn d.2.2.1 x x')/\(decide (zl i64 (lP i64 (x:Int) (x_1:Int)) (1:Int)=(1:Int))=false->∃(x':Nat),x'<=d.2.1.length/\d.2.1.length-x'<d.2.1.length-x_1/\(d.1=d.1/\ae d.2.1/\ae d.2.2.1/\ae d.2.2.2/\ae ((bM d.1 d.2.1 d.2.2.2).2)/\ae (x:Int)/\ae (dq i64 (1:Int) (d.2.1.length:Int))/\ae (x:Int)/\ae d.2.1/\ae (d.2.1.length:Int)/\i64.wrap ((x_1:Int)+(1:Int))=(x':Int))/\(Prod.fst (bM d.1 d.2.1 d.2.2.2).1=(bM d.1 d.2.1 d.2.2.2).1.1/\ae ((bM d.1 d.2.1 d.2.2.2).1.2.1)/\ae ((bM d.1 d.2.1 d.2.2.2).1.2.2))/\bn d.2.1 x x_1=bn d.2.1 x x'/\bn d.2.2.1 x x_1=bn d.2.2.1 x x'))/\(decide ((x_1:Int)<(d.2.1.length:Int))=false->((!decide ((↑(List.length (bn d.2.1 x x_1)):Int)=d.2.2.2))=true->∃(x':Nat),nA (af d.1) d.2.1 d.2.2.1 d.2.2.2.toNat x'/\(2:Nat)^d.2.1.length-x'<(2:Nat)^d.2.1.length-x/\(d.1=d.1/\ae d.2.1/\ae d.2.2.1/\ae d.2.2.2/\ae ((bM d.1 d.2.1 d.2.2.2).2)/\ae (dq i64 (1:Int) (d.2.1.length:Int))/\i64.wrap ((x:Int)+(1:Int))=(x':Int))/\ae ((bM d.1 d.2.1 d.2.2.2).1.1)/\ae ((bM d.1 d.2.1 d.2.2.2).1.2.1)/\ae ((bM d.1 d.2.1 d.2.2.2).1.2.2))/\((!decide ((↑(List.length (bn d.2.1 x x_1)):Int)=d.2.2.2))=false->((∃(f:Int),bT f (bn d.2.1 x x_1)=true/\af f=(bM d.1 d.2.1 d.2.2.2).1.1)/\aq (bM d.1 d.2.1 d.2.2.2).1.1 (bn d.2.2.1 x x_1)=true/\List.length (bn d.2.2.1 x x_1)=List.length (bn d.2.1 x x_1))/\(Ty.wf aj (gk (bM d.1 d.2.1 d.2.2.2).1.1 (bn d.2.1 x x_1) (bn d.2.2.1 x x_1))->(au (bM d.1 d.2.1 d.2.2.2).1.1/\aq (bM d.1 d.2.1 d.2.2.2).1.1 (gk (bM d.1 d.2.1 d.2.2.2).1.1 (bn d.2.1 x x_1) (bn d.2.2.1 x x_1))=true/\aq (bM d.1 d.2.1 d.2.2.2).1.1 d.2.1=true/\d.2.1.length<=(1000:Nat))/\(Ty.wf aj (fx (bM d.1 d.2.1 d.2.2.2).1.1 (gk (bM d.1 d.2.1 d.2.2.2).1.1 (bn d.2.1 x x_1) (bn d.2.2.1 x x_1)) d.2.1 d.2.1.length)->(List.length (fx (bM d.1 d.2.1 d.2.2.2).1.1 (gk (bM d.1 d.2.1 d.2.2.2).1.1 (bn d.2.1 x x_1) (bn d.2.2.1 x x_1)) d.2.1 d.2.1.length)<=(1048576:Nat)/\d.2.2.1.length<=(1048576:Nat))/\(Ty.wf ai (pz (fx (bM d.1 d.2.1 d.2.2.2).1.1 (gk (bM d.1 d.2.1 d.2.2.2).1.1 (bn d.2.1 x x_1) (bn d.2.2.1 x x_1)) d.2.1 d.2.1.length) d.2.2.1)->(2:Int)≠(0:Int)/\(decide (pz (fx (bM d.1 d.2.1 d.2.2.2).1.1 (gk (bM d.1 d.2.1 d.2.2.2).1.1 (bn d.2.1 x x_1) (bn d.2.2.1 x x_1)) d.2.1 d.2.1.length) d.2.2.1<=i64.wrap (Int.tdiv (i64.wrap ((d.2.1.length:Int)-d.2.2.2)) (2:Int)))=true->List.length (dL (af d.1) d.2.1 d.2.2.1 x)+(0:Nat)<=d.2.2.2.toNat/\((d.1=d.1/\ae d.2.1/\ae d.2.2.1/\ae d.2.2.2/\ae ((bM d.1 d.2.1 d.2.2.2).2)/\ae (x:Int)/\ae (pz (fx (bM d.1 d.2.1 d.2.2.2).1.1 (gk (bM d.1 d.2.1 d.2.2.2).1.1 (bn d.2.1 x x_1) (bn d.2.2.1 x x_1)) d.2.1 d.2.1.length) d.2.2.1)/\ae (dq i64 (1:Int) (d.2.1.length:Int))/\ae (x:Int))/\(Prod.fst (bM d.1 d.2.1 d.2.2.2).1=(bM d.1 d.2.1 d.2.2.2).1.1/\ae ((bM d.1 d.2.1 d.2.2.2).1.2.1)/\ae ((bM d.1 d.2.1 d.2.2.2).1.2.2))/\ae (bn d.2.1 x x_1)/\ae (bn d.2.2.1 x x_1)/\gk (bM d.1 d.2.1 d.2.2.2).1.1 (bn d.2.1 x x_1) (bn d.2.2.1 x x_1)=dL (af d.1) d.2.1 d.2.2.1 x++List.replicate (0:Nat) (0:Int)/\ae (fx (bM d.1 d.2.1 d.2.2.2).1.1 (gk (bM d.1 d.2.1 d.2.2.2).1.1 (bn d.2.1 x x_1) (bn d.2.2.1 x x_1)) d.2.1 d.2.1.length))/\∀(x_2:Nat),List.length (dL (af d.1) d.2.1 d.2.2.1 x)+x_2<=d.2.2.2.toNat->(decide ((↑(List.length (dL (af d.1) d.2.1 d.2.2.1 x++List.replicate x_2 (0:Int))):Int)<d.2.2.2)=true->(List.length (dL (af d.1) d.2.1 d.2.2.1 x++List.replicate x_2 (0:Int))+List.length [(0:Int)])*(8:Nat)<=(140737488355328:Nat)/\∃(x':Nat),List.length (dL (af d.1) d.2.1 d.2.2.1 x)+x'<=d.2.2.2.toNat/\d.2.2.2.toNat-x'<d.2.2.2.toNat-x_2/\(d.1=d.1/\ae d.2.1/\ae d.2.2.1/\ae d.2.2.2/\ae ((bM d.1 d.2.1 d.2.2.2).2)/\ae (x:Int)/\ae (pz (fx (bM d.1 d.2.1 d.2.2.2).1.1 (gk (bM d.1 d.2.1 d.2.2.2).1.1 (bn d.2.1 x x_1) (bn d.2.2.1 x x_1)) d.2.1 d.2.1.length) d.2.2.1)/\ae (dq i64 (1:Int) (d.2.1.length:Int))/\ae (x:Int))/\(Prod.fst (bM d.1 d.2.1 d.2.2.2).1=(bM d.1 d.2.1 d.2.2.2).1.1/\ae ((bM d.1 d.2.1 d.2.2.2).1.2.1)/\ae ((bM d.1 d.2.1 d.2.2.2).1.2.2))/\ae (bn d.2.1 x x_1)/\ae (bn d.2.2.1 x x_1)/\dL (af d.1) d.2.1 d.2.2.1 x++List.replicate x_2 (0:Int)++[(0:Int)]=dL (af d.1) d.2.1 d.2.2.1 x++List.replicate x' (0:Int)/\ae (fx (bM d.1 d.2.1 d.2.2.2).1.1 (gk (bM d.1 d.2.1 d.2.2.2).1.1 (bn d.2.1 x x_1) (bn d.2.2.1 x x_1)) d.2.1 d.2.1.length))/\(decide ((↑(List.length (dL (af d.1) d.2.1 d.2.2.1 x++List.replicate x_2 (0:Int))):Int)<d.2.2.2)=false->(dL (af d.1) d.2.1 d.2.2.1 x++List.replicate x_2 (0:Int),pz (fx (bM d.1 d.2.1 d.2.2.2).1.1 (gk (bM d.1 d.2.1 d.2.2.2).1.1 (bn d.2.1 x x_1) (bn d.2.2.1 x x_1)) d.2.1 d.2.1.length) d.2.2.1,true)=dI d.1 d.2.1 d.2.2.1 d.2.2.2))/\(decide (pz (fx (bM d.1 d.2.1 d.2.2.2).1.1 (gk (bM d.1 d.2.1 d.2.2.2).1.1 (bn d.2.1 x x_1) (bn d.2.2.1 x x_1)) d.2.1 d.2.1.length) d.2.2.1<=i64.wrap (Int.tdiv (i64.wrap ((d.2.1.length:Int)-d.2.2.2)) (2:Int)))=false->∃(x':Nat),nA (af d.1) d.2.1 d.2.2.1 d.2.2.2.toNat x'/\(2:Nat)^d.2.1.length-x'<(2:Nat)^d.2.1.length-x/\(d.1=d.1/\ae d.2.1/\ae d.2.2.1/\ae d.2.2.2/\ae ((bM d.1 d.2.1 d.2.2.2).2)/\ae (dq i64 (1:Int) (d.2.1.length:Int))/\i64.wrap ((x:Int)+(1:Int))=(x':Int))/\ae ((bM d.1 d.2.1 d.2.2.2).1.1)/\ae ((bM d.1 d.2.1 d.2.2.2).1.2.1)/\ae ((bM d.1 d.2.1 d.2.2.2).1.2.2))))))))/\(decide ((x:Int)<dq i64 (1:Int) (d.2.1.length:Int))=false->([],(0:Int),false)=dI d.1 d.2.1 d.2.2.1 d.2.2.2))))):=by
  intro (d:Int×List Int×List Int×Int) hw hp
  obtain⟨f,xs,ys,k⟩:=d
  simp only[exists_const,forall_const,decide_eq_true_eq,decide_eq_false_iff_not,beq_iff_eq,sxS]
  intro _
  rw[Y9]
  refine⟨fun h=>uJ (by rw[h];rfl),fun h=>?_⟩
  rw[Y8 h]
  obtain⟨o7,hl,vf,oZ⟩:=oT h
  obtain⟨hm,tx,mg,he,hn⟩:=kY o7
  have h0:=(nU hm).mod
  refine⟨fun h1=>uJ (by rw[decide_eq_false (show ¬ys.length=xs.length by omega),Bool.and_false];rfl),fun h1=>⟨fun h2=>uJ ?_,fun h2=>⟨by omega,⟨Nat.zero_le _,fun t ht=>absurd ht (by omega)⟩,rfl,fun x hx=>?_⟩⟩⟩
  ·unfold aC
   rw[h2,Bool.and_false,Bool.and_false]
  have v7:=iH hm h2
  have AA:ys.length=xs.length:=by omega
  obtain⟨kk,rfl⟩:=Int.eq_ofNat_of_zero_le (show 0<=k by omega)
  simp only[Int.toNat_natCast] at hx ⊢
  have et:=Nk hl
  rw[Q1 hl]
  refine⟨fun h3=>⟨by omega,⟨rfl,rfl,rfl⟩,fun y hy=>⟨fun h4=>?_,fun h4=>?_⟩⟩,fun h3=>Qm h AA v7 hx (by omega)⟩
  ·have F3:=(sub_sub (xs:=xs) x y (by omega)).length_le
   have aeL:=uA ys xs x y
   rw[List.length_take] at F3
   have hand:zl .i64 (((x/2^y:Nat)):Int) 1=((x/2^y%2:Nat):Int):=UC ⟨x/2^y,by have:=Nat.div_le_self x (2^y);omega⟩
   rw[Ez x y (by omega),hand]
   refine⟨⟨by omega,by omega⟩,by omega,fun h5=>⟨by simp only[List.length_cons,List.length_nil];omega,⟨by omega,by omega⟩,by simp only[List.length_cons,List.length_nil];omega,y+1,by omega,by omega,aG (by omega),zV (by omega),zV (by omega)⟩,fun h5=>⟨y+1,by omega,by omega,aG (by omega),zU (by omega),zU (by omega)⟩⟩
  ·obtain rfl:y=xs.length:=by omega
   have Vf:kT (af f) xs ys kk x=false->∃ x',nA (af f) xs ys kk x'/\2^xs.length-x'<2^xs.length-x/\i64.wrap ((x:Int)+1)=(x':Int) :=
    fun hh=>⟨x+1,N2 hx (by omega) hh,by omega,aG (by omega)⟩
   obtain⟨wc,Yp⟩:=MX o7 AA x
   have hms:gk (af f) (bn xs x xs.length) (bn ys x xs.length)=dL (af f) xs ys x:=rfl
   have WO:pz (fx (af f) (dL (af f) xs ys x) xs xs.length) ys=((wQ (af f) xs ys x:Nat):Int):=Qo (mZ _ _ _ _) AA
   rw[hms,WO,mZ]
   have hsy:aq (af f) (bn ys x xs.length)=true:=by
    have:=H6 (xs:=ys) x
    rw[AA] at this
    exact AL this h2
   refine⟨fun h5=>Vf (by unfold kT;rw[decide_eq_false (by omega)];rfl),fun h5=>⟨⟨⟨f,VU o7 (by omega),rfl⟩,hsy,uA _ _ _ _⟩,fun _=>⟨⟨h0,wc,he,by omega⟩,fun _=>⟨⟨by omega,by omega⟩,fun _=>⟨by decide,?_⟩⟩⟩⟩⟩
   rw[LW (by omega) hl]
   refine⟨fun h7=>⟨by omega,by rw[List.replicate_zero,List.append_nil],fun z hz=>⟨fun h6=>?_,fun h6=>?_⟩⟩,fun h7=>Vf (by unfold kT;rw[decide_eq_false (show ¬wQ (af f) xs ys x<=(xs.length-kk)/2 by omega),Bool.and_false])⟩
   ·rw[List.length_append,List.length_replicate] at h6 ⊢
    refine⟨by simp only[List.length_cons,List.length_nil];omega,z+1,by omega,by omega,?_⟩
    rw[List.append_assoc,List.replicate_succ']
   ·rw[List.length_append,List.length_replicate] at h6
    have hzk:z=kk-(dL (af f) xs ys x).length:=by omega
    have hh:kT (af f) xs ys (kk:Int).toNat x=true:=by
     unfold kT
     rw[Int.toNat_natCast,decide_eq_true (show (bn xs x xs.length).length=kk by omega),decide_eq_true (show wQ (af f) xs ys x<=(xs.length-kk)/2 by omega)];rfl
    rw[Qn h AA v7 (s:=x) (by rw[Int.toNat_natCast];exact hx) (by omega) hh,Int.toNat_natCast,hzk]
    rfl
theorem LL{h:Nat->Bool}{s:Nat}:∀ n,findF h n=some s->h s=true/\s<n
 | 0,e=>by cases e
 | n+1,e=>by
   unfold findF at e
   split at e
   ·rename_i s' h1
    injection e with e
    subst e
    have:=LL n h1
    exact⟨this.1,by omega⟩
   ·split at e
    ·rename_i h2
     injection e with e
     subst e
     exact⟨h2,by omega⟩
    ·cases e
theorem Ze{f:Int}{xs ys:List Int}{k:Int}(h:(dI f xs ys k).2.2=true):eX f xs k=true/\ys.length=xs.length/\aC f ys=true/\∃ s,s<2^xs.length/\kT (af f) xs ys k.toNat s=true/\dI f xs ys k=(Sk (dL (af f) xs ys s) k.toNat,((wQ (af f) xs ys s:Nat):Int),true):=by
 by_cases hc:(eX f xs k&&decide (ys.length=xs.length)&&aC f ys)=true
 ·have fF:=hc
  simp only[Bool.and_eq_true,decide_eq_true_eq] at fF
  refine⟨fF.1.1,fF.1.2,fF.2,?_⟩
  have he:=Hm fF.1.1 fF.1.2 fF.2
  rw[he] at h ⊢
  cases hf:findF (kT (af f) xs ys k.toNat) (2^xs.length) with
  | none=>rw[hf] at h;cases h
  | some s =>
    have:=LL _ hf
    exact⟨s,this.2,this.1,rfl⟩
 ·rw[<-uJ (by simpa using hc)] at h
  cases h
set_option maxRecDepth 10000
theorem wy{f:Int}{a:List Int}(h:aZ f a=true->False):((0,0,0),false)=eJ f a:=by
 unfold eJ;rw[if_neg h]
theorem Sn{f:Int}{a:List Int}:(eJ f a).2=aZ f a:=by
 unfold eJ;split
 ·rename_i h;exact h.symm
 ·rename_i h;exact (Bool.eq_false_iff.2 h).symm
theorem Sm{f:Int}{a:List Int}(h:aZ f a=true):(eJ f a).1.1=af f:=by unfold eJ;rw[if_pos h];rfl
theorem Kw :
 ∀(d:Int×List (List Int)),Ty.wf ai d.1/\Ty.wf (Ty.sl aj) d.2->d.2.length=(1:Nat)->True/\(Ty.wf bW (ar d.1).1/\Ty.wf Ty.bool (ar d.1).2->((!(ar d.1).2)=true->(((0:Int),(0:Int),(0:Int)),false)=eJ d.1 (d.2.getD (0:Nat) []))/\((!(ar d.1).2)=false->((0:Nat)<=(1:Nat)/\((0:Nat)=(1:Nat)->aZ d.1 (d.2.getD (0:Nat) [])=true))/\((d.1=d.1/\d.2=d.2/\ae ((ar d.1).2)/\d.2=d.2/\ae (d.2.length:Int)/\(0:Int)=(↑(0:Nat):Int))/\(ae (0:Int)/\ae (0:Int)/\ae (0:Int))/\ae ((ar d.1).1.1)/\ae ((ar d.1).1.2.1)/\ae ((ar d.1).1.2.2))/\∀(x:Nat),x<=(1:Nat)/\(x=(1:Nat)->aZ d.1 (d.2.getD (0:Nat) [])=true)->(decide ((x:Int)<(d.2.length:Int))=true->((0:Int)<=(x:Int)/\(x:Int)<(d.2.length:Int))/\(decide ((400:Int)<(↑(List.length (d.2.getD ((x:Int).toNat) [])):Int))=true->(((0:Int),(0:Int),(0:Int)),false)=eJ d.1 (d.2.getD (0:Nat) []))/\(decide ((400:Int)<(↑(List.length (d.2.getD ((x:Int).toNat) [])):Int))=false->True/\((!aq (ar d.1).1.1 (d.2.getD ((x:Int).toNat) []))=true->(((0:Int),(0:Int),(0:Int)),false)=eJ d.1 (d.2.getD (0:Nat) []))/\((!aq (ar d.1).1.1 (d.2.getD ((x:Int).toNat) []))=false->(decide ((0:Int)<(↑(List.length (d.2.getD ((x:Int).toNat) [])):Int))=true->((0:Int)<=i64.wrap ((↑(List.length (d.2.getD ((x:Int).toNat) [])):Int)-(1:Int))/\i64.wrap ((↑(List.length (d.2.getD ((x:Int).toNat) [])):Int)-(1:Int))<(↑(List.length (d.2.getD ((x:Int).toNat) [])):Int))/\(decide (List.getD (d.2.getD ((x:Int).toNat) []) (Int.toNat (i64.wrap ((↑(List.length (d.2.getD ((x:Int).toNat) [])):Int)-(1:Int)))) (0:Int)=(0:Int))=true->(((0:Int),(0:Int),(0:Int)),false)=eJ d.1 (d.2.getD (0:Nat) []))/\(decide (List.getD (d.2.getD ((x:Int).toNat) []) (Int.toNat (i64.wrap ((↑(List.length (d.2.getD ((x:Int).toNat) [])):Int)-(1:Int)))) (0:Int)=(0:Int))=false->∃(x':Nat),(x'<=(1:Nat)/\(x'=(1:Nat)->aZ d.1 (d.2.getD (0:Nat) [])=true))/\(1:Nat)-x'<(1:Nat)-x/\(d.1=d.1/\d.2=d.2/\ae ((ar d.1).2)/\d.2=d.2/\ae (d.2.length:Int)/\i64.wrap ((x:Int)+(1:Int))=(x':Int))/\(ae (0:Int)/\ae (0:Int)/\ae (0:Int))/\ae ((ar d.1).1.1)/\ae ((ar d.1).1.2.1)/\ae ((ar d.1).1.2.2)))/\(decide ((0:Int)<(↑(List.length (d.2.getD ((x:Int).toNat) [])):Int))=false->∃(x':Nat),(x'<=(1:Nat)/\(x'=(1:Nat)->aZ d.1 (d.2.getD (0:Nat) [])=true))/\(1:Nat)-x'<(1:Nat)-x/\(d.1=d.1/\d.2=d.2/\ae ((ar d.1).2)/\d.2=d.2/\ae (d.2.length:Int)/\i64.wrap ((x:Int)+(1:Int))=(x':Int))/\(ae (0:Int)/\ae (0:Int)/\ae (0:Int))/\ae ((ar d.1).1.1)/\ae ((ar d.1).1.2.1)/\ae ((ar d.1).1.2.2)))))/\(decide ((x:Int)<(d.2.length:Int))=false->(Prod.fst (ar d.1),true)=eJ d.1 (d.2.getD (0:Nat) [])))):=by
  intro (d:Int×List (List Int)) hw hp
  obtain⟨f,vs⟩:=d
  replace hp:vs.length=1:=hp
  obtain⟨v,rfl⟩:∃ v,vs=[v]:=by
   match vs,hp with
   | [v],_=>exact⟨v,rfl⟩
  have hl:v.length<=9223372036854775807:=(hw.2.2 v (List.mem_cons_self ..)).1
  simp only[exists_const,forall_const,decide_eq_true_eq,decide_eq_false_iff_not,beq_iff_eq,sxS]
  intro _
  simp only[List.getD_cons_zero]
  refine⟨fun h=>wy (fun hh=>?_),fun h=>?_⟩
  ·have hn:¬(0<=f/\f<9):=fun hh=>by rw[fU.2 hh] at h;cases h
   exact (c6 hh).1 (oL hn)
  ·have hf:=fU.1 h
   have hb:=kr hf
   have AB:af f≠0:=by omega
   refine⟨⟨by omega,fun h=>by omega⟩,rfl,fun x hx=>⟨fun aT=>?_,fun jV=>?_⟩⟩
   ·have Jl:x=0:=by simp at aT;omega
    subst Jl
    simp only[List.getD_cons_zero,List.length_cons,List.length_nil,Int.toNat_zero] at *
    refine⟨⟨by omega,by omega⟩,fun h3=>wy (fun hh=>?_),fun h3=>⟨fun h4=>wy (fun hh=>?_),fun h4=>⟨fun h5=>?_,fun h5=>⟨1,⟨by omega,fun _=>?_⟩,by omega,rfl⟩⟩⟩⟩
    ·have:=(c6 hh).2.2.1;omega
    ·have:=(c6 hh).2.1
     rw[show aq (af f) v=false from h4] at this;cases this
    ·have e1:IntKind.wrap i64 ((v.length:Int)-1)=((v.length-1:Nat):Int):=by rw[wrap_small (by omega)];omega
     rw[e1]
     refine⟨⟨by omega,by omega⟩,fun h6=>wy (fun hh=>?_),fun h6=>⟨1,⟨by omega,fun _=>?_⟩,by omega,rfl⟩⟩
     ·rcases (ju v).1 (c6 hh).2.2.2 with h7|h7
      ·omega
      ·exact h7 h6
     ·exact lK AB h4 (by omega) ((ju v).2 (.inr h6))
    ·exact lK AB h4 (by omega) ((ju v).2 (.inl (by omega)))
   ·have nz:x=1:=by simp at jV;omega
    have:=hx.2 nz
    unfold eJ
    rw[if_pos this]
theorem Od :
 ∀(d:Int×List Int×List Int),Ty.wf ai d.1/\Ty.wf aj d.2.1/\Ty.wf aj d.2.2->True->List.length [d.2.1]=(1:Nat)/\(Ty.wf bW (eJ d.1 (List.getD [d.2.1] (0:Nat) [])).1/\Ty.wf Ty.bool (eJ d.1 (List.getD [d.2.1] (0:Nat) [])).2->((!(eJ d.1 (List.getD [d.2.1] (0:Nat) [])).2)=true->[]=mw d.1 d.2.1 d.2.2)/\((!(eJ d.1 (List.getD [d.2.1] (0:Nat) [])).2)=false->(decide ((40:Int)<(d.2.2.length:Int))=true->[]=mw d.1 d.2.1 d.2.2)/\(decide ((40:Int)<(d.2.2.length:Int))=false->True/\((!aq (eJ d.1 (List.getD [d.2.1] (0:Nat) [])).1.1 d.2.2)=true->[]=mw d.1 d.2.1 d.2.2)/\((!aq (eJ d.1 (List.getD [d.2.1] (0:Nat) [])).1.1 d.2.2)=false->(au (eJ d.1 (List.getD [d.2.1] (0:Nat) [])).1.1/\aq (eJ d.1 (List.getD [d.2.1] (0:Nat) [])).1.1 d.2.1=true/\aq (eJ d.1 (List.getD [d.2.1] (0:Nat) [])).1.1 d.2.2=true/\d.2.2.length<=(1000:Nat))/\(Ty.wf aj (fx (eJ d.1 (List.getD [d.2.1] (0:Nat) [])).1.1 d.2.1 d.2.2 d.2.2.length)->fx (eJ d.1 (List.getD [d.2.1] (0:Nat) [])).1.1 d.2.1 d.2.2 d.2.2.length=mw d.1 d.2.1 d.2.2))))):=by
  intro (d:Int×List Int×List Int) hw hp
  obtain⟨f,a,xs⟩:=d
  simp only[exists_const,forall_const,decide_eq_true_eq,decide_eq_false_iff_not,beq_iff_eq,sxS]
  refine⟨rfl,fun _=>?_⟩
  simp only[List.getD_cons_zero]
  rw[Sn]
  have no:((aZ f a&&decide (xs.length<=40)&&aC f xs)=true->False)->[]=mw f a xs:=fun h=>by unfold mw;rw[if_neg h]
  refine⟨fun h=>no (fun hh=>?_),fun h=>⟨fun h1=>no (fun hh=>?_),fun h1=>?_⟩⟩
  ·rw[h] at hh;cases hh
  ·simp only[Bool.and_eq_true,decide_eq_true_eq] at hh;omega
  ·obtain⟨hm,he,_,_⟩:=c6 h
   rw[Sm h]
   refine⟨fun h2=>no (fun hh=>?_),fun h2=>⟨⟨(b9 hm).1,he,h2,by omega⟩,fun _=>?_⟩⟩
   ·simp only[Bool.and_eq_true] at hh
    rw[(jt hh.2).2] at h2;cases h2
   ·unfold mw
    rw[if_pos (by rw[h,decide_eq_true (show xs.length<=40 by omega),iH hm h2];rfl)]
theorem vy{f:Int}{ls:List (List Int)}:(cG f ls).2=true↔af f≠0/\∀ v∈ls,aZ f v=true:=by
 unfold cG
 constructor
 ·intro h
  split at h
  ·rename_i h1
   simpa only[Bool.and_eq_true,decide_eq_true_eq] using h1
  ·cases h
 ·intro h
  rw[if_pos (by simpa only[Bool.and_eq_true,decide_eq_true_eq] using h)]
theorem Nd{f:Int}{ls:List (List Int)}(h:¬(af f≠0/\∀ v∈ls,aZ f v=true)):((0,0,0),false)=cG f ls:=by
 unfold cG
 rw[if_neg (by simpa only[Bool.and_eq_true,decide_eq_true_eq] using h)]
theorem BX{f:Int}{ls:List (List Int)}(h:af f≠0/\∀ v∈ls,aZ f v=true):((ar f).1,true)=cG f ls:=by
 unfold cG
 rw[if_pos (by simpa only[Bool.and_eq_true,decide_eq_true_eq] using h)]
theorem T8{ls:List (List Int)}{x:Nat}(h:x<ls.length):ls.getD x []∈ls:=by
 rw[List.getD_eq_getElem?_getD,List.getElem?_eq_getElem h]
 exact List.getElem_mem _
theorem BW{f:Int}{ls:List (List Int)}{x:Nat}(h:x<ls.length)(hb:aZ f (ls.getD x [])=true->False):((0,0,0),false)=cG f ls:=Nd (fun hh=>hb (hh.2 _ (T8 h)))
theorem VM{f:Int}{a:List Int}:(ji f [a]).2=true↔jU f a=true:=by
 unfold ji
 rw[List.getD_cons_zero]
 split
 ·rename_i h;exact⟨fun _=>h,fun _=>rfl⟩
 ·rename_i h;exact⟨fun e=>(by cases e),fun e=>absurd e h⟩
theorem ZU{f:Int}{a:List Int}(h:jU f a=true):(ji f [a]).1.1=af f:=by
 unfold ji
 rw[List.getD_cons_zero,if_pos h];rfl
theorem acw{f:Int}{a:List Int}(h1:1<=a.length)(h2:a.length<=64)(hm:af f≠0)(he:aq (af f) a=true):jU f a=true:=by
 unfold jU
 simp only[Bool.and_eq_true,decide_eq_true_eq]
 exact⟨⟨h1,h2⟩,iH hm he⟩
theorem C3{f:Int}{a:List Int}(h:¬jU f a=true):((0,0,0),false)=ji f [a]:=by
 unfold ji
 rw[List.getD_cons_zero,if_neg h]
theorem Ij :
 ∀(d:Int×List (List Int)),Ty.wf ai d.1/\Ty.wf (Ty.sl aj) d.2->d.2.length=(1:Nat)\/d.2.length=(2:Nat)->True/\(Ty.wf bW (ar d.1).1/\Ty.wf Ty.bool (ar d.1).2->((!(ar d.1).2)=true->(((0:Int),(0:Int),(0:Int)),false)=cG d.1 d.2)/\((!(ar d.1).2)=false->((0:Nat)<=d.2.length/\CB d.1 d.2 (0:Nat))/\((d.1=d.1/\d.2=d.2/\ae ((ar d.1).2)/\d.2=d.2/\ae (d.2.length:Int)/\(0:Int)=(↑(0:Nat):Int))/\(ae (0:Int)/\ae (0:Int)/\ae (0:Int))/\ae ((ar d.1).1.1)/\ae ((ar d.1).1.2.1)/\ae ((ar d.1).1.2.2))/\∀(x:Nat),x<=d.2.length/\CB d.1 d.2 x->(decide ((x:Int)<(d.2.length:Int))=true->((0:Int)<=(x:Int)/\(x:Int)<(d.2.length:Int))/\(decide ((400:Int)<(↑(List.length (d.2.getD ((x:Int).toNat) [])):Int))=true->(((0:Int),(0:Int),(0:Int)),false)=cG d.1 d.2)/\(decide ((400:Int)<(↑(List.length (d.2.getD ((x:Int).toNat) [])):Int))=false->True/\((!aq (ar d.1).1.1 (d.2.getD ((x:Int).toNat) []))=true->(((0:Int),(0:Int),(0:Int)),false)=cG d.1 d.2)/\((!aq (ar d.1).1.1 (d.2.getD ((x:Int).toNat) []))=false->(decide ((0:Int)<(↑(List.length (d.2.getD ((x:Int).toNat) [])):Int))=true->((0:Int)<=i64.wrap ((↑(List.length (d.2.getD ((x:Int).toNat) [])):Int)-(1:Int))/\i64.wrap ((↑(List.length (d.2.getD ((x:Int).toNat) [])):Int)-(1:Int))<(↑(List.length (d.2.getD ((x:Int).toNat) [])):Int))/\(decide (List.getD (d.2.getD ((x:Int).toNat) []) (Int.toNat (i64.wrap ((↑(List.length (d.2.getD ((x:Int).toNat) [])):Int)-(1:Int)))) (0:Int)=(0:Int))=true->(((0:Int),(0:Int),(0:Int)),false)=cG d.1 d.2)/\(decide (List.getD (d.2.getD ((x:Int).toNat) []) (Int.toNat (i64.wrap ((↑(List.length (d.2.getD ((x:Int).toNat) [])):Int)-(1:Int)))) (0:Int)=(0:Int))=false->∃(x':Nat),(x'<=d.2.length/\CB d.1 d.2 x')/\d.2.length-x'<d.2.length-x/\(d.1=d.1/\d.2=d.2/\ae ((ar d.1).2)/\d.2=d.2/\ae (d.2.length:Int)/\i64.wrap ((x:Int)+(1:Int))=(x':Int))/\(ae (0:Int)/\ae (0:Int)/\ae (0:Int))/\ae ((ar d.1).1.1)/\ae ((ar d.1).1.2.1)/\ae ((ar d.1).1.2.2)))/\(decide ((0:Int)<(↑(List.length (d.2.getD ((x:Int).toNat) [])):Int))=false->∃(x':Nat),(x'<=d.2.length/\CB d.1 d.2 x')/\d.2.length-x'<d.2.length-x/\(d.1=d.1/\d.2=d.2/\ae ((ar d.1).2)/\d.2=d.2/\ae (d.2.length:Int)/\i64.wrap ((x:Int)+(1:Int))=(x':Int))/\(ae (0:Int)/\ae (0:Int)/\ae (0:Int))/\ae ((ar d.1).1.1)/\ae ((ar d.1).1.2.1)/\ae ((ar d.1).1.2.2)))))/\(decide ((x:Int)<(d.2.length:Int))=false->(Prod.fst (ar d.1),true)=cG d.1 d.2))):=by
  intro d hw hp
  obtain⟨f,ls⟩:=d
  replace hp:ls.length=1\/ls.length=2:=hp
  have hl:∀ v∈ls,v.length<=9223372036854775807:=fun v hv=>(hw.2.2 v hv).1
  simp only[exists_const,forall_const,decide_eq_true_eq,decide_eq_false_iff_not,beq_iff_eq,sxS]
  intro _
  refine⟨fun h=>Nd (fun hh=>?_),fun h=>?_⟩
  ·rw[u7.2 hh.1] at h;cases h
  ·have hm:=u7.1 h
   refine⟨⟨by omega,fun i hi=>absurd hi (Nat.not_lt_zero _)⟩,rfl,fun x hx=>⟨fun aT=>?_,fun jV=>?_⟩⟩
   ·have we:x<ls.length:=by omega
    have hv:=hl _ (T8 we)
    have step:aZ f (ls.getD x [])=true->∃ x',(x'<=ls.length/\CB f ls x')/\ls.length-x'<ls.length-x/\i64.wrap ((x:Int)+1)=(x':Int):=fun hb =>
     ⟨x+1,⟨by omega,fun i hi=>by
       rcases Nat.lt_or_ge i x with h1|h1
       ·exact hx.2 i h1
       ·rw[show i=x by omega];exact hb⟩,by omega,aG (by omega)⟩
    generalize hvg:ls.getD x []=v at *
    refine⟨⟨by omega,by omega⟩,fun h3=>BW we (fun hh=>?_),fun h3=>⟨fun h4=>BW we (fun hh=>?_),fun h4=>⟨fun h5=>?_,fun h5=>?_⟩⟩⟩
    ·rw[hvg] at hh
     have:=(c6 hh).2.2.1;omega
    ·rw[hvg] at hh
     have:=(c6 hh).2.1
     rw[show aq (af f) v=false from h4] at this;cases this
    ·have e1:IntKind.wrap i64 ((v.length:Int)-1)=((v.length-1:Nat):Int):=by rw[wrap_small (by omega)];omega
     rw[e1]
     refine⟨⟨by omega,by omega⟩,fun h6=>BW we (fun hh=>?_),fun h6=>step (lK hm h4 (by omega) ((ju v).2 (.inr h6)))⟩
     rw[hvg] at hh
     rcases (ju v).1 (c6 hh).2.2.2 with h7|h7
     ·omega
     ·exact h7 h6
    ·exact step (lK hm h4 (by omega) ((ju v).2 (.inl (by omega))))
   ·refine BX ⟨hm,fun v hv=>?_⟩
    obtain⟨i,hi,rfl⟩:=List.getElem_of_mem hv
    have:=hx.2 i (by omega)
    rw[List.getD_eq_getElem?_getD,List.getElem?_eq_getElem hi] at this
    exact this
theorem S9 :
 ∀(d:Int×List Int),Ty.wf ai d.1/\Ty.wf aj d.2->True->(List.length [d.2]=(1:Nat)\/List.length [d.2]=(2:Nat))/\(Ty.wf bW (cG d.1 [d.2]).1/\Ty.wf Ty.bool (cG d.1 [d.2]).2->(cG d.1 [d.2]).2=aZ d.1 d.2):=by
  intro (d:Int×List Int) hw hp
  obtain⟨f,a⟩:=d
  simp only[exists_const,forall_const,decide_eq_true_eq,decide_eq_false_iff_not,beq_iff_eq,sxS]
  refine⟨.inl rfl,fun _=>?_⟩
  rw[Bool.eq_iff_iff,vy]
  exact⟨fun h=>h.2 a (List.mem_singleton.2 rfl),fun h=>⟨(c6 h).1,fun v hv=>by rw[List.mem_singleton.1 hv];exact h⟩⟩
theorem S8 :
 ∀(d:Int×List Int×List Int),Ty.wf ai d.1/\Ty.wf aj d.2.1/\Ty.wf aj d.2.2->True->(List.length [d.2.1,d.2.2]=(1:Nat)\/List.length [d.2.1,d.2.2]=(2:Nat))/\(Ty.wf bW (cG d.1 [d.2.1,d.2.2]).1/\Ty.wf Ty.bool (cG d.1 [d.2.1,d.2.2]).2->((!(cG d.1 [d.2.1,d.2.2]).2)=true->([],[],false)=cy d.1 d.2.1 d.2.2)/\((!(cG d.1 [d.2.1,d.2.2]).2)=false->(decide ((d.2.2.length:Int)=(0:Int))=true->([],[],false)=cy d.1 d.2.1 d.2.2)/\(decide ((d.2.2.length:Int)=(0:Int))=false->Rj (cG d.1 [d.2.1,d.2.2]).1.1 d.2.1 d.2.2/\(Ty.wf aj (hU (cG d.1 [d.2.1,d.2.2]).1.1 d.2.1 d.2.2).1/\Ty.wf aj (hU (cG d.1 [d.2.1,d.2.2]).1.1 d.2.1 d.2.2).2->(Prod.fst (hU (cG d.1 [d.2.1,d.2.2]).1.1 d.2.1 d.2.2),(hU (cG d.1 [d.2.1,d.2.2]).1.1 d.2.1 d.2.2).2,true)=cy d.1 d.2.1 d.2.2)))):=by
  intro (d:Int×List Int×List Int) hw hp
  obtain⟨f,a,b⟩:=d
  simp only[exists_const,forall_const,decide_eq_true_eq,decide_eq_false_iff_not,beq_iff_eq,sxS]
  refine⟨.inr rfl,fun _=>⟨fun h=>?_,fun h=>?_⟩⟩
  ·unfold cy
   rw[if_neg (fun hh=>?_)]
   simp only[Bool.and_eq_true,decide_eq_true_eq] at hh
   have:(cG f [a,b]).2=true:=vy.2 ⟨(c6 hh.1.1).1,fun v hv=>by
    rcases List.mem_cons.1 hv with h1|h1
    ·rw[h1];exact hh.1.1
    ·rw[List.mem_singleton.1 h1];exact hh.1.2⟩
   rw[h] at this;cases this
  ·have hk:=vy.1 h
   have ha:=hk.2 a (List.mem_cons_self ..)
   have hb:=hk.2 b (List.mem_cons_of_mem _ (List.mem_cons_self ..))
   have QB:(cG f [a,b]).1.1=af f:=by rw[<-BX hk];rfl
   rw[QB]
   refine⟨fun h1=>?_,fun h1=>⟨⟨f,rfl,ha,hb,by omega⟩,fun _=>?_⟩⟩
   ·unfold cy
    rw[if_neg (fun hh=>?_)]
    simp only[Bool.and_eq_true,decide_eq_true_eq] at hh
    omega
   ·unfold cy
    rw[if_pos (by simp only[Bool.and_eq_true,decide_eq_true_eq];exact⟨⟨ha,hb⟩,by omega⟩)]
theorem G0 :
 ∀(d:Int×List (List Int)),Ty.wf ai d.1/\Ty.wf (Ty.sl aj) d.2->d.2.length=(1:Nat)->True/\(Ty.wf bW (ar d.1).1/\Ty.wf Ty.bool (ar d.1).2->((!(ar d.1).2)=true->(((0:Int),(0:Int),(0:Int)),false)=ji d.1 d.2)/\((!(ar d.1).2)=false->((0:Nat)<=(1:Nat)/\((0:Nat)=(1:Nat)->jU d.1 (d.2.getD (0:Nat) [])=true))/\((d.1=d.1/\d.2=d.2/\ae ((ar d.1).2)/\d.2=d.2/\ae (d.2.length:Int)/\(0:Int)=(↑(0:Nat):Int))/\(ae (0:Int)/\ae (0:Int)/\ae (0:Int))/\ae ((ar d.1).1.1)/\ae ((ar d.1).1.2.1)/\ae ((ar d.1).1.2.2))/\∀(x:Nat),x<=(1:Nat)/\(x=(1:Nat)->jU d.1 (d.2.getD (0:Nat) [])=true)->(decide ((x:Int)<(d.2.length:Int))=true->((0:Int)<=(x:Int)/\(x:Int)<(d.2.length:Int))/\(decide ((↑(List.length (d.2.getD ((x:Int).toNat) [])):Int)<(1:Int))=true->(((0:Int),(0:Int),(0:Int)),false)=ji d.1 d.2)/\(decide ((↑(List.length (d.2.getD ((x:Int).toNat) [])):Int)<(1:Int))=false->(decide ((64:Int)<(↑(List.length (d.2.getD ((x:Int).toNat) [])):Int))=true->(((0:Int),(0:Int),(0:Int)),false)=ji d.1 d.2)/\(decide ((64:Int)<(↑(List.length (d.2.getD ((x:Int).toNat) [])):Int))=false->True/\((!aq (ar d.1).1.1 (d.2.getD ((x:Int).toNat) []))=true->(((0:Int),(0:Int),(0:Int)),false)=ji d.1 d.2)/\((!aq (ar d.1).1.1 (d.2.getD ((x:Int).toNat) []))=false->((0:Int)<=(0:Int)/\(0:Int)<(d.2.length:Int))/\((!decide ((↑(List.length (d.2.getD ((x:Int).toNat) [])):Int)=(↑(List.length (d.2.getD ((0:Int).toNat) [])):Int)))=true->(((0:Int),(0:Int),(0:Int)),false)=ji d.1 d.2)/\((!decide ((↑(List.length (d.2.getD ((x:Int).toNat) [])):Int)=(↑(List.length (d.2.getD ((0:Int).toNat) [])):Int)))=false->∃(x':Nat),(x'<=(1:Nat)/\(x'=(1:Nat)->jU d.1 (d.2.getD (0:Nat) [])=true))/\(1:Nat)-x'<(1:Nat)-x/\(d.1=d.1/\d.2=d.2/\ae ((ar d.1).2)/\d.2=d.2/\ae (d.2.length:Int)/\i64.wrap ((x:Int)+(1:Int))=(x':Int))/\(ae (0:Int)/\ae (0:Int)/\ae (0:Int))/\ae ((ar d.1).1.1)/\ae ((ar d.1).1.2.1)/\ae ((ar d.1).1.2.2))))))/\(decide ((x:Int)<(d.2.length:Int))=false->(Prod.fst (ar d.1),true)=ji d.1 d.2))):=by
  intro (d:Int×List (List Int)) hw hp
  obtain⟨f,vs⟩:=d
  replace hp:vs.length=1:=hp
  obtain⟨v,rfl⟩:∃ v,vs=[v]:=by
   match vs,hp with
   | [v],_=>exact⟨v,rfl⟩
  simp only[exists_const,forall_const,decide_eq_true_eq,decide_eq_false_iff_not,beq_iff_eq,sxS]
  intro _
  simp only[List.getD_cons_zero,Int.toNat_zero]
  refine⟨fun h=>C3 (fun hh=>?_),fun h=>?_⟩
  ·rw[u7.2 (yz hh).2.2.1] at h;cases h
  ·have hm:=u7.1 h
   refine⟨⟨by omega,fun h=>by omega⟩,rfl,fun x hx=>⟨fun aT=>?_,fun jV=>?_⟩⟩
   ·have Jl:x=0:=by simp at aT;omega
    subst Jl
    simp only[List.getD_cons_zero,List.length_cons,List.length_nil] at *
    refine⟨⟨by omega,by omega⟩,fun h3=>C3 (fun hh=>?_),fun h3=>⟨fun h4=>C3 (fun hh=>?_),fun h4=>⟨fun h5=>C3 (fun hh=>?_),fun h5=>⟨⟨by omega,by omega⟩,fun h6=>absurd (by trivial) h6,fun _=>⟨1,⟨by omega,fun _=>?_⟩,by omega,rfl⟩⟩⟩⟩⟩
    ·have:=(yz hh).1;omega
    ·have:=(yz hh).2.1;omega
    ·have:=(yz hh).2.2.2
     rw[show aq (af f) v=false from h5] at this;cases this
    ·exact acw (by omega) (by omega) hm h5
   ·have nz:x=1:=by simp at jV;omega
    have:=hx.2 nz
    unfold ji
    rw[List.getD_cons_zero,if_pos this]
theorem Kr :
 ∀(d:Int×List Int),Ty.wf ai d.1/\Ty.wf aj d.2->True->List.length [d.2]=(1:Nat)/\(Ty.wf bW (ji d.1 [d.2]).1/\Ty.wf Ty.bool (ji d.1 [d.2]).2->((!(ji d.1 [d.2]).2)=true->([],false)=c_ d.1 d.2)/\((!(ji d.1 [d.2]).2)=false->((0:Int)<=(0:Int)/\(0:Int)<(d.2.length:Int))/\(decide (d.2.getD ((0:Int).toNat) (0:Int)=(0:Int))=true->([],false)=c_ d.1 d.2)/\(decide (d.2.getD ((0:Int).toNat) (0:Int)=(0:Int))=false->(au (ji d.1 [d.2]).1.1/\aq (ji d.1 [d.2]).1.1 d.2=true/\(1:Nat)<=d.2.length/\d.2.length<=(64:Nat))/\(Ty.wf aj (ck (ji d.1 [d.2]).1.1 d.2 d.2.length)->(ck (ji d.1 [d.2]).1.1 d.2 d.2.length,true)=c_ d.1 d.2)))):=by
  intro (d:Int×List Int) hw hp
  obtain⟨f,a⟩:=d
  simp only[exists_const,forall_const,decide_eq_true_eq,decide_eq_false_iff_not,beq_iff_eq,sxS]
  refine⟨rfl,fun _=>⟨fun h=>?_,fun h=>?_⟩⟩
  ·exact (K8 (fun hh=>by rw[VM.2 hh.1] at h;cases h)).symm
  ·have hs:=VM.1 h
   obtain⟨h1,h2,hm,he⟩:=yz hs
   rw[ZU hs]
   refine⟨⟨by omega,by omega⟩,fun h0=>(K8 (fun hh=>hh.2 h0)).symm,fun h0=>⟨⟨(b9 hm).1,he,h1,h2⟩,fun _=>(VP hs h0).symm⟩⟩
theorem OA :
 ∀(d:Int×List Int×List Int),Ty.wf ai d.1/\Ty.wf aj d.2.1/\Ty.wf aj d.2.2->True->True/\((!aZ d.1 d.2.1)=true->[]=ez d.1 d.2.1 d.2.2)/\((!aZ d.1 d.2.1)=false->(decide ((40:Int)<(d.2.2.length:Int))=true->[]=ez d.1 d.2.1 d.2.2)/\(decide ((40:Int)<(d.2.2.length:Int))=false->True/\((!aC d.1 d.2.2)=true->[]=ez d.1 d.2.1 d.2.2)/\((!aC d.1 d.2.2)=false->(0:Nat)<=d.2.2.length/\((d.1=d.1/\ae d.2.1/\ae d.2.2/\aQ/\(0:Int)=(↑(0:Nat):Int))/\[]=fx (af d.1) d.2.1 d.2.2 (0:Nat))/\∀(x:Nat),x<=d.2.2.length->(decide ((x:Int)<(d.2.2.length:Int))=true->((0:Int)<=(x:Int)/\(x:Int)<(d.2.2.length:Int))/\True/\(Ty.wf ai (vT d.1 d.2.1 (d.2.2.getD ((x:Int).toNat) (0:Int)))->(List.length (fx (af d.1) d.2.1 d.2.2 x)+List.length [vT d.1 d.2.1 (d.2.2.getD ((x:Int).toNat) (0:Int))])*(8:Nat)<=(140737488355328:Nat)/\∃(x':Nat),x'<=d.2.2.length/\d.2.2.length-x'<d.2.2.length-x/\(d.1=d.1/\ae d.2.1/\ae d.2.2/\aQ/\i64.wrap ((x:Int)+(1:Int))=(x':Int))/\fx (af d.1) d.2.1 d.2.2 x++[vT d.1 d.2.1 (d.2.2.getD ((x:Int).toNat) (0:Int))]=fx (af d.1) d.2.1 d.2.2 x'))/\(decide ((x:Int)<(d.2.2.length:Int))=false->fx (af d.1) d.2.1 d.2.2 x=ez d.1 d.2.1 d.2.2)))):=by
  intro (d:Int×List Int×List Int) hw hp
  obtain⟨f,a,xs⟩:=d
  simp only[exists_const,forall_const,decide_eq_true_eq,decide_eq_false_iff_not,beq_iff_eq,sxS]
  have no:¬(aZ f a=true/\xs.length<=40/\aC f xs=true)->[]=ez f a xs:=fun h=>by
   unfold ez m3
   rw[if_neg (fun hh=>h ?_)]
   simp only[Bool.and_eq_true,decide_eq_true_eq] at hh
   exact⟨hh.1.1,hh.1.2,hh.2⟩
  refine⟨fun h=>no (by simp[h]),fun h=>⟨fun h1=>no (by omega),fun h1=>⟨fun h2=>no (by simp[h2]),fun h2=>⟨by omega,⟨rfl,rfl⟩,fun x hx=>⟨fun h3=>⟨⟨by omega,by omega⟩,fun _=>⟨?_,x+1,by omega,by omega,aG (by omega),?_⟩⟩,fun h3=>?_⟩⟩⟩⟩⟩
  ·rw[mZ]
   simp only[List.length_cons,List.length_nil];omega
  ·rw[show vT f a (xs.getD x 0)=sn (af f) a (xs.getD x 0) by unfold vT;rw[if_pos h]]
   exact Ed _ _ _ _
  ·unfold ez m3
   rw[if_pos (by simp only[Bool.and_eq_true,decide_eq_true_eq];exact⟨⟨h,by omega⟩,h2⟩),show x=xs.length by omega]
theorem Jy{p:Int}{a b:List Int}:∀ j,j<=a.length-1->fL p a b (a.length+b.length-2) j=0
 | 0,_=>rfl
 | j+1,h=>by rw[wz (by omega)];exact Jy j (by omega)
theorem Vb{f:Int}{a b:List Int}(ha:aZ f a=true)(hb:aZ f b=true)(h0:0<a.length)(h1:0<b.length):jk (fq (af f) a b (a.length+b.length-1))=true:=by
 obtain⟨hm,qv,_,Uy⟩:=c6 ha
 obtain⟨_,lp,_,htb⟩:=c6 hb
 have xZ:=nU hm
 have hp:=xZ.mod
 refine VW (fun _=>?_)
 rw[wu]
 unfold fq
 rw[qd,if_pos (by omega),show a.length+b.length-1-1=a.length+b.length-2 by omega,Nat.min_eq_right (by omega),show a.length=(a.length-1)+1 by omega]
 have e:fL (af f) a b (a.length-1+1+b.length-2) (a.length-1+1)=a.getD (a.length-1) 0*b.getD (b.length-1) 0%af f:=by
  rw[show a.length-1+1+b.length-2=a.length+b.length-2 by omega,sI (by omega),Jy _ (Nat.le_refl _),Int.zero_add,show a.length+b.length-2-(a.length-1)=b.length-1 by omega]
 rw[e]
 intro hz
 have xa:=fc hp qv (a.length-1)
 have xb:=fc hp lp (b.length-1)
 unfold El at xa xb
 rcases xZ.pr _ _ hz with h|h
 ·rw[Int.emod_eq_of_lt xa.1 xa.2] at h;exact vG Uy h0 h
 ·rw[Int.emod_eq_of_lt xb.1 xb.2] at h;exact vG htb h1 h
theorem MY{f:Int}{a b:List Int}(ha:aZ f a=true)(hb:aZ f b=true)(h0:¬(a.length=0\/b.length=0)):(ee (af f) a b).length=a.length+b.length-1:=by
 have ht:=Vb ha hb (by omega) (by omega)
 unfold ee
 rw[if_neg h0,oP]
 unfold jk at ht
 rw[of_decide_eq_true ht,wu]
theorem Pq :
 ∀(d:Int×List Int×List Int),Ty.wf ai d.1/\Ty.wf aj d.2.1/\Ty.wf aj d.2.2->True->(List.length [d.2.1,d.2.2]=(1:Nat)\/List.length [d.2.1,d.2.2]=(2:Nat))/\(Ty.wf bW (cG d.1 [d.2.1,d.2.2]).1/\Ty.wf Ty.bool (cG d.1 [d.2.1,d.2.2]).2->((!(cG d.1 [d.2.1,d.2.2]).2)=true->([],false)=ef d.1 d.2.1 d.2.2)/\((!(cG d.1 [d.2.1,d.2.2]).2)=false->(au (cG d.1 [d.2.1,d.2.2]).1.1/\aq (cG d.1 [d.2.1,d.2.2]).1.1 d.2.1=true/\aq (cG d.1 [d.2.1,d.2.2]).1.1 d.2.2=true/\d.2.1.length<=(1000:Nat)/\d.2.2.length<=(1000:Nat))/\(Ty.wf aj (ee (cG d.1 [d.2.1,d.2.2]).1.1 d.2.1 d.2.2)->(decide ((400:Int)<(↑(List.length (ee (cG d.1 [d.2.1,d.2.2]).1.1 d.2.1 d.2.2)):Int))=true->([],false)=ef d.1 d.2.1 d.2.2)/\(decide ((400:Int)<(↑(List.length (ee (cG d.1 [d.2.1,d.2.2]).1.1 d.2.1 d.2.2)):Int))=false->(ee (cG d.1 [d.2.1,d.2.2]).1.1 d.2.1 d.2.2,true)=ef d.1 d.2.1 d.2.2)))):=by
  intro (d:Int×List Int×List Int) hw hp
  obtain⟨f,a,b⟩:=d
  simp only[exists_const,forall_const,decide_eq_true_eq,decide_eq_false_iff_not,beq_iff_eq,sxS]
  refine⟨.inr rfl,fun _=>⟨fun h=>?_,fun h=>?_⟩⟩
  ·unfold ef
   rw[if_neg (fun hh=>?_)]
   simp only[Bool.and_eq_true,decide_eq_true_eq] at hh
   have:(cG f [a,b]).2=true:=vy.2 ⟨(c6 hh.1.1).1,fun v hv=>by
    rcases List.mem_cons.1 hv with h1|h1
    ·rw[h1];exact hh.1.1
    ·rw[List.mem_singleton.1 h1];exact hh.1.2⟩
   rw[h] at this;cases this
  ·have hk:=vy.1 h
   have ha:=hk.2 a (List.mem_cons_self ..)
   have hb:=hk.2 b (List.mem_cons_of_mem _ (List.mem_cons_self ..))
   have QB:(cG f [a,b]).1.1=af f:=by rw[<-BX hk];rfl
   rw[QB]
   obtain⟨hm,qv,hla,_⟩:=c6 ha
   obtain⟨_,lp,FX,_⟩:=c6 hb
   refine⟨⟨(b9 hm).1,qv,lp,by omega,by omega⟩,fun _=>⟨fun h1=>?_,fun h1=>?_⟩⟩
   ·unfold ef
    rw[if_neg (fun hh=>?_)]
    simp only[Bool.and_eq_true,decide_eq_true_eq] at hh
    by_cases h0:a.length=0\/b.length=0
    ·unfold ee at h1
     rw[if_pos h0] at h1
     simp at h1
    ·rw[MY ha hb h0] at h1
     omega
   ·unfold ef
    rw[if_pos ?_]
    simp only[Bool.and_eq_true,decide_eq_true_eq]
    refine⟨⟨ha,hb⟩,?_⟩
    by_cases h0:a.length=0\/b.length=0
    ·omega
    ·rw[MY ha hb h0] at h1
     omega
theorem XO(f:Int)(a b:List Int):(aR f [a,b]).2=eN f a b:=by
 have h:uf f [a,b]=eN f a b:=by
  rw[Bool.eq_iff_iff]
  unfold uf eN
  simp only[decide_eq_true_eq,Bool.and_eq_true,List.getD_cons_zero]
  constructor
  ·intro h
   have h1:=h a (List.mem_cons_self ..)
   have h2:=h b (List.mem_cons_of_mem _ (List.mem_cons_self ..))
   exact⟨⟨h2.2.symm,h1.1⟩,h2.1⟩
  ·rintro⟨⟨h1,h2⟩,h3⟩ v hv
   rcases List.mem_cons.1 hv with h4|h4
   ·rw[h4];exact⟨h2,rfl⟩
   ·rw[List.mem_singleton.1 h4];exact⟨h3,h1.symm⟩
 unfold aR
 rw[<-h]
 cases uf f [a,b]<;>rfl
theorem iS{k:Bool}{o m:List Int}(h:k=false):kq k o m=(2,[],[]):=by rw[h];rfl
theorem jQ{k:Bool}{o m:List Int}(h:k=true):kq k o m=(0,o,m):=by rw[h];rfl
theorem SR{k f:Int}{a b:List Int}{c:Int}(h:aK (k,f,a,b,c)=false):(1,[],[])=aA (k,f,a,b,c):=by
 unfold aA;rw[if_neg (by rw[h];decide)]
theorem rj1{f:Int}{a b:List Int}{c:Int}(h:aK (1,f,a,b,c)=true):aA (1,f,a,b,c)=kq (aH f a) (kR f a) []:=by unfold aA;rw[if_pos h];rfl
theorem rj2{f:Int}{a b:List Int}{c:Int}(h:aK (2,f,a,b,c)=true):aA (2,f,a,b,c)=kq (aH f a) (gY f a) []:=by unfold aA;rw[if_pos h];rfl
theorem rj3{f:Int}{a b:List Int}{c:Int}(h:aK (3,f,a,b,c)=true):aA (3,f,a,b,c)=kq (eN f a b) (lO f a b) []:=by unfold aA;rw[if_pos h];rfl
theorem rj4{f:Int}{a b:List Int}{c:Int}(h:aK (4,f,a,b,c)=true):aA (4,f,a,b,c)=kq (eN f a b) (i_ f a b) []:=by unfold aA;rw[if_pos h];rfl
theorem rj5{f:Int}{a b:List Int}{c:Int}(h:aK (5,f,a,b,c)=true):aA (5,f,a,b,c)=kq (ef f a b).2 (ef f a b).1 []:=by unfold aA;rw[if_pos h];rfl
theorem rj6{f:Int}{a b:List Int}{c:Int}(h:aK (6,f,a,b,c)=true):aA (6,f,a,b,c)=kq (cW a b).2 (cW a b).1 []:=by unfold aA;rw[if_pos h];rfl
theorem rj7{f:Int}{a b:List Int}{c:Int}(h:aK (7,f,a,b,c)=true):aA (7,f,a,b,c)=kq (c_ f a).2 (c_ f a).1 []:=by unfold aA;rw[if_pos h];rfl
theorem rj8{f:Int}{a b:List Int}{c:Int}(h:aK (8,f,a,b,c)=true):aA (8,f,a,b,c)=kq (m3 f a b) (ez f a b) []:=by unfold aA;rw[if_pos h];rfl
theorem rj9{f:Int}{a b:List Int}{c:Int}(h:aK (9,f,a,b,c)=true):aA (9,f,a,b,c)=kq (cK f a b).2 (cK f a b).1 []:=by unfold aA;rw[if_pos h];rfl
theorem XA{f:Int}{a b:List Int}{c:Int}(h:aK (10,f,a,b,c)=true):aA (10,f,a,b,c)=kq (cy f a b).2.2 (cy f a b).1 (cy f a b).2.1:=by unfold aA;rw[if_pos h];rfl
theorem XB{f:Int}{a b:List Int}{c:Int}(h:aK (11,f,a,b,c)=true):aA (11,f,a,b,c)=kq (dI f a b c).2.2 (dI f a b c).1 [(dI f a b c).2.1]:=by unfold aA;rw[if_pos h];rfl
theorem Zm(f:Int)(a b:List Int):mw f a b=ez f a b:=rfl
theorem aaG{f:Int}{a b:List Int}(h:m3 f a b=false):ez f a b=[]:=by unfold ez;rw[if_neg (by rw[h];decide)]
theorem Zn{f:Int}{a b:List Int}(h:m3 f a b=true):(ez f a b).length=b.length:=by unfold ez;rw[if_pos h,mZ]
theorem KU{f:Int}{a b:List Int}:m3 f a b=true↔aZ f a=true/\b.length<=40/\aC f b=true:=by
 unfold m3
 simp only[Bool.and_eq_true,decide_eq_true_eq]
 exact⟨fun h=>⟨h.1.1,h.1.2,h.2⟩,fun h=>⟨⟨h.1,h.2.1⟩,h.2.2⟩⟩
theorem LH{f:Int}{a b:List Int}(h:¬(aZ f a=true/\b.length<=40/\aC f b=true)):m3 f a b=false:=by
 cases e:m3 f a b
 ·rfl
 ·exact absurd (KU.1 e) h
theorem QZ{k f:Int}{a b:List Int}{c:Int}(h:aK (k,f,a,b,c)=true)(h1:¬k=1)(h2:¬k=2)(h3:¬k=3)(h4:¬k=4)(h5:¬k=5)(h6:¬k=6)(h7:¬k=7)(h8:¬k=8)(h9:¬k=9)(Yb:¬k=10)(Yc:¬k=11):False:=by
 have:=(vn.1 h).1.1
 omega
theorem Tb :
 ∀(d:Int×Int×List Int×List Int×Int),Ty.wf eF d->True->True/\((!aK d)=true->((1:Int),[],[])=aA d)/\((!aK d)=false->(decide (d.1=(1:Int))=true->True/\(Ty.wf aj (kR d.2.1 d.2.2.1)->True/\((!aH d.2.1 d.2.2.1)=true->((2:Int),[],[])=aA d)/\((!aH d.2.1 d.2.2.1)=false->((0:Int),kR d.2.1 d.2.2.1,[])=aA d)))/\(decide (d.1=(1:Int))=false->(decide (d.1=(2:Int))=true->True/\(Ty.wf aj (gY d.2.1 d.2.2.1)->True/\((!aH d.2.1 d.2.2.1)=true->((2:Int),[],[])=aA d)/\((!aH d.2.1 d.2.2.1)=false->((0:Int),gY d.2.1 d.2.2.1,[])=aA d)))/\(decide (d.1=(2:Int))=false->(decide (d.1=(3:Int))=true->True/\(Ty.wf aj (lO d.2.1 d.2.2.1 d.2.2.2.1)->List.length [d.2.2.1,d.2.2.2.1]=(2:Nat)/\(Ty.wf bW (aR d.2.1 [d.2.2.1,d.2.2.2.1]).1/\Ty.wf Ty.bool (aR d.2.1 [d.2.2.1,d.2.2.2.1]).2->((!(aR d.2.1 [d.2.2.1,d.2.2.2.1]).2)=true->((2:Int),[],[])=aA d)/\((!(aR d.2.1 [d.2.2.1,d.2.2.2.1]).2)=false->((0:Int),lO d.2.1 d.2.2.1 d.2.2.2.1,[])=aA d))))/\(decide (d.1=(3:Int))=false->(decide (d.1=(4:Int))=true->True/\(Ty.wf aj (i_ d.2.1 d.2.2.1 d.2.2.2.1)->List.length [d.2.2.1,d.2.2.2.1]=(2:Nat)/\(Ty.wf bW (aR d.2.1 [d.2.2.1,d.2.2.2.1]).1/\Ty.wf Ty.bool (aR d.2.1 [d.2.2.1,d.2.2.2.1]).2->((!(aR d.2.1 [d.2.2.1,d.2.2.2.1]).2)=true->((2:Int),[],[])=aA d)/\((!(aR d.2.1 [d.2.2.1,d.2.2.2.1]).2)=false->((0:Int),i_ d.2.1 d.2.2.1 d.2.2.2.1,[])=aA d))))/\(decide (d.1=(4:Int))=false->(decide (d.1=(5:Int))=true->True/\(Ty.wf aj (ef d.2.1 d.2.2.1 d.2.2.2.1).1/\Ty.wf Ty.bool (ef d.2.1 d.2.2.1 d.2.2.2.1).2->((!(ef d.2.1 d.2.2.1 d.2.2.2.1).2)=true->((2:Int),[],[])=aA d)/\((!(ef d.2.1 d.2.2.1 d.2.2.2.1).2)=false->((0:Int),(ef d.2.1 d.2.2.1 d.2.2.2.1).1,[])=aA d)))/\(decide (d.1=(5:Int))=false->(decide (d.1=(6:Int))=true->True/\(Ty.wf aj (cW d.2.2.1 d.2.2.2.1).1/\Ty.wf Ty.bool (cW d.2.2.1 d.2.2.2.1).2->((!(cW d.2.2.1 d.2.2.2.1).2)=true->((2:Int),[],[])=aA d)/\((!(cW d.2.2.1 d.2.2.2.1).2)=false->((0:Int),(cW d.2.2.1 d.2.2.2.1).1,[])=aA d)))/\(decide (d.1=(6:Int))=false->(decide (d.1=(7:Int))=true->True/\(Ty.wf aj (c_ d.2.1 d.2.2.1).1/\Ty.wf Ty.bool (c_ d.2.1 d.2.2.1).2->((!(c_ d.2.1 d.2.2.1).2)=true->((2:Int),[],[])=aA d)/\((!(c_ d.2.1 d.2.2.1).2)=false->((0:Int),(c_ d.2.1 d.2.2.1).1,[])=aA d)))/\(decide (d.1=(7:Int))=false->(decide (d.1=(8:Int))=true->True/\(Ty.wf aj (mw d.2.1 d.2.2.1 d.2.2.2.1)->(decide ((d.2.2.2.1.length:Int)=(0:Int))=true->True/\(aZ d.2.1 d.2.2.1=true->((0:Int),mw d.2.1 d.2.2.1 d.2.2.2.1,[])=aA d)/\(aZ d.2.1 d.2.2.1=false->((!decide ((0:Int)<(↑(List.length (mw d.2.1 d.2.2.1 d.2.2.2.1)):Int)))=true->((2:Int),[],[])=aA d)/\((!decide ((0:Int)<(↑(List.length (mw d.2.1 d.2.2.1 d.2.2.2.1)):Int)))=false->((0:Int),mw d.2.1 d.2.2.1 d.2.2.2.1,[])=aA d)))/\(decide ((d.2.2.2.1.length:Int)=(0:Int))=false->((!decide ((0:Int)<(↑(List.length (mw d.2.1 d.2.2.1 d.2.2.2.1)):Int)))=true->((2:Int),[],[])=aA d)/\((!decide ((0:Int)<(↑(List.length (mw d.2.1 d.2.2.1 d.2.2.2.1)):Int)))=false->((0:Int),mw d.2.1 d.2.2.1 d.2.2.2.1,[])=aA d))))/\(decide (d.1=(8:Int))=false->(decide (d.1=(9:Int))=true->True/\(Ty.wf aj (cK d.2.1 d.2.2.1 d.2.2.2.1).1/\Ty.wf Ty.bool (cK d.2.1 d.2.2.1 d.2.2.2.1).2->((!(cK d.2.1 d.2.2.1 d.2.2.2.1).2)=true->((2:Int),[],[])=aA d)/\((!(cK d.2.1 d.2.2.1 d.2.2.2.1).2)=false->((0:Int),(cK d.2.1 d.2.2.1 d.2.2.2.1).1,[])=aA d)))/\(decide (d.1=(9:Int))=false->(decide (d.1=(10:Int))=true->True/\(Ty.wf aj (cy d.2.1 d.2.2.1 d.2.2.2.1).1/\Ty.wf aj (cy d.2.1 d.2.2.1 d.2.2.2.1).2.1/\Ty.wf Ty.bool (cy d.2.1 d.2.2.1 d.2.2.2.1).2.2->((!(cy d.2.1 d.2.2.1 d.2.2.2.1).2.2)=true->((2:Int),[],[])=aA d)/\((!(cy d.2.1 d.2.2.1 d.2.2.2.1).2.2)=false->((0:Int),(cy d.2.1 d.2.2.1 d.2.2.2.1).1,(cy d.2.1 d.2.2.1 d.2.2.2.1).2.1)=aA d)))/\(decide (d.1=(10:Int))=false->(decide (d.1=(11:Int))=true->True/\(Ty.wf aj (dI d.2.1 d.2.2.1 d.2.2.2.1 d.2.2.2.2).1/\Ty.wf ai (dI d.2.1 d.2.2.1 d.2.2.2.1 d.2.2.2.2).2.1/\Ty.wf Ty.bool (dI d.2.1 d.2.2.1 d.2.2.2.1 d.2.2.2.2).2.2->((!(dI d.2.1 d.2.2.1 d.2.2.2.1 d.2.2.2.2).2.2)=true->((2:Int),[],[])=aA d)/\((!(dI d.2.1 d.2.2.1 d.2.2.2.1 d.2.2.2.2).2.2)=false->((0:Int),(dI d.2.1 d.2.2.1 d.2.2.2.1 d.2.2.2.2).1,[(dI d.2.1 d.2.2.1 d.2.2.2.1 d.2.2.2.2).2.1])=aA d)))/\(decide (d.1=(11:Int))=false->((0:Int),[],[])=aA d)))))))))))):=by
  intro (d:Int×Int×List Int×List Int×Int) hw hp
  obtain⟨k,f,a,b,c⟩:=d
  simp only[exists_const,forall_const,decide_eq_true_eq,decide_eq_false_iff_not,beq_iff_eq,sxS]
  rw[XO,Zm]
  refine⟨SR,fun hj=>⟨?_,fun h1=>⟨?_,fun h2=>⟨?_,fun h3=>⟨?_,fun h4=>⟨?_,fun h5=>⟨?_,fun h6=>⟨?_,fun h7=>⟨?_,fun h8=>⟨?_,fun h9=>⟨?_,fun Yb=>⟨?_,fun Yc=>(QZ hj h1 h2 h3 h4 h5 h6 h7 h8 h9 Yb Yc).elim⟩⟩⟩⟩⟩⟩⟩⟩⟩⟩⟩⟩
  ·rintro rfl _;rw[rj1 hj];exact⟨fun h=>(iS h).symm,fun h=>(jQ h).symm⟩
  ·rintro rfl _;rw[rj2 hj];exact⟨fun h=>(iS h).symm,fun h=>(jQ h).symm⟩
  ·rintro rfl _;rw[rj3 hj];exact⟨rfl,fun _=>⟨fun h=>(iS h).symm,fun h=>(jQ h).symm⟩⟩
  ·rintro rfl _;rw[rj4 hj];exact⟨rfl,fun _=>⟨fun h=>(iS h).symm,fun h=>(jQ h).symm⟩⟩
  ·rintro rfl _;rw[rj5 hj];exact⟨fun h=>(iS h).symm,fun h=>(jQ h).symm⟩
  ·rintro rfl _;rw[rj6 hj];exact⟨fun h=>(iS h).symm,fun h=>(jQ h).symm⟩
  ·rintro rfl _;rw[rj7 hj];exact⟨fun h=>(iS h).symm,fun h=>(jQ h).symm⟩
  ·rintro rfl _
   rw[rj8 hj]
   cases e:m3 f a b
   ·rw[aaG e]
    have he:∀ x:m3 f a b=true,False:=fun x=>by rw[e] at x;cases x
    refine⟨fun hb=>⟨fun hp=>(he (KU.2 ⟨hp,by omega,?_⟩)).elim,fun _=>⟨fun _=>rfl,fun h=>by simp at h⟩⟩,fun hb=>⟨fun _=>rfl,fun h=>by simp at h⟩⟩
    have vd:b=[]:=List.eq_nil_of_length_eq_zero (by omega)
    rw[vd]
    exact iH (c6 hp).1 (by unfold aq;simp)
   ·rw[Zn e]
    have hk:=KU.1 e
    refine⟨fun hb=>⟨fun _=>rfl,fun h=>by rw[hk.1] at h;cases h⟩,fun hb=>⟨fun h=>by omega,fun _=>rfl⟩⟩
  ·rintro rfl _;rw[rj9 hj];exact⟨fun h=>(iS h).symm,fun h=>(jQ h).symm⟩
  ·rintro rfl _;rw[XA hj];exact⟨fun h=>(iS h).symm,fun h=>(jQ h).symm⟩
  ·rintro rfl _;rw[XB hj];exact⟨fun h=>(iS h).symm,fun h=>(jQ h).symm⟩
theorem Tp :
 ∀(d:Int×Int×List Int×List Int×Int),Ty.wf eF d->True->True/\((!aK d)=true->((1:Int),[],[])=aA d)/\((!aK d)=false->(decide (d.1=(1:Int))=true->True/\True/\(Ty.wf aj (kR d.2.1 d.2.2.1)->((!aH d.2.1 d.2.2.1)=true->((2:Int),[],[])=aA d)/\((!aH d.2.1 d.2.2.1)=false->((0:Int),kR d.2.1 d.2.2.1,[])=aA d)))/\(decide (d.1=(1:Int))=false->(decide (d.1=(2:Int))=true->True/\True/\(Ty.wf aj (gY d.2.1 d.2.2.1)->((!aH d.2.1 d.2.2.1)=true->((2:Int),[],[])=aA d)/\((!aH d.2.1 d.2.2.1)=false->((0:Int),gY d.2.1 d.2.2.1,[])=aA d)))/\(decide (d.1=(2:Int))=false->(decide (d.1=(3:Int))=true->True/\True/\(Ty.wf aj (lO d.2.1 d.2.2.1 d.2.2.2.1)->((!eN d.2.1 d.2.2.1 d.2.2.2.1)=true->((2:Int),[],[])=aA d)/\((!eN d.2.1 d.2.2.1 d.2.2.2.1)=false->((0:Int),lO d.2.1 d.2.2.1 d.2.2.2.1,[])=aA d)))/\(decide (d.1=(3:Int))=false->(decide (d.1=(4:Int))=true->True/\True/\(Ty.wf aj (i_ d.2.1 d.2.2.1 d.2.2.2.1)->((!eN d.2.1 d.2.2.1 d.2.2.2.1)=true->((2:Int),[],[])=aA d)/\((!eN d.2.1 d.2.2.1 d.2.2.2.1)=false->((0:Int),i_ d.2.1 d.2.2.1 d.2.2.2.1,[])=aA d)))/\(decide (d.1=(4:Int))=false->(decide (d.1=(5:Int))=true->True/\(Ty.wf aj (ef d.2.1 d.2.2.1 d.2.2.2.1).1/\Ty.wf Ty.bool (ef d.2.1 d.2.2.1 d.2.2.2.1).2->((!(ef d.2.1 d.2.2.1 d.2.2.2.1).2)=true->((2:Int),[],[])=aA d)/\((!(ef d.2.1 d.2.2.1 d.2.2.2.1).2)=false->((0:Int),(ef d.2.1 d.2.2.1 d.2.2.2.1).1,[])=aA d)))/\(decide (d.1=(5:Int))=false->(decide (d.1=(6:Int))=true->True/\(Ty.wf aj (cW d.2.2.1 d.2.2.2.1).1/\Ty.wf Ty.bool (cW d.2.2.1 d.2.2.2.1).2->((!(cW d.2.2.1 d.2.2.2.1).2)=true->((2:Int),[],[])=aA d)/\((!(cW d.2.2.1 d.2.2.2.1).2)=false->((0:Int),(cW d.2.2.1 d.2.2.2.1).1,[])=aA d)))/\(decide (d.1=(6:Int))=false->(decide (d.1=(7:Int))=true->True/\(Ty.wf aj (c_ d.2.1 d.2.2.1).1/\Ty.wf Ty.bool (c_ d.2.1 d.2.2.1).2->((!(c_ d.2.1 d.2.2.1).2)=true->((2:Int),[],[])=aA d)/\((!(c_ d.2.1 d.2.2.1).2)=false->((0:Int),(c_ d.2.1 d.2.2.1).1,[])=aA d)))/\(decide (d.1=(7:Int))=false->(decide (d.1=(8:Int))=true->True/\(aZ d.2.1 d.2.2.1=true->(decide ((d.2.2.2.1.length:Int)<=(40:Int))=true->True/\True/\(Ty.wf aj (ez d.2.1 d.2.2.1 d.2.2.2.1)->((!aC d.2.1 d.2.2.2.1)=true->((2:Int),[],[])=aA d)/\((!aC d.2.1 d.2.2.2.1)=false->((0:Int),ez d.2.1 d.2.2.1 d.2.2.2.1,[])=aA d)))/\(decide ((d.2.2.2.1.length:Int)<=(40:Int))=false->True/\(Ty.wf aj (ez d.2.1 d.2.2.1 d.2.2.2.1)->((2:Int),[],[])=aA d)))/\(aZ d.2.1 d.2.2.1=false->True/\(Ty.wf aj (ez d.2.1 d.2.2.1 d.2.2.2.1)->((2:Int),[],[])=aA d)))/\(decide (d.1=(8:Int))=false->(decide (d.1=(9:Int))=true->True/\(Ty.wf aj (cK d.2.1 d.2.2.1 d.2.2.2.1).1/\Ty.wf Ty.bool (cK d.2.1 d.2.2.1 d.2.2.2.1).2->((!(cK d.2.1 d.2.2.1 d.2.2.2.1).2)=true->((2:Int),[],[])=aA d)/\((!(cK d.2.1 d.2.2.1 d.2.2.2.1).2)=false->((0:Int),(cK d.2.1 d.2.2.1 d.2.2.2.1).1,[])=aA d)))/\(decide (d.1=(9:Int))=false->(decide (d.1=(10:Int))=true->True/\(Ty.wf aj (cy d.2.1 d.2.2.1 d.2.2.2.1).1/\Ty.wf aj (cy d.2.1 d.2.2.1 d.2.2.2.1).2.1/\Ty.wf Ty.bool (cy d.2.1 d.2.2.1 d.2.2.2.1).2.2->((!(cy d.2.1 d.2.2.1 d.2.2.2.1).2.2)=true->((2:Int),[],[])=aA d)/\((!(cy d.2.1 d.2.2.1 d.2.2.2.1).2.2)=false->((0:Int),(cy d.2.1 d.2.2.1 d.2.2.2.1).1,(cy d.2.1 d.2.2.1 d.2.2.2.1).2.1)=aA d)))/\(decide (d.1=(10:Int))=false->(decide (d.1=(11:Int))=true->True/\(Ty.wf aj (dI d.2.1 d.2.2.1 d.2.2.2.1 d.2.2.2.2).1/\Ty.wf ai (dI d.2.1 d.2.2.1 d.2.2.2.1 d.2.2.2.2).2.1/\Ty.wf Ty.bool (dI d.2.1 d.2.2.1 d.2.2.2.1 d.2.2.2.2).2.2->((!(dI d.2.1 d.2.2.1 d.2.2.2.1 d.2.2.2.2).2.2)=true->((2:Int),[],[])=aA d)/\((!(dI d.2.1 d.2.2.1 d.2.2.2.1 d.2.2.2.2).2.2)=false->((0:Int),(dI d.2.1 d.2.2.1 d.2.2.2.1 d.2.2.2.2).1,[(dI d.2.1 d.2.2.1 d.2.2.2.1 d.2.2.2.2).2.1])=aA d)))/\(decide (d.1=(11:Int))=false->((0:Int),[],[])=aA d)))))))))))):=by
  intro (d:Int×Int×List Int×List Int×Int) hw hp
  obtain⟨k,f,a,b,c⟩:=d
  simp only[exists_const,forall_const,decide_eq_true_eq,decide_eq_false_iff_not,beq_iff_eq,sxS]
  refine⟨SR,fun hj=>⟨?_,fun h1=>⟨?_,fun h2=>⟨?_,fun h3=>⟨?_,fun h4=>⟨?_,fun h5=>⟨?_,fun h6=>⟨?_,fun h7=>⟨?_,fun h8=>⟨?_,fun h9=>⟨?_,fun Yb=>⟨?_,fun Yc=>(QZ hj h1 h2 h3 h4 h5 h6 h7 h8 h9 Yb Yc).elim⟩⟩⟩⟩⟩⟩⟩⟩⟩⟩⟩⟩
  ·rintro rfl _;rw[rj1 hj];exact⟨fun h=>(iS h).symm,fun h=>(jQ h).symm⟩
  ·rintro rfl _;rw[rj2 hj];exact⟨fun h=>(iS h).symm,fun h=>(jQ h).symm⟩
  ·rintro rfl _;rw[rj3 hj];exact⟨fun h=>(iS h).symm,fun h=>(jQ h).symm⟩
  ·rintro rfl _;rw[rj4 hj];exact⟨fun h=>(iS h).symm,fun h=>(jQ h).symm⟩
  ·rintro rfl _;rw[rj5 hj];exact⟨fun h=>(iS h).symm,fun h=>(jQ h).symm⟩
  ·rintro rfl _;rw[rj6 hj];exact⟨fun h=>(iS h).symm,fun h=>(jQ h).symm⟩
  ·rintro rfl _;rw[rj7 hj];exact⟨fun h=>(iS h).symm,fun h=>(jQ h).symm⟩
  ·rintro rfl
   rw[rj8 hj]
   exact⟨fun hp=>⟨fun hl _=>⟨fun h=>(iS (LH (by simp[h]))).symm,fun h=>(jQ (KU.2 ⟨hp,by omega,h⟩)).symm⟩,fun hl _=>(iS (LH (by omega))).symm⟩,fun hp _=>(iS (LH (by simp[hp]))).symm⟩
  ·rintro rfl _;rw[rj9 hj];exact⟨fun h=>(iS h).symm,fun h=>(jQ h).symm⟩
  ·rintro rfl _;rw[XA hj];exact⟨fun h=>(iS h).symm,fun h=>(jQ h).symm⟩
  ·rintro rfl _;rw[XB hj];exact⟨fun h=>(iS h).symm,fun h=>(jQ h).symm⟩
theorem Dy(p:Int)(b L:List Int)(i:Nat)(c:Int):L=dr p b L i c 0:=by
 refine List.ext_getElem (by rw[kP]) fun t h1 h2=>?_
 have:=mY p b L i c 0 h1
 rw[if_neg (by omega),List.getD_eq_getElem?_getD,List.getD_eq_getElem?_getD,List.getElem?_eq_getElem h1,List.getElem?_eq_getElem h2] at this
 exact this.symm
theorem Fx{p:Int}{b L:List Int}{i:Nat}{c:Int}{y:Nat}(h:i+y<L.length):(dr p b L i c y).set (i+y) (bR p ((dr p b L i c y).getD (i+y) 0) (mulM p c (b.getD y 0)))=dr p b L i c (y+1):=by
 rw[mY _ _ _ _ _ _ h,if_neg (by omega)]
 unfold dr
 rw[qe]
 refine eG (fun t _=>?_)
 by_cases ht:t=i+y
 ·subst ht
  rw[if_pos rfl,if_pos (by omega),Nat.add_sub_cancel_left]
 ·rw[if_neg ht]
  by_cases h2:i<=t/\t<i+y
  ·rw[if_pos h2,if_pos (by omega)]
  ·rw[if_neg h2,if_neg (by omega)]
theorem Ea(p r:Int)(a b:List Int)(n:Nat):List.replicate n 0=gb p r a b n 0:=by
 rw[vr]
 exact eG (fun t _=>(if_neg (by omega)).symm)
theorem Hn{p r:Int}{a b:List Int}{n k:Nat}(h:b.length+k<=a.length):(gb p r a b n k).set (a.length-b.length-k) (kc p r a b k)=gb p r a b n (k+1):=by
 unfold gb
 rw[qe]
 refine eG (fun t _=>?_)
 by_cases ht:t=a.length-b.length-k
 ·rw[if_pos ht,if_pos (by omega),show a.length-b.length-t=k by omega]
 ·rw[if_neg ht]
  by_cases h2:a.length-b.length<t+k/\t<=a.length-b.length
  ·rw[if_pos h2,if_pos (by omega)]
  ·rw[if_neg h2,if_neg (by omega)]
theorem TU{f:Int}{a b:List Int}(ha:aZ f a=true)(r:Int)(n:Nat)(h:a.length<b.length):(cf (gb (af f) r a b n 0),cf a)=hU (af f) a b:=by
 unfold hU
 rw[if_pos h,yN (c6 ha).2.2.2,<-Ea]
 congr 1
 have:cf (List.replicate n (0:Int))=cf []:=ET (fun t=>by
  rw[vr,qd]
  split<;>rfl)
 rw[this];rfl
theorem N9{f:Int}{b:List Int}(hb:aZ f b=true)(h:0<b.length):b.getD (b.length-1) 0%af f≠0:=by
 obtain⟨hm,he,_,ht⟩:=c6 hb
 have hh:=fc (b9 hm).1 he (b.length-1)
 unfold El at hh
 rw[Int.emod_eq_of_lt hh.1 hh.2]
 exact vG ht h
theorem KO :
 ∀(d:Int×List Int×List Int),Ty.wf ai d.1/\Ty.wf aj d.2.1/\Ty.wf aj d.2.2->aZ d.1 d.2.1=true/\aZ d.1 d.2.2=true/\d.2.2.length≠(0:Nat)->d.2.1.length<=(1048576:Nat)/\(Ty.wf aj d.2.1->(0:Nat)<=d.2.1.length/\((d.1=d.1/\ae d.2.1/\ae d.2.2/\aQ/\aQ/\(0:Int)=(↑(0:Nat):Int))/\ae d.2.1/\[]=List.replicate (0:Nat) (0:Ty.den ai))/\∀(x:Nat),x<=d.2.1.length->(decide ((x:Int)<(d.2.1.length:Int))=true->(List.length (List.replicate x (0:Ty.den ai))+List.length [(0:Int)])*(8:Nat)<=(140737488355328:Nat)/\∃(x':Nat),x'<=d.2.1.length/\d.2.1.length-x'<d.2.1.length-x/\(d.1=d.1/\ae d.2.1/\ae d.2.2/\aQ/\aQ/\i64.wrap ((x:Int)+(1:Int))=(x':Int))/\ae d.2.1/\List.replicate x (0:Ty.den ai)++[(0:Int)]=List.replicate x' (0:Ty.den ai))/\(decide ((x:Int)<(d.2.1.length:Int))=false->((0:Int)<=i64.wrap ((d.2.2.length:Int)-(1:Int))/\i64.wrap ((d.2.2.length:Int)-(1:Int))<(d.2.2.length:Int))/\True/\(Ty.wf ai (bG d.1 (d.2.2.getD (Int.toNat (i64.wrap ((d.2.2.length:Int)-(1:Int)))) (0:Int)) (-1:Int))->(0:Nat)<=d.2.1.length+(1:Nat)-d.2.2.length/\((d.1=d.1/\ae d.2.1/\ae d.2.2/\aQ/\aQ/\ae (x:Int)/\ae (bG d.1 (d.2.2.getD (Int.toNat (i64.wrap ((d.2.2.length:Int)-(1:Int)))) (0:Int)) (-1:Int))/\(d.2.1.length:Int)=(d.2.1.length:Int)-(↑(0:Nat):Int))/\d.2.1=cJ (af d.1) (bC (af d.1) d.2.2) d.2.1 d.2.2 (0:Nat)/\List.replicate x (0:Ty.den ai)=gb (af d.1) (bC (af d.1) d.2.2) d.2.1 d.2.2 d.2.1.length (0:Nat))/\∀(x_1:Nat),x_1<=d.2.1.length+(1:Nat)-d.2.2.length->(decide ((d.2.2.length:Int)<=(d.2.1.length:Int)-(x_1:Int))=true->((0:Int)<=i64.wrap ((d.2.1.length:Int)-(x_1:Int)-(1:Int))/\i64.wrap ((d.2.1.length:Int)-(x_1:Int)-(1:Int))<(↑(List.length (cJ (af d.1) (bC (af d.1) d.2.2) d.2.1 d.2.2 x_1)):Int))/\True/\(Ty.wf ai (c8 d.1 (List.getD (cJ (af d.1) (bC (af d.1) d.2.2) d.2.1 d.2.2 x_1) (Int.toNat (i64.wrap ((d.2.1.length:Int)-(x_1:Int)-(1:Int)))) (0:Int)) (bG d.1 (d.2.2.getD (Int.toNat (i64.wrap ((d.2.2.length:Int)-(1:Int)))) (0:Int)) (-1:Int)))->((0:Int)<=i64.wrap ((d.2.1.length:Int)-(x_1:Int)-(d.2.2.length:Int))/\i64.wrap ((d.2.1.length:Int)-(x_1:Int)-(d.2.2.length:Int))<(↑(List.length (gb (af d.1) (bC (af d.1) d.2.2) d.2.1 d.2.2 d.2.1.length x_1)):Int))/\(0:Nat)<=d.2.2.length/\((d.1=d.1/\ae d.2.1/\ae d.2.2/\aQ/\aQ/\ae (x:Int)/\ae (bG d.1 (d.2.2.getD (Int.toNat (i64.wrap ((d.2.2.length:Int)-(1:Int)))) (0:Int)) (-1:Int))/\ae ((d.2.1.length:Int)-(x_1:Int))/\ae (c8 d.1 (List.getD (cJ (af d.1) (bC (af d.1) d.2.2) d.2.1 d.2.2 x_1) (Int.toNat (i64.wrap ((d.2.1.length:Int)-(x_1:Int)-(1:Int)))) (0:Int)) (bG d.1 (d.2.2.getD (Int.toNat (i64.wrap ((d.2.2.length:Int)-(1:Int)))) (0:Int)) (-1:Int)))/\(0:Int)=(↑(0:Nat):Int))/\cJ (af d.1) (bC (af d.1) d.2.2) d.2.1 d.2.2 x_1=dr (af d.1) d.2.2 (cJ (af d.1) (bC (af d.1) d.2.2) d.2.1 d.2.2 x_1) (d.2.1.length-d.2.2.length-x_1) (kc (af d.1) (bC (af d.1) d.2.2) d.2.1 d.2.2 x_1) (0:Nat)/\List.set (gb (af d.1) (bC (af d.1) d.2.2) d.2.1 d.2.2 d.2.1.length x_1) (Int.toNat (i64.wrap ((d.2.1.length:Int)-(x_1:Int)-(d.2.2.length:Int)))) (c8 d.1 (List.getD (cJ (af d.1) (bC (af d.1) d.2.2) d.2.1 d.2.2 x_1) (Int.toNat (i64.wrap ((d.2.1.length:Int)-(x_1:Int)-(1:Int)))) (0:Int)) (bG d.1 (d.2.2.getD (Int.toNat (i64.wrap ((d.2.2.length:Int)-(1:Int)))) (0:Int)) (-1:Int)))=gb (af d.1) (bC (af d.1) d.2.2) d.2.1 d.2.2 d.2.1.length (x_1+(1:Nat)))/\∀(x_2:Nat),x_2<=d.2.2.length->(decide ((x_2:Int)<(d.2.2.length:Int))=true->((0:Int)<=i64.wrap (i64.wrap ((d.2.1.length:Int)-(x_1:Int)-(d.2.2.length:Int))+(x_2:Int))/\i64.wrap (i64.wrap ((d.2.1.length:Int)-(x_1:Int)-(d.2.2.length:Int))+(x_2:Int))<(↑(List.length (dr (af d.1) d.2.2 (cJ (af d.1) (bC (af d.1) d.2.2) d.2.1 d.2.2 x_1) (d.2.1.length-d.2.2.length-x_1) (kc (af d.1) (bC (af d.1) d.2.2) d.2.1 d.2.2 x_1) x_2)):Int))/\((0:Int)<=(x_2:Int)/\(x_2:Int)<(d.2.2.length:Int))/\True/\True/\((0:Int)<=i64.wrap (i64.wrap ((d.2.1.length:Int)-(x_1:Int)-(d.2.2.length:Int))+(x_2:Int))/\i64.wrap (i64.wrap ((d.2.1.length:Int)-(x_1:Int)-(d.2.2.length:Int))+(x_2:Int))<(↑(List.length (dr (af d.1) d.2.2 (cJ (af d.1) (bC (af d.1) d.2.2) d.2.1 d.2.2 x_1) (d.2.1.length-d.2.2.length-x_1) (kc (af d.1) (bC (af d.1) d.2.2) d.2.1 d.2.2 x_1) x_2)):Int))/\(Ty.wf ai (jj d.1 (List.getD (dr (af d.1) d.2.2 (cJ (af d.1) (bC (af d.1) d.2.2) d.2.1 d.2.2 x_1) (d.2.1.length-d.2.2.length-x_1) (kc (af d.1) (bC (af d.1) d.2.2) d.2.1 d.2.2 x_1) x_2) (Int.toNat (i64.wrap (i64.wrap ((d.2.1.length:Int)-(x_1:Int)-(d.2.2.length:Int))+(x_2:Int)))) (0:Int)) (c8 d.1 (c8 d.1 (List.getD (cJ (af d.1) (bC (af d.1) d.2.2) d.2.1 d.2.2 x_1) (Int.toNat (i64.wrap ((d.2.1.length:Int)-(x_1:Int)-(1:Int)))) (0:Int)) (bG d.1 (d.2.2.getD (Int.toNat (i64.wrap ((d.2.2.length:Int)-(1:Int)))) (0:Int)) (-1:Int))) (d.2.2.getD ((x_2:Int).toNat) (0:Int))))->Ty.wf ai (c8 d.1 (c8 d.1 (List.getD (cJ (af d.1) (bC (af d.1) d.2.2) d.2.1 d.2.2 x_1) (Int.toNat (i64.wrap ((d.2.1.length:Int)-(x_1:Int)-(1:Int)))) (0:Int)) (bG d.1 (d.2.2.getD (Int.toNat (i64.wrap ((d.2.2.length:Int)-(1:Int)))) (0:Int)) (-1:Int))) (d.2.2.getD ((x_2:Int).toNat) (0:Int)))->∃(x':Nat),x'<=d.2.2.length/\d.2.2.length-x'<d.2.2.length-x_2/\(d.1=d.1/\ae d.2.1/\ae d.2.2/\aQ/\aQ/\ae (x:Int)/\ae (bG d.1 (d.2.2.getD (Int.toNat (i64.wrap ((d.2.2.length:Int)-(1:Int)))) (0:Int)) (-1:Int))/\ae ((d.2.1.length:Int)-(x_1:Int))/\ae (c8 d.1 (List.getD (cJ (af d.1) (bC (af d.1) d.2.2) d.2.1 d.2.2 x_1) (Int.toNat (i64.wrap ((d.2.1.length:Int)-(x_1:Int)-(1:Int)))) (0:Int)) (bG d.1 (d.2.2.getD (Int.toNat (i64.wrap ((d.2.2.length:Int)-(1:Int)))) (0:Int)) (-1:Int)))/\i64.wrap ((x_2:Int)+(1:Int))=(x':Int))/\List.set (dr (af d.1) d.2.2 (cJ (af d.1) (bC (af d.1) d.2.2) d.2.1 d.2.2 x_1) (d.2.1.length-d.2.2.length-x_1) (kc (af d.1) (bC (af d.1) d.2.2) d.2.1 d.2.2 x_1) x_2) (Int.toNat (i64.wrap (i64.wrap ((d.2.1.length:Int)-(x_1:Int)-(d.2.2.length:Int))+(x_2:Int)))) (jj d.1 (List.getD (dr (af d.1) d.2.2 (cJ (af d.1) (bC (af d.1) d.2.2) d.2.1 d.2.2 x_1) (d.2.1.length-d.2.2.length-x_1) (kc (af d.1) (bC (af d.1) d.2.2) d.2.1 d.2.2 x_1) x_2) (Int.toNat (i64.wrap (i64.wrap ((d.2.1.length:Int)-(x_1:Int)-(d.2.2.length:Int))+(x_2:Int)))) (0:Int)) (c8 d.1 (c8 d.1 (List.getD (cJ (af d.1) (bC (af d.1) d.2.2) d.2.1 d.2.2 x_1) (Int.toNat (i64.wrap ((d.2.1.length:Int)-(x_1:Int)-(1:Int)))) (0:Int)) (bG d.1 (d.2.2.getD (Int.toNat (i64.wrap ((d.2.2.length:Int)-(1:Int)))) (0:Int)) (-1:Int))) (d.2.2.getD ((x_2:Int).toNat) (0:Int))))=dr (af d.1) d.2.2 (cJ (af d.1) (bC (af d.1) d.2.2) d.2.1 d.2.2 x_1) (d.2.1.length-d.2.2.length-x_1) (kc (af d.1) (bC (af d.1) d.2.2) d.2.1 d.2.2 x_1) x'/\ae (gb (af d.1) (bC (af d.1) d.2.2) d.2.1 d.2.2 d.2.1.length (x_1+(1:Nat)))))/\(decide ((x_2:Int)<(d.2.2.length:Int))=false->∃(x':Nat),x'<=d.2.1.length+(1:Nat)-d.2.2.length/\d.2.1.length+(1:Nat)-d.2.2.length-x'<d.2.1.length+(1:Nat)-d.2.2.length-x_1/\(d.1=d.1/\ae d.2.1/\ae d.2.2/\aQ/\aQ/\ae (x:Int)/\ae (bG d.1 (d.2.2.getD (Int.toNat (i64.wrap ((d.2.2.length:Int)-(1:Int)))) (0:Int)) (-1:Int))/\i64.wrap ((d.2.1.length:Int)-(x_1:Int)-(1:Int))=(d.2.1.length:Int)-(x':Int))/\dr (af d.1) d.2.2 (cJ (af d.1) (bC (af d.1) d.2.2) d.2.1 d.2.2 x_1) (d.2.1.length-d.2.2.length-x_1) (kc (af d.1) (bC (af d.1) d.2.2) d.2.1 d.2.2 x_1) x_2=cJ (af d.1) (bC (af d.1) d.2.2) d.2.1 d.2.2 x'/\gb (af d.1) (bC (af d.1) d.2.2) d.2.1 d.2.2 d.2.1.length (x_1+(1:Nat))=gb (af d.1) (bC (af d.1) d.2.2) d.2.1 d.2.2 d.2.1.length x')))/\(decide ((d.2.2.length:Int)<=(d.2.1.length:Int)-(x_1:Int))=false->List.length (gb (af d.1) (bC (af d.1) d.2.2) d.2.1 d.2.2 d.2.1.length x_1)<=(1048576:Nat)/\(Ty.wf aj (cf (gb (af d.1) (bC (af d.1) d.2.2) d.2.1 d.2.2 d.2.1.length x_1))->List.length (cJ (af d.1) (bC (af d.1) d.2.2) d.2.1 d.2.2 x_1)<=(1048576:Nat)/\(Ty.wf aj (cf (cJ (af d.1) (bC (af d.1) d.2.2) d.2.1 d.2.2 x_1))->(cf (gb (af d.1) (bC (af d.1) d.2.2) d.2.1 d.2.2 d.2.1.length x_1),cf (cJ (af d.1) (bC (af d.1) d.2.2) d.2.1 d.2.2 x_1))=hU (af d.1) d.2.1 d.2.2)))))):=by
  intro (d:Int×List Int×List Int) hw hp
  obtain⟨f,a,b⟩:=d
  replace hp:aZ f a=true/\aZ f b=true/\b.length≠0:=hp
  simp only[exists_const,forall_const,decide_eq_true_eq,decide_eq_false_iff_not,beq_iff_eq,sxS]
  obtain⟨ha,hb,vd⟩:=hp
  obtain⟨hm,qv,hla,_⟩:=c6 ha
  obtain⟨_,lp,FX,_⟩:=c6 hb
  have hq:=(b9 hm).1
  have Yz:i64.wrap ((b.length:Int)-1)=((b.length-1:Nat):Int):=by rw[wrap_small (by omega)];omega
  simp only[Yz,Int.toNat_natCast,lB,ui,kP]
  have hz:bG f (b.getD (b.length-1) 0) (-1)=bC (af f) b:=CX hm (N9 hb (by omega))
  rw[hz]
  refine⟨by omega,fun _=>⟨by omega,⟨rfl,rfl⟩,fun x hx=>⟨fun h1=>⟨by simp only[List.length_replicate,List.length_cons,List.length_nil];omega,x+1,by omega,by omega,aG (by omega),List.replicate_succ'.symm⟩,fun h1=>⟨⟨by omega,by omega⟩,fun _=>⟨by omega,⟨by omega,rfl,by rw[show x=a.length by omega];exact Ea _ _ _ _ _⟩,fun k hk=>⟨fun h2=>?_,fun h2=>?_⟩⟩⟩⟩⟩⟩
  ·have fW:i64.wrap ((a.length:Int)-(k:Int)-1)=((a.length-1-k:Nat):Int):=by rw[wrap_small (by omega)];omega
   have nQ:i64.wrap ((a.length:Int)-(k:Int)-(b.length:Int))=((a.length-b.length-k:Nat):Int):=by rw[wrap_small (by omega)];omega
   have hC:c8 f ((cJ (af f) (bC (af f) b) a b k).getD (a.length-1-k) 0) (bC (af f) b)=kc (af f) (bC (af f) b) a b k:=by rw[lJ hm];rfl
   rw[fW,nQ]
   simp only[Int.toNat_natCast]
   rw[hC]
   refine⟨⟨by omega,by omega⟩,fun _=>⟨⟨by omega,by omega⟩,by omega,⟨rfl,Dy _ _ _ _ _,Hn (by omega)⟩,fun y hy=>⟨fun h3=>?_,fun h3=>?_⟩⟩⟩
   ·have YA:i64.wrap (((a.length-b.length-k:Nat):Int)+(y:Int))=((a.length-b.length-k+y:Nat):Int):=by rw[wrap_small (by omega)];omega
    rw[YA,Int.toNat_natCast]
    refine⟨⟨by omega,by omega⟩,⟨by omega,by omega⟩,⟨by omega,by omega⟩,fun _ _=>⟨y+1,by omega,by omega,aG (by omega),?_⟩⟩
    rw[yA hm,lJ hm]
    exact Fx (by rw[lB];omega)
   ·refine⟨k+1,by omega,by omega,by omega,?_,rfl⟩
    rw[show y=b.length by omega];rfl
  ·refine⟨by omega,fun _=>⟨by omega,fun _=>?_⟩⟩
   rcases Nat.lt_or_ge a.length b.length with h3|h3
   ·rw[show k=0 by omega]
    exact TU ha _ _ h3
   ·rw[show k=a.length-b.length+1 by omega]
    exact WB hm ha (N9 hb (by omega)) (by omega) h3
end Go.SF
