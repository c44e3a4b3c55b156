/- Jobs, from the code. No condition. -/
import Derived.Test.YtbnplfhajafhmaaGreatSxM1
import Derived.Test.YtbnplfhajafhmaaGreatSxC
set_option linter.unusedVariables false
set_option linter.unusedSimpArgs false
open Go.IntKind (i64 u8)
namespace Go.SF
open Go.SX Go
theorem Fx{k f:Int}{a b:List Int}{c:Int}:bI (k,f,a,b,c)=true↔((1<=k/\k<=11)/\ae f≠0/\¬(k=6/\f≠0))/\ep a=true/\ep b=true/\(0<=c/\c<=400)/\(ll k=true\/b.length=0)/\(k=11\/c=0):=by
 unfold bI
 simp only[Bool.and_eq_true,Bool.or_eq_true,decide_eq_true_eq]
 constructor
 ·rintro⟨⟨⟨⟨⟨⟨⟨h1,h2⟩,h3⟩,h4⟩,h5⟩,h6⟩,h7⟩,h8⟩;exact⟨⟨h1,h2,h3⟩,h4,h5,h6,h7,h8⟩
 ·rintro⟨⟨h1,h2,h3⟩,h4,h5,h6,h7,h8⟩;exact⟨⟨⟨⟨⟨⟨⟨h1,h2⟩,h3⟩,h4⟩,h5⟩,h6⟩,h7⟩,h8⟩
theorem QT{f:Int}:(mR f).2=true↔ae f≠0:=by
 rw[nY]
 refine⟨fun h=>?_,fun h=>(cH h).2⟩
 have:=n9 h
 omega
theorem GY :
 ∀(d:Int),Ty.wf ai d->True->True/\pH [(3:Int),(4:Int),(5:Int),(6:Int),(8:Int),(9:Int),(10:Int),(11:Int)] d=ll d:=by
  intro d hw hp
  simp only[exists_const,forall_const,decide_eq_true_eq,decide_eq_false_iff_not,beq_iff_eq,sxS]
  unfold ll
  unfold pH
  rw[decide_eq_decide]
  simp only[List.mem_cons,List.not_mem_nil,or_false]
set_option maxRecDepth 10000
theorem Eu{a b:List Int}{x:Nat}(hb:max a.length b.length<=4096)(hn:¬(x<a.length/\x<b.length/\a.getD x 0=b.getD x 0))(aZ:x<max a.length b.length):∃ x',x'<=max a.length b.length/\max a.length b.length-x'<max a.length b.length-x/\i64.wrap (((ef a b x:Nat):Int)+1)=((ef a b x':Nat):Int)/\i64.wrap ((x:Int)+1)=(x':Int):=by
 have hd:=Ev a b x
 exact⟨x+1,by omega,by omega,by rw[M4 hn];exact bp (by omega),bp (by omega)⟩
theorem HP :
 ∀(d:Int×List Int×Int),Ty.wf ai d.1/\Ty.wf al d.2.1/\Ty.wf ai d.2.2->True->(decide ((d.2.1.length:Int)<=(10:Int))=true->True/\(cm d.1 d.2.1=true->True/\(decide ((1:Int)<=d.2.2)&&decide (d.2.2<=(d.2.1.length:Int)))=fT d.1 d.2.1 d.2.2)/\(cm d.1 d.2.1=false->false=fT d.1 d.2.1 d.2.2))/\(decide ((d.2.1.length:Int)<=(10:Int))=false->false=fT d.1 d.2.1 d.2.2):=by
  intro (d:Int×List Int×Int) hw hp
  obtain⟨f,xs,k⟩:=d
  simp only[exists_const,forall_const,decide_eq_true_eq,decide_eq_false_iff_not,beq_iff_eq,sxS]
  unfold fT
  refine⟨fun h=>⟨fun h1=>?_,fun h1=>?_⟩,fun h=>?_⟩
  ·rw[decide_eq_true (show xs.length<=10 by omega),h1,Bool.true_and,Bool.true_and,Bool.decide_and]
  ·rw[h1,Bool.and_false];rfl
  ·rw[decide_eq_false (show ¬xs.length<=10 by omega)];rfl
theorem Cd :
 ∀(d:Int×List Int×List Int),Ty.wf ai d.1/\Ty.wf al d.2.1/\Ty.wf al d.2.2->True->True/\((!fT d.1 d.2.1 (d.2.2.length:Int))=true->[]=fK d.1 d.2.1 d.2.2)/\((!fT d.1 d.2.1 (d.2.2.length:Int))=false->True/\((!aB d.1 d.2.2)=true->[]=fK d.1 d.2.1 d.2.2)/\((!aB d.1 d.2.2)=false->(0:Nat)<=d.2.1.length/\((d.1=d.1/\ah d.2.1/\ah d.2.2/\an/\(0:Int)=(↑(0:Nat):Int))/\[]=kJ (ae d.1) (bj d.2.2) d.2.1 (0:Nat))/\∀(x:Nat),x<=d.2.1.length->(decide ((x:Int)<(d.2.1.length:Int))=true->d.2.2.length<=(1048576:Nat)/\((0:Int)<=(x:Int)/\(x:Int)<(d.2.1.length:Int))/\True/\(Ty.wf ai (rH d.1 (bj d.2.2) (d.2.1.getD ((x:Int).toNat) (0:Int)))->Ty.wf al (bj d.2.2)->(List.length (kJ (ae d.1) (bj d.2.2) d.2.1 x)+List.length [rH d.1 (bj d.2.2) (d.2.1.getD ((x:Int).toNat) (0:Int))])*(8:Nat)<=(140737488355328:Nat)/\∃(x':Nat),x'<=d.2.1.length/\d.2.1.length-x'<d.2.1.length-x/\(d.1=d.1/\ah d.2.1/\ah d.2.2/\an/\i64.wrap ((x:Int)+(1:Int))=(x':Int))/\kJ (ae d.1) (bj d.2.2) d.2.1 x++[rH d.1 (bj d.2.2) (d.2.1.getD ((x:Int).toNat) (0:Int))]=kJ (ae d.1) (bj d.2.2) d.2.1 x'))/\(decide ((x:Int)<(d.2.1.length:Int))=false->kJ (ae d.1) (bj d.2.2) d.2.1 x=fK d.1 d.2.1 d.2.2))):=by
  intro (d:Int×List Int×List Int) hw hp
  obtain⟨f,xs,m⟩:=d
  simp only[exists_const,forall_const,decide_eq_true_eq,decide_eq_false_iff_not,beq_iff_eq,sxS]
  refine⟨fun h=>by unfold fK;rw[h];rfl,fun h=>⟨fun h1=>by unfold fK;rw[h1,Bool.and_false];rfl,fun h1=>?_⟩⟩
  obtain⟨rR,hl,np,mW⟩:=Bu h
  obtain⟨hm,he⟩:=js h1
  have SV:bC f (bj m)=true:=qo hm (uX he) (by rw[oA];have:=s4 m;omega) (rn m)
  refine⟨by omega,⟨rfl,rfl⟩,fun x hx=>⟨fun h2=>⟨by omega,⟨by omega,by omega⟩,fun _ _=>?_⟩,fun h2=>?_⟩⟩
  ·rw[s9]
   refine⟨by simp only[List.length_cons,List.length_nil];omega,x+1,by omega,by omega,bp (by omega),?_⟩
   unfold rH
   rw[if_pos SV]
   exact EE _ _ _ _
  ·rw[show x=xs.length by omega]
   unfold fK
   rw[h,h1];rfl
theorem Kq :
 ∀(d:List Int×List Int),Ty.wf al d.1/\Ty.wf al d.2->True->(decide ((4096:Int)<(d.1.length:Int))=true->(-1:Int)=nR d.1 d.2)/\(decide ((4096:Int)<(d.1.length:Int))=false->(decide ((4096:Int)<(d.2.length:Int))=true->(-1:Int)=nR d.1 d.2)/\(decide ((4096:Int)<(d.2.length:Int))=false->(0:Nat)<=max d.1.length d.2.length/\(d.1=d.1/\d.2=d.2/\ah (0:Int)/\(0:Int)=(↑(ef d.1 d.2 (0:Nat)):Int)/\(0:Int)=(↑(0:Nat):Int))/\∀(x:Nat),x<=max d.1.length d.2.length->(decide ((x:Int)<(d.1.length:Int))=true->(decide ((d.1.length:Int)<=(x:Int))=true->∃(x':Nat),x'<=max d.1.length d.2.length/\max d.1.length d.2.length-x'<max d.1.length d.2.length-x/\d.1=d.1/\d.2=d.2/\ah (0:Int)/\i64.wrap ((ef d.1 d.2 x:Int)+(1:Int))=(ef d.1 d.2 x':Int)/\i64.wrap ((x:Int)+(1:Int))=(x':Int))/\(decide ((d.1.length:Int)<=(x:Int))=false->(decide ((d.2.length:Int)<=(x:Int))=true->∃(x':Nat),x'<=max d.1.length d.2.length/\max d.1.length d.2.length-x'<max d.1.length d.2.length-x/\d.1=d.1/\d.2=d.2/\ah (0:Int)/\i64.wrap ((ef d.1 d.2 x:Int)+(1:Int))=(ef d.1 d.2 x':Int)/\i64.wrap ((x:Int)+(1:Int))=(x':Int))/\(decide ((d.2.length:Int)<=(x:Int))=false->((0:Int)<=(x:Int)/\(x:Int)<(d.1.length:Int))/\((0:Int)<=(x:Int)/\(x:Int)<(d.2.length:Int))/\((!decide (d.1.getD ((x:Int).toNat) (0:Int)=d.2.getD ((x:Int).toNat) (0:Int)))=true->∃(x':Nat),x'<=max d.1.length d.2.length/\max d.1.length d.2.length-x'<max d.1.length d.2.length-x/\d.1=d.1/\d.2=d.2/\ah (0:Int)/\i64.wrap ((ef d.1 d.2 x:Int)+(1:Int))=(ef d.1 d.2 x':Int)/\i64.wrap ((x:Int)+(1:Int))=(x':Int))/\((!decide (d.1.getD ((x:Int).toNat) (0:Int)=d.2.getD ((x:Int).toNat) (0:Int)))=false->∃(x':Nat),x'<=max d.1.length d.2.length/\max d.1.length d.2.length-x'<max d.1.length d.2.length-x/\d.1=d.1/\d.2=d.2/\ah (0:Int)/\(ef d.1 d.2 x:Int)=(ef d.1 d.2 x':Int)/\i64.wrap ((x:Int)+(1:Int))=(x':Int)))))/\(decide ((x:Int)<(d.1.length:Int))=false->(decide ((x:Int)<(d.2.length:Int))=true->(decide ((d.1.length:Int)<=(x:Int))=true->∃(x':Nat),x'<=max d.1.length d.2.length/\max d.1.length d.2.length-x'<max d.1.length d.2.length-x/\d.1=d.1/\d.2=d.2/\ah (0:Int)/\i64.wrap ((ef d.1 d.2 x:Int)+(1:Int))=(ef d.1 d.2 x':Int)/\i64.wrap ((x:Int)+(1:Int))=(x':Int))/\(decide ((d.1.length:Int)<=(x:Int))=false->(decide ((d.2.length:Int)<=(x:Int))=true->∃(x':Nat),x'<=max d.1.length d.2.length/\max d.1.length d.2.length-x'<max d.1.length d.2.length-x/\d.1=d.1/\d.2=d.2/\ah (0:Int)/\i64.wrap ((ef d.1 d.2 x:Int)+(1:Int))=(ef d.1 d.2 x':Int)/\i64.wrap ((x:Int)+(1:Int))=(x':Int))/\(decide ((d.2.length:Int)<=(x:Int))=false->((0:Int)<=(x:Int)/\(x:Int)<(d.1.length:Int))/\((0:Int)<=(x:Int)/\(x:Int)<(d.2.length:Int))/\((!decide (d.1.getD ((x:Int).toNat) (0:Int)=d.2.getD ((x:Int).toNat) (0:Int)))=true->∃(x':Nat),x'<=max d.1.length d.2.length/\max d.1.length d.2.length-x'<max d.1.length d.2.length-x/\d.1=d.1/\d.2=d.2/\ah (0:Int)/\i64.wrap ((ef d.1 d.2 x:Int)+(1:Int))=(ef d.1 d.2 x':Int)/\i64.wrap ((x:Int)+(1:Int))=(x':Int))/\((!decide (d.1.getD ((x:Int).toNat) (0:Int)=d.2.getD ((x:Int).toNat) (0:Int)))=false->∃(x':Nat),x'<=max d.1.length d.2.length/\max d.1.length d.2.length-x'<max d.1.length d.2.length-x/\d.1=d.1/\d.2=d.2/\ah (0:Int)/\(ef d.1 d.2 x:Int)=(ef d.1 d.2 x':Int)/\i64.wrap ((x:Int)+(1:Int))=(x':Int)))))/\(decide ((x:Int)<(d.2.length:Int))=false->(ef d.1 d.2 x:Int)=nR d.1 d.2)))):=by
  intro (d:List Int×List Int) hw hp
  obtain⟨a,b⟩:=d
  simp only[exists_const,forall_const,decide_eq_true_eq,decide_eq_false_iff_not,beq_iff_eq,sxS]
  refine⟨fun h=>by unfold nR;rw[if_pos (by omega)],fun h=>⟨fun h1=>by unfold nR;rw[if_pos (by omega)],fun h1=>⟨by omega,⟨rfl,rfl⟩,fun x hx=>?_⟩⟩⟩
  have hd:=Ev a b x
  refine⟨fun h2=>⟨fun h3=>absurd h3 (by omega),fun h3=>⟨fun h4=>Eu (by omega) (fun hh=>absurd hh.2.1 (by omega)) (by omega),fun h4=>⟨⟨by omega,by omega⟩,⟨by omega,by omega⟩,fun h5=>Eu (by omega) (fun hh=>h5 hh.2.2) (by omega),fun h5=>⟨x+1,by omega,by omega,by rw[M5 ⟨by omega,by omega,h5⟩],bp (by omega)⟩⟩⟩⟩,fun h2=>⟨fun h3=>⟨fun h4=>Eu (by omega) (fun hh=>absurd hh.1 (by omega)) (by omega),fun h4=>absurd h2 (by omega)⟩,fun h3=>?_⟩⟩
  rw[Aa (by omega) (by omega),show x=max a.length b.length by omega];rfl
theorem Cb :
 ∀(d:Int×List Int×List Int×Int),Ty.wf ai d.1/\Ty.wf al d.2.1/\Ty.wf al d.2.2.1/\Ty.wf ai d.2.2.2->True->True/\((!fT d.1 d.2.1 d.2.2.2)=true->([],(0:Int),false)=eC d.1 d.2.1 d.2.2.1 d.2.2.2)/\((!fT d.1 d.2.1 d.2.2.2)=false->((!decide ((d.2.2.1.length:Int)=(d.2.1.length:Int)))=true->([],(0:Int),false)=eC d.1 d.2.1 d.2.2.1 d.2.2.2)/\((!decide ((d.2.2.1.length:Int)=(d.2.1.length:Int)))=false->True/\((!aB d.1 d.2.2.1)=true->([],(0:Int),false)=eC d.1 d.2.1 d.2.2.1 d.2.2.2)/\((!aB d.1 d.2.2.1)=false->sj (ae d.1) d.2.1 d.2.2.1 d.2.2.2.toNat (0:Nat)/\(d.1=d.1/\ah d.2.1/\ah d.2.2.1/\ah d.2.2.2/\ah (d.2.1.length:Int)/\(0:Int)=(↑(0:Nat):Int))/\∀(x:Nat),sj (ae d.1) d.2.1 d.2.2.1 d.2.2.2.toNat x->(0:Int)<=IntKind.wrap IntKind.u64 (d.2.1.length:Int)/\(decide ((x:Int)<ju i64 (1:Int) (IntKind.wrap IntKind.u64 (d.2.1.length:Int)))=true->(0:Nat)<=d.2.1.length/\((d.1=d.1/\ah d.2.1/\ah d.2.2.1/\ah d.2.2.2/\ah (d.2.1.length:Int)/\ah (x:Int)/\(0:Int)=(↑(0:Nat):Int))/\[]=cJ d.2.1 x (0:Nat)/\[]=cJ d.2.2.1 x (0:Nat))/\∀(x_1:Nat),x_1<=d.2.1.length->(decide ((x_1:Int)<(d.2.1.length:Int))=true->(0:Int)<=IntKind.wrap IntKind.u64 (x_1:Int)/\(2:Int)≠(0:Int)/\(decide (Int.tmod (ix i64 (x:Int) (IntKind.wrap IntKind.u64 (x_1:Int))) (2:Int)=(1:Int))=true->((0:Int)<=(x_1:Int)/\(x_1:Int)<(d.2.1.length:Int))/\(List.length (cJ d.2.1 x x_1)+List.length [d.2.1.getD ((x_1:Int).toNat) (0:Int)])*(8:Nat)<=(140737488355328:Nat)/\((0:Int)<=(x_1:Int)/\(x_1:Int)<(d.2.2.1.length:Int))/\(List.length (cJ d.2.2.1 x x_1)+List.length [d.2.2.1.getD ((x_1:Int).toNat) (0:Int)])*(8:Nat)<=(140737488355328:Nat)/\∃(x':Nat),x'<=d.2.1.length/\d.2.1.length-x'<d.2.1.length-x_1/\(d.1=d.1/\ah d.2.1/\ah d.2.2.1/\ah d.2.2.2/\ah (d.2.1.length:Int)/\ah (x:Int)/\i64.wrap ((x_1:Int)+(1:Int))=(x':Int))/\cJ d.2.1 x x_1++[d.2.1.getD ((x_1:Int).toNat) (0:Int)]=cJ d.2.1 x x'/\cJ d.2.2.1 x x_1++[d.2.2.1.getD ((x_1:Int).toNat) (0:Int)]=cJ d.2.2.1 x x')/\(decide (Int.tmod (ix i64 (x:Int) (IntKind.wrap IntKind.u64 (x_1:Int))) (2:Int)=(1:Int))=false->∃(x':Nat),x'<=d.2.1.length/\d.2.1.length-x'<d.2.1.length-x_1/\(d.1=d.1/\ah d.2.1/\ah d.2.2.1/\ah d.2.2.2/\ah (d.2.1.length:Int)/\ah (x:Int)/\i64.wrap ((x_1:Int)+(1:Int))=(x':Int))/\cJ d.2.1 x x_1=cJ d.2.1 x x'/\cJ d.2.2.1 x x_1=cJ d.2.2.1 x x'))/\(decide ((x_1:Int)<(d.2.1.length:Int))=false->((!decide ((↑(List.length (cJ d.2.1 x x_1)):Int)=d.2.2.2))=true->∃(x':Nat),sj (ae d.1) d.2.1 d.2.2.1 d.2.2.2.toNat x'/\(2:Nat)^d.2.1.length-x'<(2:Nat)^d.2.1.length-x/\d.1=d.1/\ah d.2.1/\ah d.2.2.1/\ah d.2.2.2/\ah (d.2.1.length:Int)/\i64.wrap ((x:Int)+(1:Int))=(x':Int))/\((!decide ((↑(List.length (cJ d.2.1 x x_1)):Int)=d.2.2.2))=false->(cm d.1 (cJ d.2.1 x x_1)=true/\List.length (cJ d.2.2.1 x x_1)=List.length (cJ d.2.1 x x_1))/\(Ty.wf al (sM (ae d.1) (cJ d.2.1 x x_1) (cJ d.2.2.1 x x_1))->List.length (eU (ae d.1) d.2.1 d.2.2.1 x)+(0:Nat)<=d.2.2.2.toNat/\((d.1=d.1/\ah d.2.1/\ah d.2.2.1/\ah d.2.2.2/\ah (d.2.1.length:Int)/\ah (x:Int)/\ah (x_1:Int))/\ah (cJ d.2.1 x x_1)/\ah (cJ d.2.2.1 x x_1)/\sM (ae d.1) (cJ d.2.1 x x_1) (cJ d.2.2.1 x x_1)=eU (ae d.1) d.2.1 d.2.2.1 x++List.replicate (0:Nat) (0:Int))/\∀(x_2:Nat),List.length (eU (ae d.1) d.2.1 d.2.2.1 x)+x_2<=d.2.2.2.toNat->(decide ((↑(List.length (eU (ae d.1) d.2.1 d.2.2.1 x++List.replicate x_2 (0:Int))):Int)<d.2.2.2)=true->(List.length (eU (ae d.1) d.2.1 d.2.2.1 x++List.replicate x_2 (0:Int))+List.length [(0:Int)])*(8:Nat)<=(140737488355328:Nat)/\∃(x':Nat),List.length (eU (ae d.1) d.2.1 d.2.2.1 x)+x'<=d.2.2.2.toNat/\d.2.2.2.toNat-x'<d.2.2.2.toNat-x_2/\(d.1=d.1/\ah d.2.1/\ah d.2.2.1/\ah d.2.2.2/\ah (d.2.1.length:Int)/\ah (x:Int)/\ah (x_1:Int))/\ah (cJ d.2.1 x x_1)/\ah (cJ d.2.2.1 x x_1)/\eU (ae d.1) d.2.1 d.2.2.1 x++List.replicate x_2 (0:Int)++[(0:Int)]=eU (ae d.1) d.2.1 d.2.2.1 x++List.replicate x' (0:Int))/\(decide ((↑(List.length (eU (ae d.1) d.2.1 d.2.2.1 x++List.replicate x_2 (0:Int))):Int)<d.2.2.2)=false->True/\(Ty.wf al (fK d.1 d.2.1 (eU (ae d.1) d.2.1 d.2.2.1 x++List.replicate x_2 (0:Int)))->True/\(Ty.wf ai (nR (fK d.1 d.2.1 (eU (ae d.1) d.2.1 d.2.2.1 x++List.replicate x_2 (0:Int))) d.2.2.1)->(2:Int)≠(0:Int)/\(decide (nR (fK d.1 d.2.1 (eU (ae d.1) d.2.1 d.2.2.1 x++List.replicate x_2 (0:Int))) d.2.2.1<=i64.wrap (Int.tdiv (i64.wrap ((d.2.1.length:Int)-d.2.2.2)) (2:Int)))=true->(eU (ae d.1) d.2.1 d.2.2.1 x++List.replicate x_2 (0:Int),nR (fK d.1 d.2.1 (eU (ae d.1) d.2.1 d.2.2.1 x++List.replicate x_2 (0:Int))) d.2.2.1,true)=eC d.1 d.2.1 d.2.2.1 d.2.2.2)/\(decide (nR (fK d.1 d.2.1 (eU (ae d.1) d.2.1 d.2.2.1 x++List.replicate x_2 (0:Int))) d.2.2.1<=i64.wrap (Int.tdiv (i64.wrap ((d.2.1.length:Int)-d.2.2.2)) (2:Int)))=false->∃(x':Nat),sj (ae d.1) d.2.1 d.2.2.1 d.2.2.2.toNat x'/\(2:Nat)^d.2.1.length-x'<(2:Nat)^d.2.1.length-x/\d.1=d.1/\ah d.2.1/\ah d.2.2.1/\ah d.2.2.2/\ah (d.2.1.length:Int)/\i64.wrap ((x:Int)+(1:Int))=(x':Int)))))))))/\(decide ((x:Int)<ju i64 (1:Int) (IntKind.wrap IntKind.u64 (d.2.1.length:Int)))=false->([],(0:Int),false)=eC d.1 d.2.1 d.2.2.1 d.2.2.2)))):=by
  intro (d:Int×List Int×List Int×Int) hw hp
  obtain⟨f,xs,ys,k⟩:=d
  simp only[exists_const,forall_const,decide_eq_true_eq,decide_eq_false_iff_not,beq_iff_eq,sxS]
  refine⟨fun h=>z_ (by rw[h];rfl),fun h=>⟨fun h1=>z_ (by rw[decide_eq_false (show ¬ys.length=xs.length by omega),Bool.and_false];rfl),fun h1=>⟨fun h2=>z_ (by rw[h2,Bool.and_false]),fun h2=>⟨⟨Nat.zero_le _,fun t ht=>absurd ht (by omega)⟩,rfl,fun x hx=>?_⟩⟩⟩⟩
  obtain⟨rR,hl,np,mW⟩:=Bu h
  obtain⟨hm,E6,jf,he,hn⟩:=uK rR
  have h0:=(re hm).mod
  have Lo:ys.length=xs.length:=by omega
  obtain⟨kk,rfl⟩:=Int.eq_ofNat_of_zero_le (show 0<=k by omega)
  simp only[Int.toNat_natCast] at hx ⊢
  have fb:=NR hl
  rw[ME hl,P9 hl]
  refine⟨by omega,fun h3=>⟨by omega,⟨rfl,rfl,rfl⟩,fun y hy=>⟨fun h4=>?_,fun h4=>?_⟩⟩,fun h3=>Pn h Lo h2 hx (by omega)⟩
  ·have tg:=(sub_sub (xs:=xs) x y (by omega)).length_le
   have XJ:=xD ys xs x y
   rw[List.length_take] at tg
   rw[ME (show y<=10 by omega),Nw x y (by omega),N3]
   refine⟨by omega,by decide,fun h5=>⟨⟨by omega,by omega⟩,by simp only[List.length_cons,List.length_nil];omega,⟨by omega,by omega⟩,by simp only[List.length_cons,List.length_nil];omega,y+1,by omega,by omega,bp (by omega),Gv (by omega),Gv (by omega)⟩,fun h5=>⟨y+1,by omega,by omega,bp (by omega),Gu (by omega),Gu (by omega)⟩⟩
  ·obtain rfl:y=xs.length:=by omega
   have T_:mV (ae f) xs ys kk x=false->∃ x',sj (ae f) xs ys kk x'/\2^xs.length-x'<2^xs.length-x/\i64.wrap ((x:Int)+1)=(x':Int) :=
    fun hh=>⟨x+1,N0 hx (by omega) hh,by omega,bp (by omega)⟩
   refine⟨fun h5=>T_ (by unfold mV;rw[decide_eq_false (by omega)];rfl),fun h5=>⟨⟨Sx rR (by omega),xD _ _ _ _⟩,fun _=>?_⟩⟩
   obtain⟨OK,Wt⟩:=L8 rR Lo x
   refine⟨by omega,by rw[List.replicate_zero,List.append_nil];rfl,fun z hz=>⟨fun h6=>?_,fun h6 _ _=>⟨by decide,?_⟩⟩⟩
   ·rw[List.length_append,List.length_replicate] at h6 ⊢
    refine⟨by simp only[List.length_cons,List.length_nil];omega,z+1,by omega,by omega,?_⟩
    rw[List.append_assoc,List.replicate_succ']
   ·rw[List.length_append,List.length_replicate] at h6
    have W2:z=kk-(eU (ae f) xs ys x).length:=by omega
    have Wj:(eU (ae f) xs ys x++List.replicate z 0).length=kk:=by rw[List.length_append,List.length_replicate];omega
    have UA:fK f xs (eU (ae f) xs ys x++List.replicate z 0)=kJ (ae f) (eU (ae f) xs ys x) xs xs.length:=by
     unfold fK
     rw[Wj,h,qv hm (Me h0 OK z)]
     exact PB h0 (fun t=>by rw[w7,Ge]) _ _
    have Uz:nR (fK f xs (eU (ae f) xs ys x++List.replicate z 0)) ys=((yV (ae f) xs ys x:Nat):Int):=by
     rw[UA,Aa (by rw[s9];omega) (by omega),Ps (s9 _ _ _ _) Lo];rfl
    rw[Uz,Nc (by omega) hl]
    refine⟨fun h7=>?_,fun h7=>T_ (by unfold mV;rw[decide_eq_false (show ¬yV (ae f) xs ys x<=(xs.length-kk)/2 by omega),Bool.and_false])⟩
    have hh:mV (ae f) xs ys (kk:Int).toNat x=true:=by
     unfold mV
     rw[Int.toNat_natCast,decide_eq_true (show (cJ xs x xs.length).length=kk by omega),decide_eq_true (show yV (ae f) xs ys x<=(xs.length-kk)/2 by omega)];rfl
    rw[Po h Lo h2 (s:=x) (by rw[Int.toNat_natCast];exact hx) (by omega) hh,Int.toNat_natCast,W2]
    rfl
theorem EJ{h:Nat->Bool}{s:Nat}:∀ n,findF h n=some s->h s=true/\s<n
 | 0,e=>by cases e
 | n+1,e=>by
   unfold findF at e
   split at e
   ·rename_i s' h1
    injection e with e
    subst e
    have:=EJ n h1
    exact⟨this.1,by omega⟩
   ·split at e
    ·rename_i h2
     injection e with e
     subst e
     exact⟨h2,by omega⟩
    ·cases e
theorem Pp{f:Int}{xs ys:List Int}{k:Int}(h:(eC f xs ys k).2.2=true):fT f xs k=true/\ys.length=xs.length/\aB f ys=true/\∃ s,s<2^xs.length/\mV (ae f) xs ys k.toNat s=true/\eC f xs ys k=(JY (eU (ae f) xs ys s) k.toNat,((yV (ae f) xs ys s:Nat):Int),true):=by
 by_cases hc:(fT f xs k&&decide (ys.length=xs.length)&&aB f ys)=true
 ·have eu:=hc
  simp only[Bool.and_eq_true,decide_eq_true_eq] at eu
  refine⟨eu.1.1,eu.1.2,eu.2,?_⟩
  have he:=Bv eu.1.1 eu.1.2 eu.2
  rw[he] at h ⊢
  cases hf:findF (mV (ae f) xs ys k.toNat) (2^xs.length) with
  | none=>rw[hf] at h;cases h
  | some s =>
    have:=EJ _ hf
    exact⟨s,this.2,this.1,rfl⟩
 ·rw[<-z_ (by simpa using hc)] at h
  cases h
set_option maxRecDepth 10000
theorem N9 :
 ∀(d:List Int×List Int),Ty.wf al d.1/\Ty.wf al d.2->True->((!decide ((d.1.length:Int)=(d.2.length:Int)))=true->false=r9 d.1 d.2)/\((!decide ((d.1.length:Int)=(d.2.length:Int)))=false->((0:Nat)<=d.1.length/\d.1.length=d.2.length/\List.take (0:Nat) d.1=List.take (0:Nat) d.2)/\(d.1=d.1/\d.2=d.2/\(0:Int)=(↑(0:Nat):Int))/\∀(x:Nat),x<=d.1.length/\d.1.length=d.2.length/\List.take x d.1=List.take x d.2->(decide ((x:Int)<(d.1.length:Int))=true->((0:Int)<=(x:Int)/\(x:Int)<(d.1.length:Int))/\((0:Int)<=(x:Int)/\(x:Int)<(d.2.length:Int))/\((!decide (d.1.getD ((x:Int).toNat) (0:Int)=d.2.getD ((x:Int).toNat) (0:Int)))=true->false=r9 d.1 d.2)/\((!decide (d.1.getD ((x:Int).toNat) (0:Int)=d.2.getD ((x:Int).toNat) (0:Int)))=false->∃(x':Nat),(x'<=d.1.length/\d.1.length=d.2.length/\List.take x' d.1=List.take x' d.2)/\d.1.length-x'<d.1.length-x/\d.1=d.1/\d.2=d.2/\i64.wrap ((x:Int)+(1:Int))=(x':Int)))/\(decide ((x:Int)<(d.1.length:Int))=false->true=r9 d.1 d.2)):=by
  intro (d:List Int×List Int) hw hp
  obtain⟨xs,ys⟩:=d
  have hl:xs.length<=9223372036854775807:=hw.1.1
  simp only[exists_const,forall_const,decide_eq_true_eq,decide_eq_false_iff_not,beq_iff_eq,sxS]
  refine⟨fun h=>?_,fun h=>⟨⟨by omega,by omega,rfl⟩,rfl,fun x ⟨h1,h2,h0⟩=>⟨fun h3=>?_,fun h3=>?_⟩⟩⟩
  ·exact (decide_eq_false (fun e=>h (by rw[e]))).symm
  ·have h4:x<xs.length:=by omega
   obtain⟨t1,t2⟩:=Gx (z:=(0:Int)) h2 h4 h0
   rw[bp (by omega)]
   exact⟨⟨by omega,by omega⟩,⟨by omega,by omega⟩,fun h5=>(decide_eq_false (fun e=>h5 (t2 e))).symm,fun h5=>⟨x+1,⟨by omega,h2,t1.2 h5⟩,by omega,rfl⟩⟩
  ·have h4:x=xs.length:=by omega
   subst h4
   have:xs=ys:=by rw[List.take_length,h2,List.take_length] at h0;exact h0
   exact (decide_eq_true this).symm
theorem GJ :
 ∀(d:Int×List Int×List Int),Ty.wf ai d.1/\Ty.wf al d.2.1/\Ty.wf al d.2.2->True->True/\((!bC d.1 d.2.1)=true->[]=eR d.1 d.2.1 d.2.2)/\((!bC d.1 d.2.1)=false->(decide ((40:Int)<(d.2.2.length:Int))=true->[]=eR d.1 d.2.1 d.2.2)/\(decide ((40:Int)<(d.2.2.length:Int))=false->True/\((!aB d.1 d.2.2)=true->[]=eR d.1 d.2.1 d.2.2)/\((!aB d.1 d.2.2)=false->(0:Nat)<=d.2.2.length/\((d.1=d.1/\ah d.2.1/\ah d.2.2/\an/\(0:Int)=(↑(0:Nat):Int))/\[]=kJ (ae d.1) d.2.1 d.2.2 (0:Nat))/\∀(x:Nat),x<=d.2.2.length->(decide ((x:Int)<(d.2.2.length:Int))=true->((0:Int)<=(x:Int)/\(x:Int)<(d.2.2.length:Int))/\True/\(Ty.wf ai (rH d.1 d.2.1 (d.2.2.getD ((x:Int).toNat) (0:Int)))->(List.length (kJ (ae d.1) d.2.1 d.2.2 x)+List.length [rH d.1 d.2.1 (d.2.2.getD ((x:Int).toNat) (0:Int))])*(8:Nat)<=(140737488355328:Nat)/\∃(x':Nat),x'<=d.2.2.length/\d.2.2.length-x'<d.2.2.length-x/\(d.1=d.1/\ah d.2.1/\ah d.2.2/\an/\i64.wrap ((x:Int)+(1:Int))=(x':Int))/\kJ (ae d.1) d.2.1 d.2.2 x++[rH d.1 d.2.1 (d.2.2.getD ((x:Int).toNat) (0:Int))]=kJ (ae d.1) d.2.1 d.2.2 x'))/\(decide ((x:Int)<(d.2.2.length:Int))=false->kJ (ae d.1) d.2.1 d.2.2 x=eR d.1 d.2.1 d.2.2)))):=by
  intro (d:Int×List Int×List Int) hw hp
  obtain⟨f,a,xs⟩:=d
  simp only[exists_const,forall_const,decide_eq_true_eq,decide_eq_false_iff_not,beq_iff_eq,sxS]
  have no:¬(bC f a=true/\xs.length<=40/\aB f xs=true)->[]=eR f a xs:=fun h=>by
   unfold eR pX
   rw[if_neg (fun hh=>h ?_)]
   simp only[Bool.and_eq_true,decide_eq_true_eq] at hh
   exact⟨hh.1.1,hh.1.2,hh.2⟩
  refine⟨fun h=>no (by simp[h]),fun h=>⟨fun h1=>no (by omega),fun h1=>⟨fun h2=>no (by simp[h2]),fun h2=>⟨by omega,⟨rfl,rfl⟩,fun x hx=>⟨fun h3=>⟨⟨by omega,by omega⟩,fun _=>⟨?_,x+1,by omega,by omega,bp (by omega),?_⟩⟩,fun h3=>?_⟩⟩⟩⟩⟩
  ·rw[s9]
   simp only[List.length_cons,List.length_nil];omega
  ·rw[show rH f a (xs.getD x 0)=x8 (ae f) a (xs.getD x 0) by unfold rH;rw[if_pos h]]
   exact EE _ _ _ _
  ·unfold eR pX
   rw[if_pos (by simp only[Bool.and_eq_true,decide_eq_true_eq];exact⟨⟨h,by omega⟩,h2⟩),show x=xs.length by omega]
theorem n8{k:Bool}{o m:List Int}(h:k=false):iz k o m=(2,[],[]):=by rw[h];rfl
theorem rb{k:Bool}{o m:List Int}(h:k=true):iz k o m=(0,o,m):=by rw[h];rfl
theorem O6{k f:Int}{a b:List Int}{c:Int}(h:bI (k,f,a,b,c)=false):(1,[],[])=aK (k,f,a,b,c):=by
 unfold aK;rw[if_neg (by rw[h];decide)]
theorem Uc{f:Int}{a b:List Int}{c:Int}(h:bI (1,f,a,b,c)=true):aK (1,f,a,b,c)=iz (bo f a) (qV f a) []:=by unfold aK;rw[if_pos h];rfl
theorem Ud{f:Int}{a b:List Int}{c:Int}(h:bI (2,f,a,b,c)=true):aK (2,f,a,b,c)=iz (bo f a) (ln f a) []:=by unfold aK;rw[if_pos h];rfl
theorem Ue{f:Int}{a b:List Int}{c:Int}(h:bI (3,f,a,b,c)=true):aK (3,f,a,b,c)=iz (fp f a b) (qE f a b) []:=by unfold aK;rw[if_pos h];rfl
theorem Uf{f:Int}{a b:List Int}{c:Int}(h:bI (4,f,a,b,c)=true):aK (4,f,a,b,c)=iz (fp f a b) (na f a b) []:=by unfold aK;rw[if_pos h];rfl
theorem Ug{f:Int}{a b:List Int}{c:Int}(h:bI (5,f,a,b,c)=true):aK (5,f,a,b,c)=iz (fW f a b).2 (fW f a b).1 []:=by unfold aK;rw[if_pos h];rfl
theorem Uh{f:Int}{a b:List Int}{c:Int}(h:bI (6,f,a,b,c)=true):aK (6,f,a,b,c)=iz (dK a b).2 (dK a b).1 []:=by unfold aK;rw[if_pos h];rfl
theorem Ui{f:Int}{a b:List Int}{c:Int}(h:bI (7,f,a,b,c)=true):aK (7,f,a,b,c)=iz (dU f a).2 (dU f a).1 []:=by unfold aK;rw[if_pos h];rfl
theorem Uj{f:Int}{a b:List Int}{c:Int}(h:bI (8,f,a,b,c)=true):aK (8,f,a,b,c)=iz (pX f a b) (eR f a b) []:=by unfold aK;rw[if_pos h];rfl
theorem Uk{f:Int}{a b:List Int}{c:Int}(h:bI (9,f,a,b,c)=true):aK (9,f,a,b,c)=iz (dN f a b).2 (dN f a b).1 []:=by unfold aK;rw[if_pos h];rfl
theorem So{f:Int}{a b:List Int}{c:Int}(h:bI (10,f,a,b,c)=true):aK (10,f,a,b,c)=iz (dg f a b).2.2 (dg f a b).1 (dg f a b).2.1:=by unfold aK;rw[if_pos h];rfl
theorem Sp{f:Int}{a b:List Int}{c:Int}(h:bI (11,f,a,b,c)=true):aK (11,f,a,b,c)=iz (eC f a b c).2.2 (eC f a b c).1 [(eC f a b c).2.1]:=by unfold aK;rw[if_pos h];rfl
theorem Ov{f:Int}{a b:List Int}:pX f a b=true↔bC f a=true/\b.length<=40/\aB f b=true:=by
 unfold pX
 simp only[Bool.and_eq_true,decide_eq_true_eq]
 exact⟨fun h=>⟨h.1.1,h.1.2,h.2⟩,fun h=>⟨⟨h.1,h.2.1⟩,h.2.2⟩⟩
theorem EF{f:Int}{a b:List Int}(h:¬(bC f a=true/\b.length<=40/\aB f b=true)):pX f a b=false:=by
 cases e:pX f a b
 ·rfl
 ·exact absurd (Ov.1 e) h
theorem P3{k f:Int}{a b:List Int}{c:Int}(h:bI (k,f,a,b,c)=true)(h1:¬k=1)(h2:¬k=2)(h3:¬k=3)(h4:¬k=4)(h5:¬k=5)(h6:¬k=6)(h7:¬k=7)(h8:¬k=8)(h9:¬k=9)(Tr:¬k=10)(Ts:¬k=11):False:=by
 have:=(Fx.1 h).1.1
 omega
theorem Kv :
 ∀(d:Int×Int×List Int×List Int×Int),Ty.wf n6 d->True->True/\((!bI d)=true->((1:Int),[],[])=aK d)/\((!bI d)=false->(decide (d.1=(1:Int))=true->True/\True/\(Ty.wf al (qV d.2.1 d.2.2.1)->((!bo d.2.1 d.2.2.1)=true->((2:Int),[],[])=aK d)/\((!bo d.2.1 d.2.2.1)=false->((0:Int),qV d.2.1 d.2.2.1,[])=aK d)))/\(decide (d.1=(1:Int))=false->(decide (d.1=(2:Int))=true->True/\True/\(Ty.wf al (ln d.2.1 d.2.2.1)->((!bo d.2.1 d.2.2.1)=true->((2:Int),[],[])=aK d)/\((!bo d.2.1 d.2.2.1)=false->((0:Int),ln d.2.1 d.2.2.1,[])=aK d)))/\(decide (d.1=(2:Int))=false->(decide (d.1=(3:Int))=true->True/\True/\(Ty.wf al (qE d.2.1 d.2.2.1 d.2.2.2.1)->((!fp d.2.1 d.2.2.1 d.2.2.2.1)=true->((2:Int),[],[])=aK d)/\((!fp d.2.1 d.2.2.1 d.2.2.2.1)=false->((0:Int),qE d.2.1 d.2.2.1 d.2.2.2.1,[])=aK d)))/\(decide (d.1=(3:Int))=false->(decide (d.1=(4:Int))=true->True/\True/\(Ty.wf al (na d.2.1 d.2.2.1 d.2.2.2.1)->((!fp d.2.1 d.2.2.1 d.2.2.2.1)=true->((2:Int),[],[])=aK d)/\((!fp d.2.1 d.2.2.1 d.2.2.2.1)=false->((0:Int),na d.2.1 d.2.2.1 d.2.2.2.1,[])=aK d)))/\(decide (d.1=(4:Int))=false->(decide (d.1=(5:Int))=true->True/\(Ty.wf al (fW d.2.1 d.2.2.1 d.2.2.2.1).1/\Ty.wf Ty.bool (fW d.2.1 d.2.2.1 d.2.2.2.1).2->((!(fW d.2.1 d.2.2.1 d.2.2.2.1).2)=true->((2:Int),[],[])=aK d)/\((!(fW d.2.1 d.2.2.1 d.2.2.2.1).2)=false->((0:Int),(fW d.2.1 d.2.2.1 d.2.2.2.1).1,[])=aK d)))/\(decide (d.1=(5:Int))=false->(decide (d.1=(6:Int))=true->True/\(Ty.wf al (dK d.2.2.1 d.2.2.2.1).1/\Ty.wf Ty.bool (dK d.2.2.1 d.2.2.2.1).2->((!(dK d.2.2.1 d.2.2.2.1).2)=true->((2:Int),[],[])=aK d)/\((!(dK d.2.2.1 d.2.2.2.1).2)=false->((0:Int),(dK d.2.2.1 d.2.2.2.1).1,[])=aK d)))/\(decide (d.1=(6:Int))=false->(decide (d.1=(7:Int))=true->True/\(Ty.wf al (dU d.2.1 d.2.2.1).1/\Ty.wf Ty.bool (dU d.2.1 d.2.2.1).2->((!(dU d.2.1 d.2.2.1).2)=true->((2:Int),[],[])=aK d)/\((!(dU d.2.1 d.2.2.1).2)=false->((0:Int),(dU d.2.1 d.2.2.1).1,[])=aK d)))/\(decide (d.1=(7:Int))=false->(decide (d.1=(8:Int))=true->True/\(bC d.2.1 d.2.2.1=true->(decide ((d.2.2.2.1.length:Int)<=(40:Int))=true->True/\True/\(Ty.wf al (eR d.2.1 d.2.2.1 d.2.2.2.1)->((!aB d.2.1 d.2.2.2.1)=true->((2:Int),[],[])=aK d)/\((!aB d.2.1 d.2.2.2.1)=false->((0:Int),eR d.2.1 d.2.2.1 d.2.2.2.1,[])=aK d)))/\(decide ((d.2.2.2.1.length:Int)<=(40:Int))=false->True/\(Ty.wf al (eR d.2.1 d.2.2.1 d.2.2.2.1)->((2:Int),[],[])=aK d)))/\(bC d.2.1 d.2.2.1=false->True/\(Ty.wf al (eR d.2.1 d.2.2.1 d.2.2.2.1)->((2:Int),[],[])=aK d)))/\(decide (d.1=(8:Int))=false->(decide (d.1=(9:Int))=true->True/\(Ty.wf al (dN d.2.1 d.2.2.1 d.2.2.2.1).1/\Ty.wf Ty.bool (dN d.2.1 d.2.2.1 d.2.2.2.1).2->((!(dN d.2.1 d.2.2.1 d.2.2.2.1).2)=true->((2:Int),[],[])=aK d)/\((!(dN d.2.1 d.2.2.1 d.2.2.2.1).2)=false->((0:Int),(dN d.2.1 d.2.2.1 d.2.2.2.1).1,[])=aK d)))/\(decide (d.1=(9:Int))=false->(decide (d.1=(10:Int))=true->True/\(Ty.wf al (dg d.2.1 d.2.2.1 d.2.2.2.1).1/\Ty.wf al (dg d.2.1 d.2.2.1 d.2.2.2.1).2.1/\Ty.wf Ty.bool (dg d.2.1 d.2.2.1 d.2.2.2.1).2.2->((!(dg d.2.1 d.2.2.1 d.2.2.2.1).2.2)=true->((2:Int),[],[])=aK d)/\((!(dg d.2.1 d.2.2.1 d.2.2.2.1).2.2)=false->((0:Int),(dg d.2.1 d.2.2.1 d.2.2.2.1).1,(dg d.2.1 d.2.2.1 d.2.2.2.1).2.1)=aK d)))/\(decide (d.1=(10:Int))=false->(decide (d.1=(11:Int))=true->True/\(Ty.wf al (eC d.2.1 d.2.2.1 d.2.2.2.1 d.2.2.2.2).1/\Ty.wf ai (eC d.2.1 d.2.2.1 d.2.2.2.1 d.2.2.2.2).2.1/\Ty.wf Ty.bool (eC d.2.1 d.2.2.1 d.2.2.2.1 d.2.2.2.2).2.2->((!(eC d.2.1 d.2.2.1 d.2.2.2.1 d.2.2.2.2).2.2)=true->((2:Int),[],[])=aK d)/\((!(eC d.2.1 d.2.2.1 d.2.2.2.1 d.2.2.2.2).2.2)=false->((0:Int),(eC d.2.1 d.2.2.1 d.2.2.2.1 d.2.2.2.2).1,[(eC d.2.1 d.2.2.1 d.2.2.2.1 d.2.2.2.2).2.1])=aK d)))/\(decide (d.1=(11:Int))=false->((0:Int),[],[])=aK d)))))))))))):=by
  intro (d:Int×Int×List Int×List Int×Int) hw hp
  obtain⟨k,f,a,b,c⟩:=d
  simp only[exists_const,forall_const,decide_eq_true_eq,decide_eq_false_iff_not,beq_iff_eq,sxS]
  refine⟨O6,fun hj=>⟨?_,fun h1=>⟨?_,fun h2=>⟨?_,fun h3=>⟨?_,fun h4=>⟨?_,fun h5=>⟨?_,fun h6=>⟨?_,fun h7=>⟨?_,fun h8=>⟨?_,fun h9=>⟨?_,fun Tr=>⟨?_,fun Ts=>(P3 hj h1 h2 h3 h4 h5 h6 h7 h8 h9 Tr Ts).elim⟩⟩⟩⟩⟩⟩⟩⟩⟩⟩⟩⟩
  ·rintro rfl _;rw[Uc hj];exact⟨fun h=>(n8 h).symm,fun h=>(rb h).symm⟩
  ·rintro rfl _;rw[Ud hj];exact⟨fun h=>(n8 h).symm,fun h=>(rb h).symm⟩
  ·rintro rfl _;rw[Ue hj];exact⟨fun h=>(n8 h).symm,fun h=>(rb h).symm⟩
  ·rintro rfl _;rw[Uf hj];exact⟨fun h=>(n8 h).symm,fun h=>(rb h).symm⟩
  ·rintro rfl _;rw[Ug hj];exact⟨fun h=>(n8 h).symm,fun h=>(rb h).symm⟩
  ·rintro rfl _;rw[Uh hj];exact⟨fun h=>(n8 h).symm,fun h=>(rb h).symm⟩
  ·rintro rfl _;rw[Ui hj];exact⟨fun h=>(n8 h).symm,fun h=>(rb h).symm⟩
  ·rintro rfl
   rw[Uj hj]
   exact⟨fun hp=>⟨fun hl _=>⟨fun h=>(n8 (EF (by simp[h]))).symm,fun h=>(rb (Ov.2 ⟨hp,by omega,h⟩)).symm⟩,fun hl _=>(n8 (EF (by omega))).symm⟩,fun hp _=>(n8 (EF (by simp[hp]))).symm⟩
  ·rintro rfl _;rw[Uk hj];exact⟨fun h=>(n8 h).symm,fun h=>(rb h).symm⟩
  ·rintro rfl _;rw[So hj];exact⟨fun h=>(n8 h).symm,fun h=>(rb h).symm⟩
  ·rintro rfl _;rw[Sp hj];exact⟨fun h=>(n8 h).symm,fun h=>(rb h).symm⟩
theorem Hb(p:Int)(b L:List Int)(i:Nat)(c:Int):L=fa p b L i c 0:=by
 refine List.ext_getElem (by rw[tZ]) fun t h1 h2=>?_
 have:=Ab p b L i c 0 h1
 rw[if_neg (by omega),List.getD_eq_getElem?_getD,List.getD_eq_getElem?_getD,List.getElem?_eq_getElem h1,List.getElem?_eq_getElem h2] at this
 exact this.symm
theorem Jf{p:Int}{b L:List Int}{i:Nat}{c:Int}{y:Nat}(h:i+y<L.length):(fa p b L i c y).set (i+y) (lP p ((fa p b L i c y).getD (i+y) 0) (mulM p c (b.getD y 0)))=fa p b L i c (y+1):=by
 rw[Ab _ _ _ _ _ _ h,if_neg (by omega)]
 unfold fa
 rw[L7]
 refine rf (fun t _=>?_)
 by_cases ht:t=i+y
 ·subst ht
  rw[if_pos rfl,if_pos (by omega),Nat.add_sub_cancel_left]
 ·rw[if_neg ht]
  by_cases h2:i<=t/\t<i+y
  ·rw[if_pos h2,if_pos (by omega)]
  ·rw[if_neg h2,if_neg (by omega)]
theorem Ey(p r:Int)(a b:List Int)(n:Nat):List.replicate n 0=iZ p r a b n 0:=by
 rw[FF]
 exact rf (fun t _=>(if_neg (by omega)).symm)
theorem Pu{p r:Int}{a b:List Int}{n k:Nat}(h:b.length+k<=a.length):(iZ p r a b n k).set (a.length-b.length-k) (rF p r a b k)=iZ p r a b n (k+1):=by
 unfold iZ
 rw[L7]
 refine rf (fun t _=>?_)
 by_cases ht:t=a.length-b.length-k
 ·rw[if_pos ht,if_pos (by omega),show a.length-b.length-t=k by omega]
 ·rw[if_neg ht]
  by_cases h2:a.length-b.length<t+k/\t<=a.length-b.length
  ·rw[if_pos h2,if_pos (by omega)]
  ·rw[if_neg h2,if_neg (by omega)]
theorem KV{f:Int}{a b:List Int}(ha:bC f a=true)(r:Int)(n:Nat)(h:a.length<b.length):(bj (iZ (ae f) r a b n 0),bj a)=lD (ae f) a b:=by
 unfold lD
 rw[if_pos h,tY (iA ha).2.2.2,<-Ey]
 congr 1
 have:bj (List.replicate n (0:Int))=bj []:=GC (fun t=>by
  rw[FF,FG]
  split<;>rfl)
 rw[this];rfl
theorem MB{f:Int}{b:List Int}(hb:bC f b=true)(h:0<b.length):b.getD (b.length-1) 0%ae f≠0:=by
 obtain⟨hm,he,_,ht⟩:=iA hb
 have hh:=vO (cH hm).1 he (b.length-1)
 unfold El at hh
 rw[Int.emod_eq_of_lt hh.1 hh.2]
 exact zu ht h
theorem DR :
 ∀(d:Int×List Int×List Int),Ty.wf ai d.1/\Ty.wf al d.2.1/\Ty.wf al d.2.2->bC d.1 d.2.1=true/\bC d.1 d.2.2=true/\d.2.2.length≠(0:Nat)->d.2.1.length<=(1048576:Nat)/\(Ty.wf al d.2.1->(0:Nat)<=d.2.1.length/\((d.1=d.1/\ah d.2.1/\ah d.2.2/\an/\an/\(0:Int)=(↑(0:Nat):Int))/\ah d.2.1/\[]=List.replicate (0:Nat) (0:Ty.den ai))/\∀(x:Nat),x<=d.2.1.length->(decide ((x:Int)<(d.2.1.length:Int))=true->(List.length (List.replicate x (0:Ty.den ai))+List.length [(0:Int)])*(8:Nat)<=(140737488355328:Nat)/\∃(x':Nat),x'<=d.2.1.length/\d.2.1.length-x'<d.2.1.length-x/\(d.1=d.1/\ah d.2.1/\ah d.2.2/\an/\an/\i64.wrap ((x:Int)+(1:Int))=(x':Int))/\ah d.2.1/\List.replicate x (0:Ty.den ai)++[(0:Int)]=List.replicate x' (0:Ty.den ai))/\(decide ((x:Int)<(d.2.1.length:Int))=false->((0:Int)<=i64.wrap ((d.2.2.length:Int)-(1:Int))/\i64.wrap ((d.2.2.length:Int)-(1:Int))<(d.2.2.length:Int))/\True/\(Ty.wf ai (bk d.1 (d.2.2.getD (Int.toNat (i64.wrap ((d.2.2.length:Int)-(1:Int)))) (0:Int)) (-1:Int))->(0:Nat)<=d.2.1.length+(1:Nat)-d.2.2.length/\((d.1=d.1/\ah d.2.1/\ah d.2.2/\an/\an/\ah (x:Int)/\ah (bk d.1 (d.2.2.getD (Int.toNat (i64.wrap ((d.2.2.length:Int)-(1:Int)))) (0:Int)) (-1:Int))/\(d.2.1.length:Int)=(d.2.1.length:Int)-(↑(0:Nat):Int))/\d.2.1=fF (ae d.1) (cZ (ae d.1) d.2.2) d.2.1 d.2.2 (0:Nat)/\List.replicate x (0:Ty.den ai)=iZ (ae d.1) (cZ (ae d.1) d.2.2) d.2.1 d.2.2 d.2.1.length (0:Nat))/\∀(x_1:Nat),x_1<=d.2.1.length+(1:Nat)-d.2.2.length->(decide ((d.2.2.length:Int)<=(d.2.1.length:Int)-(x_1:Int))=true->((0:Int)<=i64.wrap ((d.2.1.length:Int)-(x_1:Int)-(1:Int))/\i64.wrap ((d.2.1.length:Int)-(x_1:Int)-(1:Int))<(↑(List.length (fF (ae d.1) (cZ (ae d.1) d.2.2) d.2.1 d.2.2 x_1)):Int))/\True/\(Ty.wf ai (cD d.1 (List.getD (fF (ae d.1) (cZ (ae d.1) d.2.2) d.2.1 d.2.2 x_1) (Int.toNat (i64.wrap ((d.2.1.length:Int)-(x_1:Int)-(1:Int)))) (0:Int)) (bk d.1 (d.2.2.getD (Int.toNat (i64.wrap ((d.2.2.length:Int)-(1:Int)))) (0:Int)) (-1:Int)))->((0:Int)<=i64.wrap ((d.2.1.length:Int)-(x_1:Int)-(d.2.2.length:Int))/\i64.wrap ((d.2.1.length:Int)-(x_1:Int)-(d.2.2.length:Int))<(↑(List.length (iZ (ae d.1) (cZ (ae d.1) d.2.2) d.2.1 d.2.2 d.2.1.length x_1)):Int))/\(0:Nat)<=d.2.2.length/\((d.1=d.1/\ah d.2.1/\ah d.2.2/\an/\an/\ah (x:Int)/\ah (bk d.1 (d.2.2.getD (Int.toNat (i64.wrap ((d.2.2.length:Int)-(1:Int)))) (0:Int)) (-1:Int))/\ah ((d.2.1.length:Int)-(x_1:Int))/\ah (cD d.1 (List.getD (fF (ae d.1) (cZ (ae d.1) d.2.2) d.2.1 d.2.2 x_1) (Int.toNat (i64.wrap ((d.2.1.length:Int)-(x_1:Int)-(1:Int)))) (0:Int)) (bk d.1 (d.2.2.getD (Int.toNat (i64.wrap ((d.2.2.length:Int)-(1:Int)))) (0:Int)) (-1:Int)))/\(0:Int)=(↑(0:Nat):Int))/\fF (ae d.1) (cZ (ae d.1) d.2.2) d.2.1 d.2.2 x_1=fa (ae d.1) d.2.2 (fF (ae d.1) (cZ (ae d.1) d.2.2) d.2.1 d.2.2 x_1) (d.2.1.length-d.2.2.length-x_1) (rF (ae d.1) (cZ (ae d.1) d.2.2) d.2.1 d.2.2 x_1) (0:Nat)/\List.set (iZ (ae d.1) (cZ (ae d.1) d.2.2) d.2.1 d.2.2 d.2.1.length x_1) (Int.toNat (i64.wrap ((d.2.1.length:Int)-(x_1:Int)-(d.2.2.length:Int)))) (cD d.1 (List.getD (fF (ae d.1) (cZ (ae d.1) d.2.2) d.2.1 d.2.2 x_1) (Int.toNat (i64.wrap ((d.2.1.length:Int)-(x_1:Int)-(1:Int)))) (0:Int)) (bk d.1 (d.2.2.getD (Int.toNat (i64.wrap ((d.2.2.length:Int)-(1:Int)))) (0:Int)) (-1:Int)))=iZ (ae d.1) (cZ (ae d.1) d.2.2) d.2.1 d.2.2 d.2.1.length (x_1+(1:Nat)))/\∀(x_2:Nat),x_2<=d.2.2.length->(decide ((x_2:Int)<(d.2.2.length:Int))=true->((0:Int)<=i64.wrap (i64.wrap ((d.2.1.length:Int)-(x_1:Int)-(d.2.2.length:Int))+(x_2:Int))/\i64.wrap (i64.wrap ((d.2.1.length:Int)-(x_1:Int)-(d.2.2.length:Int))+(x_2:Int))<(↑(List.length (fa (ae d.1) d.2.2 (fF (ae d.1) (cZ (ae d.1) d.2.2) d.2.1 d.2.2 x_1) (d.2.1.length-d.2.2.length-x_1) (rF (ae d.1) (cZ (ae d.1) d.2.2) d.2.1 d.2.2 x_1) x_2)):Int))/\((0:Int)<=(x_2:Int)/\(x_2:Int)<(d.2.2.length:Int))/\True/\True/\((0:Int)<=i64.wrap (i64.wrap ((d.2.1.length:Int)-(x_1:Int)-(d.2.2.length:Int))+(x_2:Int))/\i64.wrap (i64.wrap ((d.2.1.length:Int)-(x_1:Int)-(d.2.2.length:Int))+(x_2:Int))<(↑(List.length (fa (ae d.1) d.2.2 (fF (ae d.1) (cZ (ae d.1) d.2.2) d.2.1 d.2.2 x_1) (d.2.1.length-d.2.2.length-x_1) (rF (ae d.1) (cZ (ae d.1) d.2.2) d.2.1 d.2.2 x_1) x_2)):Int))/\(Ty.wf ai (gI d.1 (List.getD (fa (ae d.1) d.2.2 (fF (ae d.1) (cZ (ae d.1) d.2.2) d.2.1 d.2.2 x_1) (d.2.1.length-d.2.2.length-x_1) (rF (ae d.1) (cZ (ae d.1) d.2.2) d.2.1 d.2.2 x_1) x_2) (Int.toNat (i64.wrap (i64.wrap ((d.2.1.length:Int)-(x_1:Int)-(d.2.2.length:Int))+(x_2:Int)))) (0:Int)) (cD d.1 (cD d.1 (List.getD (fF (ae d.1) (cZ (ae d.1) d.2.2) d.2.1 d.2.2 x_1) (Int.toNat (i64.wrap ((d.2.1.length:Int)-(x_1:Int)-(1:Int)))) (0:Int)) (bk d.1 (d.2.2.getD (Int.toNat (i64.wrap ((d.2.2.length:Int)-(1:Int)))) (0:Int)) (-1:Int))) (d.2.2.getD ((x_2:Int).toNat) (0:Int))))->Ty.wf ai (cD d.1 (cD d.1 (List.getD (fF (ae d.1) (cZ (ae d.1) d.2.2) d.2.1 d.2.2 x_1) (Int.toNat (i64.wrap ((d.2.1.length:Int)-(x_1:Int)-(1:Int)))) (0:Int)) (bk d.1 (d.2.2.getD (Int.toNat (i64.wrap ((d.2.2.length:Int)-(1:Int)))) (0:Int)) (-1:Int))) (d.2.2.getD ((x_2:Int).toNat) (0:Int)))->∃(x':Nat),x'<=d.2.2.length/\d.2.2.length-x'<d.2.2.length-x_2/\(d.1=d.1/\ah d.2.1/\ah d.2.2/\an/\an/\ah (x:Int)/\ah (bk d.1 (d.2.2.getD (Int.toNat (i64.wrap ((d.2.2.length:Int)-(1:Int)))) (0:Int)) (-1:Int))/\ah ((d.2.1.length:Int)-(x_1:Int))/\ah (cD d.1 (List.getD (fF (ae d.1) (cZ (ae d.1) d.2.2) d.2.1 d.2.2 x_1) (Int.toNat (i64.wrap ((d.2.1.length:Int)-(x_1:Int)-(1:Int)))) (0:Int)) (bk d.1 (d.2.2.getD (Int.toNat (i64.wrap ((d.2.2.length:Int)-(1:Int)))) (0:Int)) (-1:Int)))/\i64.wrap ((x_2:Int)+(1:Int))=(x':Int))/\List.set (fa (ae d.1) d.2.2 (fF (ae d.1) (cZ (ae d.1) d.2.2) d.2.1 d.2.2 x_1) (d.2.1.length-d.2.2.length-x_1) (rF (ae d.1) (cZ (ae d.1) d.2.2) d.2.1 d.2.2 x_1) x_2) (Int.toNat (i64.wrap (i64.wrap ((d.2.1.length:Int)-(x_1:Int)-(d.2.2.length:Int))+(x_2:Int)))) (gI d.1 (List.getD (fa (ae d.1) d.2.2 (fF (ae d.1) (cZ (ae d.1) d.2.2) d.2.1 d.2.2 x_1) (d.2.1.length-d.2.2.length-x_1) (rF (ae d.1) (cZ (ae d.1) d.2.2) d.2.1 d.2.2 x_1) x_2) (Int.toNat (i64.wrap (i64.wrap ((d.2.1.length:Int)-(x_1:Int)-(d.2.2.length:Int))+(x_2:Int)))) (0:Int)) (cD d.1 (cD d.1 (List.getD (fF (ae d.1) (cZ (ae d.1) d.2.2) d.2.1 d.2.2 x_1) (Int.toNat (i64.wrap ((d.2.1.length:Int)-(x_1:Int)-(1:Int)))) (0:Int)) (bk d.1 (d.2.2.getD (Int.toNat (i64.wrap ((d.2.2.length:Int)-(1:Int)))) (0:Int)) (-1:Int))) (d.2.2.getD ((x_2:Int).toNat) (0:Int))))=fa (ae d.1) d.2.2 (fF (ae d.1) (cZ (ae d.1) d.2.2) d.2.1 d.2.2 x_1) (d.2.1.length-d.2.2.length-x_1) (rF (ae d.1) (cZ (ae d.1) d.2.2) d.2.1 d.2.2 x_1) x'/\ah (iZ (ae d.1) (cZ (ae d.1) d.2.2) d.2.1 d.2.2 d.2.1.length (x_1+(1:Nat)))))/\(decide ((x_2:Int)<(d.2.2.length:Int))=false->∃(x':Nat),x'<=d.2.1.length+(1:Nat)-d.2.2.length/\d.2.1.length+(1:Nat)-d.2.2.length-x'<d.2.1.length+(1:Nat)-d.2.2.length-x_1/\(d.1=d.1/\ah d.2.1/\ah d.2.2/\an/\an/\ah (x:Int)/\ah (bk d.1 (d.2.2.getD (Int.toNat (i64.wrap ((d.2.2.length:Int)-(1:Int)))) (0:Int)) (-1:Int))/\i64.wrap ((d.2.1.length:Int)-(x_1:Int)-(1:Int))=(d.2.1.length:Int)-(x':Int))/\fa (ae d.1) d.2.2 (fF (ae d.1) (cZ (ae d.1) d.2.2) d.2.1 d.2.2 x_1) (d.2.1.length-d.2.2.length-x_1) (rF (ae d.1) (cZ (ae d.1) d.2.2) d.2.1 d.2.2 x_1) x_2=fF (ae d.1) (cZ (ae d.1) d.2.2) d.2.1 d.2.2 x'/\iZ (ae d.1) (cZ (ae d.1) d.2.2) d.2.1 d.2.2 d.2.1.length (x_1+(1:Nat))=iZ (ae d.1) (cZ (ae d.1) d.2.2) d.2.1 d.2.2 d.2.1.length x')))/\(decide ((d.2.2.length:Int)<=(d.2.1.length:Int)-(x_1:Int))=false->List.length (iZ (ae d.1) (cZ (ae d.1) d.2.2) d.2.1 d.2.2 d.2.1.length x_1)<=(1048576:Nat)/\(Ty.wf al (bj (iZ (ae d.1) (cZ (ae d.1) d.2.2) d.2.1 d.2.2 d.2.1.length x_1))->List.length (fF (ae d.1) (cZ (ae d.1) d.2.2) d.2.1 d.2.2 x_1)<=(1048576:Nat)/\(Ty.wf al (bj (fF (ae d.1) (cZ (ae d.1) d.2.2) d.2.1 d.2.2 x_1))->(bj (iZ (ae d.1) (cZ (ae d.1) d.2.2) d.2.1 d.2.2 d.2.1.length x_1),bj (fF (ae d.1) (cZ (ae d.1) d.2.2) d.2.1 d.2.2 x_1))=lD (ae d.1) d.2.1 d.2.2)))))):=by
  intro (d:Int×List Int×List Int) hw hp
  obtain⟨f,a,b⟩:=d
  replace hp:bC f a=true/\bC f b=true/\b.length≠0:=hp
  simp only[exists_const,forall_const,decide_eq_true_eq,decide_eq_false_iff_not,beq_iff_eq,sxS]
  obtain⟨ha,hb,Ig⟩:=hp
  obtain⟨hm,Ii,Wm,_⟩:=iA ha
  obtain⟨_,rO,E7,_⟩:=iA hb
  have hq:=(cH hm).1
  have WN:i64.wrap ((b.length:Int)-1)=((b.length-1:Nat):Int):=by rw[wrap_small (by omega)];omega
  simp only[WN,Int.toNat_natCast,xk,s6,tZ]
  have hz:bk f (b.getD (b.length-1) 0) (-1)=cZ (ae f) b:=xy hm (MB hb (by omega))
  rw[hz]
  refine⟨by omega,fun _=>⟨by omega,⟨rfl,rfl⟩,fun x hx=>⟨fun h1=>⟨by simp only[List.length_replicate,List.length_cons,List.length_nil];omega,x+1,by omega,by omega,bp (by omega),List.replicate_succ'.symm⟩,fun h1=>⟨⟨by omega,by omega⟩,fun _=>⟨by omega,⟨by omega,rfl,by rw[show x=a.length by omega];exact Ey _ _ _ _ _⟩,fun k hk=>⟨fun h2=>?_,fun h2=>?_⟩⟩⟩⟩⟩⟩
  ·have eI:i64.wrap ((a.length:Int)-(k:Int)-1)=((a.length-1-k:Nat):Int):=by rw[wrap_small (by omega)];omega
   have wj:i64.wrap ((a.length:Int)-(k:Int)-(b.length:Int))=((a.length-b.length-k:Nat):Int):=by rw[wrap_small (by omega)];omega
   have hC:cD f ((fF (ae f) (cZ (ae f) b) a b k).getD (a.length-1-k) 0) (cZ (ae f) b)=rF (ae f) (cZ (ae f) b) a b k:=by rw[jn hm];rfl
   rw[eI,wj]
   simp only[Int.toNat_natCast]
   rw[hC]
   refine⟨⟨by omega,by omega⟩,fun _=>⟨⟨by omega,by omega⟩,by omega,⟨rfl,Hb _ _ _ _ _,Pu (by omega)⟩,fun y hy=>⟨fun h3=>?_,fun h3=>?_⟩⟩⟩
   ·have T5:i64.wrap (((a.length-b.length-k:Nat):Int)+(y:Int))=((a.length-b.length-k+y:Nat):Int):=by rw[wrap_small (by omega)];omega
    rw[T5,Int.toNat_natCast]
    refine⟨⟨by omega,by omega⟩,⟨by omega,by omega⟩,⟨by omega,by omega⟩,fun _ _=>⟨y+1,by omega,by omega,bp (by omega),?_⟩⟩
    rw[tM hm,jn hm]
    exact Jf (by rw[xk];omega)
   ·refine⟨k+1,by omega,by omega,by omega,?_,rfl⟩
    rw[show y=b.length by omega];rfl
  ·refine⟨by omega,fun _=>⟨by omega,fun _=>?_⟩⟩
   rcases Nat.lt_or_ge a.length b.length with h3|h3
   ·rw[show k=0 by omega]
    exact KV ha _ _ h3
   ·rw[show k=a.length-b.length+1 by omega]
    exact M6 hm ha (MB hb (by omega)) (by omega) h3
theorem Jg{u:Nat}(h:u<128):e7 u=[(u:Int)]:=by rw[e7,dif_pos h]
theorem Oq{u:Nat}(h:128<=u):e7 u=((u%128+128:Nat):Int)::e7 (u/128):=by rw[e7,dif_neg (by omega)]
theorem KW:∀(k u:Nat),u<128^(k+1)->1<=(e7 u).length/\(e7 u).length<=k+1
 | 0,u,h=>by rw[Jg (by omega)];simp
 | k+1,u,h=>by
   by_cases h1:u<128
   ·rw[Jg h1];simp
   ·rw[Oq (by omega),List.length_cons]
    have:=KW k (u/128) (by rw[Nat.div_lt_iff_lt_mul (by omega)];rw[Nat.pow_succ] at h;omega)
    omega
theorem H5{u:Nat}(h:u<=4398046511103):1<=(e7 u).length/\(e7 u).length<=6:=KW 5 u (by omega)
theorem KH{x:Int}(h:du x):pV x<=2199023255552:=by unfold pV;unfold du at h;split<;>omega
theorem IU{x:Int}(h:du x):(pV x:Int)=if x<0 then -2*x-1 else 2*x:=by unfold pV;unfold du at h;split<;>omega
theorem oa(x:Int):(cf x).length<=6:=by
 unfold cf
 split
 ·rename_i h;exact (H5 (by have:=KH h;omega)).2
 ·simp
theorem yX:∀(l:List Int),(l.flatMap cf).length<=6*l.length
 | []=>by simp
 | x::l=>by rw[List.flatMap_cons,List.length_append,List.length_cons];have:=oa x;have:=yX l;omega
theorem zj(l:List Int):(kC l).length<=6+6*l.length:=by
 unfold kC
 rw[List.length_append]
 have:=oa l.length;have:=yX l;omega
theorem rp{n:Int}(h:0<=n/\n<=255):u8.wrap n=n:=by
 unfold IntKind.wrap
 simp[IntKind.signed,IntKind.bits]
 omega
theorem FW{d:Int}{x:List Int×Nat}(h:mj d x)(hw:du d):x.1.length<=6:=by
 have:=congrArg List.length h.1
 rw[List.length_append] at this
 have:=(H5 (u:=pV d) (by have:=KH hw;omega)).2
 omega
theorem Mh{d:Int}(hw:du d):mj d ([],pV d):=⟨rfl,by have:=KH hw;show pV d<=_;omega,by show 0<=100;omega⟩
theorem S_{n:Nat}:u8.wrap (i64.wrap (128+(n:Int).tmod 128))=((n%128+128:Nat):Int)/\u8.wrap (i64.wrap ((n:Int).tmod 128+128))=((n%128+128:Nat):Int):=by
 have:(n:Int).tmod 128=((n%128:Nat):Int):=by rw[Int.tmod_eq_emod_of_nonneg (by omega)];omega
 rw[this,wrap_small (by omega),wrap_small (by omega),rp (by omega),rp (by omega)]
 constructor<;>omega
theorem S9{n:Nat}(h:n<=4398046511104):i64.wrap ((n:Int).tdiv 128)=((n/128:Nat):Int):=by
 have:(n:Int).tdiv 128=((n/128:Nat):Int):=by rw[Int.tdiv_eq_ediv_of_nonneg (by omega)];omega
 rw[this,wrap_small (by omega)]
theorem Se{d:Int}{x:List Int×Nat}(h:mj d x)(hw:du d)(hx:128<=(x.2:Int)):mj d (x.1++[((x.2%128+128:Nat):Int)],x.2/128):=by
 refine⟨?_,?_,?_⟩
 ·show (x.1++[((x.2%128+128:Nat):Int)])++e7 (x.2/128)=_
  rw[List.append_assoc,List.singleton_append,<-Oq (by omega)];exact h.1
 ·have:=h.2.1;show x.2/128<=_;omega
 ·have:=FW h hw
  show (x.1++[_]).length<=100
  rw[List.length_append,List.length_singleton];omega
theorem Sd{d:Int}{x:List Int×Nat}(h:mj d x)(hw:du d)(hx:¬128<=(x.2:Int)):x.1++[u8.wrap (x.2:Int)]=cf d:=by
 rw[rp (by omega)]
 unfold cf
 rw[if_pos hw,<-h.1,Jg (by omega)]
theorem PW{d:Int}(hw:du d)(h:d<0):i64.wrap (i64.wrap (-2*d)-1)=(pV d:Int):=by
 rw[IU hw,if_pos h]
 unfold du at hw
 have h1:i64.wrap (-2*d) = -2*d:=wrap_small (by omega)
 rw[h1,wrap_small (by omega)]
theorem PX{d:Int}(hw:du d)(h:¬d<0):i64.wrap (2*d)=(pV d:Int):=by
 rw[IU hw,if_neg h]
 unfold du at hw
 rw[wrap_small (by omega)]
theorem DQ :
 ∀(d:List Int),Ty.wf aC d->d.length<=(1048576:Nat)->(0:Nat)<=d.length/\((d=d/\an/\(0:Int)=(↑(0:Nat):Int))/\[]=List.take (0:Nat) d)/\∀(x:Nat),x<=d.length->(decide ((x:Int)<(d.length:Int))=true->((0:Int)<=(x:Int)/\(x:Int)<(d.length:Int))/\(List.length (List.take x d)+List.length [d.getD ((x:Int).toNat) (0:Int)])*(1:Nat)<=(140737488355328:Nat)/\∃(x':Nat),x'<=d.length/\d.length-x'<d.length-x/\(d=d/\an/\i64.wrap ((x:Int)+(1:Int))=(x':Int))/\List.take x d++[d.getD ((x:Int).toNat) (0:Int)]=List.take x' d)/\(decide ((x:Int)<(d.length:Int))=false->List.take x d=d):=by
  intro d hw hp
  have hp:d.length<=1048576:=hp
  simp only[exists_const,forall_const,decide_eq_true_eq,decide_eq_false_iff_not,beq_iff_eq,sxS]
  refine⟨Nat.zero_le _,⟨rfl,rfl⟩,fun x hx=>⟨fun h=>?_,fun h=>?_⟩⟩
  ·have h1:x<d.length:=by omega
   have eI:i64.wrap ((x:Int)+1)=((x+1:Nat):Int):=by rw[wrap_small (by omega)];rfl
   refine⟨⟨by omega,h⟩,by rw[List.length_take,List.length_singleton];omega,x+1,by omega,by omega,eI,?_⟩
   rw[List.take_succ_eq_append_getElem h1];simp[h1]
  ·have h1:x=d.length:=by omega
   rw[h1,List.take_length]
theorem DM :
 ∀(d:Int),Ty.wf ai d->True->True/\((!(decide ((-1099511627776:Int)<=d)&&decide (d<=(1099511627776:Int))))=true->[]=cf d)/\((!(decide ((-1099511627776:Int)<=d)&&decide (d<=(1099511627776:Int))))=false->(decide (d<(0:Int))=true->(mj d ([],pV d)/\du d)/\((d=d/\an/\i64.wrap (i64.wrap ((-2:Int)*d)-(1:Int))=(pV d:Int))/\([]:List Int)=[])/\∀(x:List Int×Nat),mj d x/\du d->(decide ((128:Int)<=(x.2:Int))=true->(128:Int)≠(0:Int)/\(x.1.length+List.length [u8.wrap (i64.wrap ((128:Int)+Int.tmod (x.2:Int) (128:Int)))])*(1:Nat)<=(140737488355328:Nat)/\(128:Int)≠(0:Int)/\∃(x':List Int×Nat),(mj d x'/\du d)/\x'.2<x.2/\(d=d/\an/\i64.wrap (Int.tdiv (x.2:Int) (128:Int))=(x'.2:Int))/\x.1++[u8.wrap (i64.wrap ((128:Int)+Int.tmod (x.2:Int) (128:Int)))]=x'.1)/\(decide ((128:Int)<=(x.2:Int))=false->(x.1.length+List.length [u8.wrap (x.2:Int)])*(1:Nat)<=(140737488355328:Nat)/\x.1++[u8.wrap (x.2:Int)]=cf d))/\(decide (d<(0:Int))=false->(mj d ([],pV d)/\du d)/\((d=d/\an/\i64.wrap ((2:Int)*d)=(pV d:Int))/\([]:List Int)=[])/\∀(x:List Int×Nat),mj d x/\du d->(decide ((128:Int)<=(x.2:Int))=true->(128:Int)≠(0:Int)/\(x.1.length+List.length [u8.wrap (i64.wrap ((128:Int)+Int.tmod (x.2:Int) (128:Int)))])*(1:Nat)<=(140737488355328:Nat)/\(128:Int)≠(0:Int)/\∃(x':List Int×Nat),(mj d x'/\du d)/\x'.2<x.2/\(d=d/\an/\i64.wrap (Int.tdiv (x.2:Int) (128:Int))=(x'.2:Int))/\x.1++[u8.wrap (i64.wrap ((128:Int)+Int.tmod (x.2:Int) (128:Int)))]=x'.1)/\(decide ((128:Int)<=(x.2:Int))=false->(x.1.length+List.length [u8.wrap (x.2:Int)])*(1:Nat)<=(140737488355328:Nat)/\x.1++[u8.wrap (x.2:Int)]=cf d))):=by
  intro d hw hp
  simp only[exists_const,forall_const,decide_eq_true_eq,decide_eq_false_iff_not,beq_iff_eq,sxS]
  have hW:(decide (-1099511627776<=d)&&decide (d<=1099511627776))=true↔du d:=by unfold du;simp
  refine⟨fun h=>?_,fun h=>?_⟩
  ·unfold cf
   rw[if_neg (fun h1=>by rw[hW.2 h1] at h;cases h)]
  ·have hd:=hW.1 h
   have body:∀(x:List Int×Nat),mj d x/\du d->(128<=(x.2:Int)->(128:Int)≠0/\(x.1.length+[u8.wrap (i64.wrap (128+(x.2:Int).tmod 128))].length)*1<=140737488355328/\(128:Int)≠0 ∧
    ∃ x':List Int×Nat,(mj d x'/\du d)/\x'.2<x.2/\i64.wrap ((x.2:Int).tdiv 128)=(x'.2:Int)/\x.1++[u8.wrap (i64.wrap (128+(x.2:Int).tmod 128))]=x'.1) ∧
    (¬128<=(x.2:Int)->(x.1.length+[u8.wrap (x.2:Int)].length)*1<=140737488355328/\x.1++[u8.wrap (x.2:Int)]=cf d):=by
    intro x ⟨hj,Im⟩
    have hl:=FW hj hd
    refine⟨fun h1=>⟨by omega,by rw[List.length_singleton];omega,by omega,(x.1++[((x.2%128+128:Nat):Int)],x.2/128),⟨Se hj hd h1,hd⟩,?_,S9 hj.2.1,by rw[S_.1]⟩,fun h1=>⟨by rw[List.length_singleton];omega,Sd hj hd h1⟩⟩
    show x.2/128<x.2
    omega
   exact⟨fun h1=>⟨⟨Mh hd,hd⟩,PW hd h1,body⟩,fun h1=>⟨⟨Mh hd,hd⟩,PX hd h1,body⟩⟩
theorem HM :
 ∀(d:List Int×List Int),Ty.wf aC d.1/\Ty.wf aC d.2->d.1.length<=(1048576:Nat)/\d.2.length<=(1048576:Nat)->d.1.length<=(1048576:Nat)/\(Ty.wf aC d.1->(0:Nat)<=d.2.length/\((d.1=d.1/\d.2=d.2/\an/\(0:Int)=(↑(0:Nat):Int))/\d.1=d.1++List.take (0:Nat) d.2)/\∀(x:Nat),x<=d.2.length->(decide ((x:Int)<(d.2.length:Int))=true->((0:Int)<=(x:Int)/\(x:Int)<(d.2.length:Int))/\(List.length (d.1++List.take x d.2)+List.length [d.2.getD ((x:Int).toNat) (0:Int)])*(1:Nat)<=(140737488355328:Nat)/\∃(x':Nat),x'<=d.2.length/\d.2.length-x'<d.2.length-x/\(d.1=d.1/\d.2=d.2/\an/\i64.wrap ((x:Int)+(1:Int))=(x':Int))/\d.1++List.take x d.2++[d.2.getD ((x:Int).toNat) (0:Int)]=d.1++List.take x' d.2)/\(decide ((x:Int)<(d.2.length:Int))=false->d.1++List.take x d.2=d.1++d.2)):=by
  intro d hw hp
  have fb:d.1.length<=1048576:=hp.1
  have lZ:d.2.length<=1048576:=hp.2
  simp only[exists_const,forall_const,decide_eq_true_eq,decide_eq_false_iff_not,beq_iff_eq,sxS]
  refine⟨fb,fun _=>⟨Nat.zero_le _,by simp,fun x hx=>⟨fun h=>?_,fun h=>?_⟩⟩⟩
  ·have h1:x<d.2.length:=by omega
   have eI:i64.wrap ((x:Int)+1)=((x+1:Nat):Int):=by rw[wrap_small (by omega)];rfl
   refine⟨⟨by omega,h⟩,by rw[List.length_append,List.length_take,List.length_singleton];omega,x+1,by omega,by omega,eI,?_⟩
   rw[List.take_succ_eq_append_getElem h1,List.append_assoc];simp[h1]
  ·have h1:x=d.2.length:=by omega
   rw[h1,List.take_length]
theorem S7{f:Int}(h:ae f≠0):0<=f/\f<=255:=by
 have:=nY.1 (QT.2 h)
 omega
theorem G6{l:List Int}(h:ep l=true):l.length<=400/\∀ x∈l,du x:=by
 unfold ep at h
 simp only[Bool.and_eq_true,decide_eq_true_eq] at h
 exact h
theorem LL{d:Jb}(h:bI d=true):u8.wrap d.1=d.1/\u8.wrap d.2.1=d.2.1/\(d.2.2.1.length<=400/\∀ x∈d.2.2.1,du x)/\(d.2.2.2.1.length<=400/\∀ x∈d.2.2.2.1,du x)/\du d.2.2.2.2:=by
 obtain⟨k,f,a,b,c⟩:=d
 obtain⟨⟨h1,h2,h3⟩,h4,h5,h6,h7,h8⟩:=Fx.1 h
 exact⟨rp (by omega),rp (S7 h2),G6 h4,G6 h5,by show -1099511627776<=c/\c<=1099511627776;omega⟩
theorem PU(d:List Int×List Int)(k:Nat):(nN d k).length<=d.1.length+6+6*d.2.length:=by
 unfold nN
 rw[List.length_append,List.length_append]
 have:=oa d.2.length;have:=yX (d.2.take k)
 rw[List.length_take] at this
 omega
theorem A8{α:Type}{l:List α}{z:α}{k:Nat}(h:k<l.length):l.take (k+1)=l.take k++[l.getD k z]:=by
 rw[List.take_succ_eq_append_getElem h];simp[h]
theorem S8{d:List Int×List Int}{k:Nat}(h:k<d.2.length):nN d (k+1)=nN d k++cf (d.2.getD k 0):=by
 unfold nN
 rw[A8 (z:=0) h,List.flatMap_append,List.flatMap_singleton]
 simp only[List.append_assoc]
theorem Cf :
 ∀(d:List Int×List Int),Ty.wf aC d.1/\Ty.wf al d.2->d.1.length<=(524288:Nat)/\d.2.length<=(400:Nat)->True/\(Ty.wf aC (cf (d.2.length:Int))->(d.1.length<=(1048576:Nat)/\List.length (cf (d.2.length:Int))<=(1048576:Nat))/\(Ty.wf aC (d.1++cf (d.2.length:Int))->(0:Nat)<=d.2.length/\((d.2=d.2/\an/\(0:Int)=(↑(0:Nat):Int))/\ah (cf (d.2.length:Int))/\d.1++cf (d.2.length:Int)=nN d (0:Nat))/\∀(x:Nat),x<=d.2.length->(decide ((x:Int)<(d.2.length:Int))=true->((0:Int)<=(x:Int)/\(x:Int)<(d.2.length:Int))/\True/\(Ty.wf aC (cf (d.2.getD ((x:Int).toNat) (0:Int)))->(0:Nat)<=List.length (cf (d.2.getD x (0:Int)))/\((d.2=d.2/\an/\ah (x:Int)/\ah (x:Int)/\d.2=d.2/\ah (d.2.length:Int)/\ah (decide ((x:Int)<(d.2.length:Int)))/\d.2=d.2/\ah (x:Int)/\ah (d.2.getD ((x:Int).toNat) (0:Int))/\ah (d.2.getD ((x:Int).toNat) (0:Int))/\ah (↑(List.length (cf (d.2.getD ((x:Int).toNat) (0:Int)))):Int)/\(0:Int)=(↑(0:Nat):Int))/\ah (cf (d.2.length:Int))/\nN d x=nN d x++List.take (0:Nat) (cf (d.2.getD x (0:Int)))/\ah (cf (d.2.getD ((x:Int).toNat) (0:Int))))/\∀(x_1:Nat),x_1<=List.length (cf (d.2.getD x (0:Int)))->(decide ((x_1:Int)<(↑(List.length (cf (d.2.getD ((x:Int).toNat) (0:Int)))):Int))=true->((0:Int)<=(x_1:Int)/\(x_1:Int)<(↑(List.length (cf (d.2.getD ((x:Int).toNat) (0:Int)))):Int))/\(List.length (nN d x++List.take x_1 (cf (d.2.getD x (0:Int))))+List.length [List.getD (cf (d.2.getD ((x:Int).toNat) (0:Int))) ((x_1:Int).toNat) (0:Int)])*(1:Nat)<=(140737488355328:Nat)/\∃(x':Nat),x'<=List.length (cf (d.2.getD x (0:Int)))/\List.length (cf (d.2.getD x (0:Int)))-x'<List.length (cf (d.2.getD x (0:Int)))-x_1/\(d.2=d.2/\an/\ah (x:Int)/\ah (x:Int)/\d.2=d.2/\ah (d.2.length:Int)/\ah (decide ((x:Int)<(d.2.length:Int)))/\d.2=d.2/\ah (x:Int)/\ah (d.2.getD ((x:Int).toNat) (0:Int))/\ah (d.2.getD ((x:Int).toNat) (0:Int))/\ah (↑(List.length (cf (d.2.getD ((x:Int).toNat) (0:Int)))):Int)/\i64.wrap ((x_1:Int)+(1:Int))=(x':Int))/\ah (cf (d.2.length:Int))/\nN d x++List.take x_1 (cf (d.2.getD x (0:Int)))++[List.getD (cf (d.2.getD ((x:Int).toNat) (0:Int))) ((x_1:Int).toNat) (0:Int)]=nN d x++List.take x' (cf (d.2.getD x (0:Int)))/\ah (cf (d.2.getD ((x:Int).toNat) (0:Int))))/\(decide ((x_1:Int)<(↑(List.length (cf (d.2.getD ((x:Int).toNat) (0:Int)))):Int))=false->∃(x':Nat),x'<=d.2.length/\d.2.length-x'<d.2.length-x/\(d.2=d.2/\an/\i64.wrap ((x:Int)+(1:Int))=(x':Int))/\ah (cf (d.2.length:Int))/\nN d x++List.take x_1 (cf (d.2.getD x (0:Int)))=nN d x')))/\(decide ((x:Int)<(d.2.length:Int))=false->nN d x=d.1++kC d.2))):=by
  intro d hw hp
  have fb:d.1.length<=524288:=hp.1
  have lZ:d.2.length<=400:=hp.2
  simp only[exists_const,forall_const,decide_eq_true_eq,decide_eq_false_iff_not,beq_iff_eq,sxS]
  have h0:=oa d.2.length
  refine fun _=>⟨⟨by omega,by omega⟩,fun _=>⟨Nat.zero_le _,⟨rfl,by unfold nN;simp⟩,fun x hx=>⟨fun h=>?_,fun h=>?_⟩⟩⟩
  ·have h1:x<d.2.length:=by omega
   have hl:=PU d x
   generalize hq:cf (d.2.getD x 0)=q
   have TU:q.length<=6:=by rw[<-hq];exact oa _
   refine⟨⟨by omega,h⟩,fun _=>⟨Nat.zero_le _,⟨rfl,by simp⟩,fun y hy=>⟨fun h2=>?_,fun h2=>?_⟩⟩⟩
   ·have h3:y<q.length:=by omega
    refine⟨⟨by omega,h2⟩,by rw[List.length_append,List.length_take,List.length_singleton];omega,y+1,by omega,by omega,by rw[wrap_small (by omega)];rfl,?_⟩
    rw[A8 (z:=0) h3,List.append_assoc]
   ·refine⟨x+1,by omega,by omega,by rw[wrap_small (by omega)];rfl,?_⟩
    rw[S8 h1,hq,show y=q.length from by omega,List.take_length]
  ·have h1:x=d.2.length:=by omega
   rw[h1];unfold nN kC
   rw[List.take_length,List.append_assoc]
theorem DK :
 ∀(d:Int×Int×List Int×List Int×Int),Ty.wf n6 d->True->True/\((!bI d)=true->[]=eX d)/\((!bI d)=false->True/\(List.length [IntKind.wrap u8 d.1,IntKind.wrap u8 d.2.1]<=(1048576:Nat)/\List.length (cf d.2.2.2.2)<=(1048576:Nat))/\(Ty.wf aC ([IntKind.wrap u8 d.1,IntKind.wrap u8 d.2.1]++cf d.2.2.2.2)->Ty.wf aC (cf d.2.2.2.2)->(List.length ([IntKind.wrap u8 d.1,IntKind.wrap u8 d.2.1]++cf d.2.2.2.2)<=(524288:Nat)/\d.2.2.1.length<=(400:Nat))/\(List.length ([IntKind.wrap u8 d.1,IntKind.wrap u8 d.2.1]++cf d.2.2.2.2++kC d.2.2.1)<=(524288:Nat)/\d.2.2.2.1.length<=(400:Nat))/\(Ty.wf aC ([IntKind.wrap u8 d.1,IntKind.wrap u8 d.2.1]++cf d.2.2.2.2++kC d.2.2.1++kC d.2.2.2.1)->Ty.wf aC ([IntKind.wrap u8 d.1,IntKind.wrap u8 d.2.1]++cf d.2.2.2.2++kC d.2.2.1)->[IntKind.wrap u8 d.1,IntKind.wrap u8 d.2.1]++cf d.2.2.2.2++kC d.2.2.1++kC d.2.2.2.1=eX d))):=by
  intro d hw hp
  simp only[exists_const,forall_const,decide_eq_true_eq,decide_eq_false_iff_not,beq_iff_eq,sxS]
  refine⟨fun h=>?_,fun h=>?_⟩
  ·unfold eX;rw[if_neg (by rw[h];decide)]
  ·obtain⟨e1,e2,⟨l1,_⟩,⟨l2,_⟩,_⟩:=LL h
   have h0:=oa d.2.2.2.2
   have h1:=zj d.2.2.1
   rw[e1,e2]
   refine⟨⟨by simp,by omega⟩,fun _ _=>⟨⟨by simp only[List.length_append,List.length_cons,List.length_nil];omega,l1⟩,⟨by simp only[List.length_append,List.length_cons,List.length_nil];omega,l2⟩,fun _ _=>?_⟩⟩
   unfold eX Jk
   rw[if_pos h]
theorem Xm{α:Type}{a b:List α}{z:α}{x:Nat}(hx:x<a.length)(hl:a.length=b.length)(ht:a.take x=b.take x)(he:a.getD x z=b.getD x z):a.take (x+1)=b.take (x+1):=by
 rw[A8 (z:=z) hx,A8 (z:=z) (by omega),ht,he]
theorem uc{a b:Rs}:lF a b=true↔a=b:=by unfold lF;exact @decide_eq_true_iff _ (Et a b)
theorem Ia{a b:Rs}(h:a≠b):false=lF a b:=by
 cases e:lF a b
 ·rfl
 ·exact absurd (uc.1 e) h
theorem P7{a b:Rs}:(a.1=b.1->(a.2.1=b.2.1->decide (a.2.2=b.2.2)=lF a b)/\(¬a.2.1=b.2.1->false=lF a b))/\(¬a.1=b.1->false=lF a b):=by
 obtain⟨a1,a2,a3⟩:=a
 obtain⟨b1,b2,b3⟩:=b
 refine⟨fun h1=>⟨fun h2=>?_,fun h=>Ia (fun e=>h (by rw[e]))⟩,fun h=>Ia (fun e=>h (by rw[e]))⟩
 have h1:a1=b1:=h1
 have h2:a2=b2:=h2
 subst h1;subst h2
 cases e:lF (a1,a2,a3) (a1,a2,b3)
 ·rw[decide_eq_false_iff_not]
  intro h3
  have h3:a3=b3:=h3
  rw[h3,uc.2 rfl] at e;cases e
 ·have:=uc.1 e
  injection this with _ this
  injection this with _ this
  exact decide_eq_true this
theorem HC :
 ∀(d:List Int),Ty.wf aC d->d.length<=(1048576:Nat)->(0:Nat)<=d.length/\((d=d/\an/\(0:Int)=(↑(0:Nat):Int))/\[]=List.take (0:Nat) d)/\∀(x:Nat),x<=d.length->(decide ((x:Int)<(d.length:Int))=true->((0:Int)<=(x:Int)/\(x:Int)<(d.length:Int))/\(List.length (List.take x d)+List.length [d.getD ((x:Int).toNat) (0:Int)])*(1:Nat)<=(140737488355328:Nat)/\∃(x':Nat),x'<=d.length/\d.length-x'<d.length-x/\(d=d/\an/\i64.wrap ((x:Int)+(1:Int))=(x':Int))/\List.take x d++[d.getD ((x:Int).toNat) (0:Int)]=List.take x' d)/\(decide ((x:Int)<(d.length:Int))=false->List.take x d=d):=by
  intro d hw hp
  have hp:d.length<=1048576:=hp
  simp only[exists_const,forall_const,decide_eq_true_eq,decide_eq_false_iff_not,beq_iff_eq,sxS]
  refine⟨Nat.zero_le _,⟨rfl,rfl⟩,fun x hx=>⟨fun h=>?_,fun h=>?_⟩⟩
  ·have h1:x<d.length:=by omega
   have eI:i64.wrap ((x:Int)+1)=((x+1:Nat):Int):=by rw[wrap_small (by omega)];rfl
   refine⟨⟨by omega,h⟩,by rw[List.length_take,List.length_singleton];omega,x+1,by omega,by omega,eI,?_⟩
   rw[A8 (z:=0) h1]
  ·have h1:x=d.length:=by omega
   rw[h1,List.take_length]
theorem DI :
 ∀(d:List Int×List Int),Ty.wf aC d.1/\Ty.wf aC d.2->True->((!decide ((d.1.length:Int)=(d.2.length:Int)))=true->false=decide (d.1=d.2))/\((!decide ((d.1.length:Int)=(d.2.length:Int)))=false->((0:Nat)<=d.1.length/\d.1.length=d.2.length/\List.take (0:Nat) d.1=List.take (0:Nat) d.2)/\(d.1=d.1/\d.2=d.2/\(0:Int)=(↑(0:Nat):Int))/\∀(x:Nat),x<=d.1.length/\d.1.length=d.2.length/\List.take x d.1=List.take x d.2->(decide ((x:Int)<(d.1.length:Int))=true->((0:Int)<=(x:Int)/\(x:Int)<(d.1.length:Int))/\((0:Int)<=(x:Int)/\(x:Int)<(d.2.length:Int))/\((!decide (d.1.getD ((x:Int).toNat) (0:Int)=d.2.getD ((x:Int).toNat) (0:Int)))=true->false=decide (d.1=d.2))/\((!decide (d.1.getD ((x:Int).toNat) (0:Int)=d.2.getD ((x:Int).toNat) (0:Int)))=false->∃(x':Nat),(x'<=d.1.length/\d.1.length=d.2.length/\List.take x' d.1=List.take x' d.2)/\d.1.length-x'<d.1.length-x/\d.1=d.1/\d.2=d.2/\i64.wrap ((x:Int)+(1:Int))=(x':Int)))/\(decide ((x:Int)<(d.1.length:Int))=false->true=decide (d.1=d.2))):=by
  intro d hw hp
  have hl:d.1.length<=9223372036854775807:=hw.1.1
  simp only[exists_const,forall_const,decide_eq_true_eq,decide_eq_false_iff_not,beq_iff_eq,sxS]
  refine⟨fun h=>(decide_eq_false (fun e=>h (by rw[e]))).symm,fun h=>⟨⟨by omega,by omega,rfl⟩,rfl,fun x hx=>⟨fun aZ=>?_,fun lW=>?_⟩⟩⟩
  ·obtain⟨h1,h2,h3⟩:=hx
   refine⟨⟨by omega,aZ⟩,⟨by omega,by omega⟩,fun bb=>(decide_eq_false (fun e=>bb (by rw[e]))).symm,fun he=>⟨x+1,⟨by omega,h2,Xm (by omega) h2 h3 he⟩,by omega,by rw[bp (by omega)]⟩⟩
  ·obtain⟨h1,h2,h3⟩:=hx
   have:x=d.1.length:=by omega
   rw[this,List.take_length,h2,List.take_length] at h3
   exact (decide_eq_true h3).symm
theorem HD :
 ∀(d:(Int×List Int×List Int)×Int×List Int×List Int),Ty.wf cA d.1/\Ty.wf cA d.2->True->(decide (d.1.1=d.2.1)=true->True/\(r9 d.1.2.1 d.2.2.1=true->True/\r9 d.1.2.2 d.2.2.2=lF d.1 d.2)/\(r9 d.1.2.1 d.2.2.1=false->false=lF d.1 d.2))/\(decide (d.1.1=d.2.1)=false->false=lF d.1 d.2):=by
  intro d hw hp
  simp only[exists_const,forall_const,decide_eq_true_eq,decide_eq_false_iff_not,beq_iff_eq,sxS]
  simp only[r9,decide_eq_true_eq,decide_eq_false_iff_not]
  exact P7
theorem xL :
 ∀(d:List Int×Int×Int) (x:Unit),Ty.wf ar d->True->af d->af d/\∀(g:List Int×Int×Int) (r:Bool),af g->Ty.wf ar g->Ty.wf Ty.bool r->(r=true->(af g/\(0:Nat)<List.length [(-1:Int),(9:Int),(100:Int)])/\∀(c_:List Int×Int×Int) (aX:Int),af c_/\eN [(-1:Int),(9:Int),(100:Int)] aX->Ty.wf ar c_->Ty.wf ai aX->af c_)/\(r=false->af g/\∀(g:List Int×Int×Int) (r:Int),af g/\aA (9:Int) r->Ty.wf ar g->Ty.wf ai r->af g):=by
  intro d _u hw _t hp
  replace hp:af d:=hp
  exact⟨hp,fun g r h _ _=>⟨fun _=>⟨⟨h,by simp⟩,fun g2 r2 h2 _ _=>h2.1⟩,fun _=>⟨h,fun g2 r2 h2 _ _=>h2.1⟩⟩⟩
theorem vC :
 ∀(d:List Int×Int×Int) (x:Int),Ty.wf ar d->Ty.wf ai x->af d->True/\(Ty.wf ai (ae x)->(decide (ae x=(0:Int))=true->af d/\∀(g:List Int×Int×Int) (r:Int),af g/\aA (50:Int) r->Ty.wf ar g->Ty.wf ai r->af g)/\(decide (ae x=(0:Int))=false->af d/\∀(g:List Int×Int×Int) (r:Int),af g/\aA (6:Int) r->Ty.wf ar g->Ty.wf ai r->(decide (r=(0:Int))=true->af g/\∀(g:List Int×Int×Int) (r:Int),af g/\aA (3:Int) r->Ty.wf ar g->Ty.wf ai r->ae x≠(0:Int)/\af g)/\(decide (r=(0:Int))=false->(decide (r=(1:Int))=true->af g/\∀(g:List Int×Int×Int) (r:Int),af g/\aA (3:Int) r->Ty.wf ar g->Ty.wf ai r->af g)/\(decide (r=(1:Int))=false->(decide (r=(2:Int))=true->af g/\∀(g:List Int×Int×Int) (r:Int),af g/\aA (16777216:Int) r->Ty.wf ar g->Ty.wf ai r->af g/\∀(g:List Int×Int×Int) (r:Int),af g/\aA (256:Int) r->Ty.wf ar g->Ty.wf ai r->ae x≠(0:Int)/\af g)/\(decide (r=(2:Int))=false->af g/\∀(g:List Int×Int×Int) (r:Int),af g/\aA (30:Int) r->Ty.wf ar g->Ty.wf ai r->ae x≠(0:Int)/\af g))))):=by
  intro d f hd hf hp
  replace hp:af d:=hp
  simp only[exists_const,forall_const,decide_eq_true_eq,decide_eq_false_iff_not,beq_iff_eq,sxS]
  refine fun _=>⟨fun h=>⟨hp,fun g r h _ _=>h.1⟩,fun hm=>⟨hp,fun g r h _ _=>⟨fun _=>⟨h.1,fun g r h _ _=>⟨hm,h.1⟩⟩,fun _=>⟨fun _=>⟨h.1,fun g r h _ _=>h.1⟩,fun _=>⟨fun _=>⟨h.1,fun g r h _ _=>⟨h.1,fun g r h _ _=>⟨hm,h.1⟩⟩⟩,fun _=>⟨h.1,fun g r h _ _=>⟨hm,h.1⟩⟩⟩⟩⟩⟩⟩
theorem zw :
 ∀(d:List Int×Int×Int) (x:Int×Int),Ty.wf ar d->Ty.wf ai x.1/\Ty.wf ai x.2->af d/\x.2<=(1100:Int)->((0:Nat)<=x.2.toNat/\af d/\ah (0:Nat))/\((x.1=x.1/\x.2=x.2/\an/\(0:Int)=(↑(0:Nat):Int))/\(d.1=d.1/\ah d.2.1/\ah d.2.2)/\([]:List Int)=[])/\∀(x_1:Nat×(List Int×Int×Int)×List Int),x_1.1<=x.2.toNat/\af x_1.2.1/\x_1.2.2.length=x_1.1->(decide ((x_1.1:Int)<x.2)=true->af x_1.2.1/\∀(g:List Int×Int×Int) (r:Int),af g->Ty.wf ar g->Ty.wf ai r->(x_1.2.2.length+List.length [r])*(8:Nat)<=(140737488355328:Nat)/\∃(x':Nat×(List Int×Int×Int)×List Int),(x'.1<=x.2.toNat/\af x'.2.1/\x'.2.2.length=x'.1)/\x.2.toNat-x'.1<x.2.toNat-x_1.1/\(x.1=x.1/\x.2=x.2/\an/\i64.wrap ((x_1.1:Int)+(1:Int))=(x'.1:Int))/\(g.1=x'.2.1.1/\g.2.1=x'.2.1.2.1/\g.2.2=x'.2.1.2.2)/\x_1.2.2++[r]=x'.2.2)/\(decide ((x_1.1:Int)<x.2)=false->af x_1.2.1/\aj (1100:Nat) x_1.2.2/\x_1.2.2.length=x.2.toNat):=by
  intro d x hd hx hp
  obtain⟨hc,hn⟩:=hp
  obtain⟨f,n⟩:=x
  replace hn:n<=1100:=hn
  simp only[exists_const,forall_const,decide_eq_true_eq,decide_eq_false_iff_not,beq_iff_eq,sxS]
  refine⟨⟨by omega,hc⟩,rfl,fun x hx=>⟨fun aZ=>⟨hx.2.1,fun g r hg _ _=>?_⟩,fun lW=>⟨hx.2.1,by unfold aj;have:=hx.2.2;omega,by have:=hx.2.2;have:=hx.1;show x.2.2.length=n.toNat;omega⟩⟩⟩
  obtain⟨h1,h2,h3⟩:=hx
  refine⟨by rw[List.length_singleton];omega,(x.1+1,g,x.2.2++[r]),⟨?_,hg,?_⟩,?_,?_,⟨rfl,rfl,rfl⟩,rfl⟩
  ·show x.1+1<=n.toNat
   omega
  ·simp only[List.length_append,List.length_singleton,h3]
  ·show n.toNat-(x.1+1)<n.toNat-x.1
   omega
  ·exact wrap_small (n:=(x.1:Int)+1) (by omega)
theorem Bc :
 ∀(d:List Int×Int×Int) (x:Int),Ty.wf ar d->Ty.wf ai x->af d->af d/\∀(g:List Int×Int×Int) (r:Int),af g/\aA (8:Int) r->Ty.wf ar g->Ty.wf ai r->(decide (r=(0:Int))=true->af g/\∀(g:List Int×Int×Int) (r:Int),af g/\aA (300:Int) r->Ty.wf ar g->Ty.wf ai r->af g)/\(decide (r=(0:Int))=false->(decide (r=(1:Int))=true->(af g/\(0:Nat)<List.length [(9223372036854775807:Int),(-9223372036854775808:Int),(-9223372036854775807:Int),(4611686018427387904:Int)])/\∀(c_:List Int×Int×Int) (aX:Int),af c_/\eN [(9223372036854775807:Int),(-9223372036854775808:Int),(-9223372036854775807:Int),(4611686018427387904:Int)] aX->Ty.wf ar c_->Ty.wf ai aX->af c_)/\(decide (r=(1:Int))=false->(decide (r=(2:Int))=true->True/\(Ty.wf ai (ae x)->af g/\∀(g:List Int×Int×Int) (r:Int),af g/\aA (1000:Int) r->Ty.wf ar g->Ty.wf ai r->af g))/\(decide (r=(2:Int))=false->(decide (r=(3:Int))=true->af g/\∀(g:List Int×Int×Int) (r:Int),af g/\aA (16777216:Int) r->Ty.wf ar g->Ty.wf ai r->af g/\∀(g:List Int×Int×Int) (r:Int),af g/\aA (16777216:Int) r->Ty.wf ar g->Ty.wf ai r->af g)/\(decide (r=(3:Int))=false->af g/\∀(g:List Int×Int×Int) (r:Int),af g->Ty.wf ar g->Ty.wf ai r->af g)))):=by
  intro d x hd hx hp
  have hp:af d:=hp
  simp only[exists_const,forall_const,decide_eq_true_eq,decide_eq_false_iff_not,beq_iff_eq,sxS]
  repeat' (first
   | assumption
   | exact trivial
   | omega
   | exact Nat.zero_lt_succ _
   | (show aj _ _;unfold aj;simp only[List.length_set,List.length_append,List.length_singleton];omega)
   | (show aj _ _;unfold aj;omega)
   | (simp only[List.length_set,List.length_append,List.length_singleton];omega)
   | (intro (h:af _/\aA _ _);obtain⟨_,_,_,_⟩:=h)
   | (intro (h:af _/\eN _ _);obtain⟨_,_⟩:=h)
   | (intro (h:af _/\aj _ _/\_);obtain⟨_,iJ,_⟩:=h;unfold aj at iJ)
   | (intro (h:af _/\aj _ _);obtain⟨_,iJ⟩:=h;unfold aj at iJ)
   | with_reducible apply And.intro
   | intro _)
theorem xK :
 ∀(d:List Int×Int×Int) (x:Int),Ty.wf ar d->Ty.wf ai x->af d/\x<=(1100:Int)->((0:Nat)<=x.toNat/\af d/\wm (0:Nat) [])/\((x=x/\an/\(0:Int)=(↑(0:Nat):Int))/\(d.1=d.1/\ah d.2.1/\ah d.2.2)/\([]:List Int)=[])/\∀(x_1:Nat×(List Int×Int×Int)×List Int),x_1.1<=x.toNat/\af x_1.2.1/\wm x_1.1 x_1.2.2->(decide ((x_1.1:Int)<x)=true->af x_1.2.1/\∀(g:List Int×Int×Int) (r:Int),af g/\aA (256:Int) r->Ty.wf ar g->Ty.wf ai r->af g/\∀(g:List Int×Int×Int) (aX:Int),af g/\aA (256:Int) aX->Ty.wf ar g->Ty.wf ai aX->(af g/\(0:Nat)<List.length [(0:Int),(1:Int),(255:Int),(128:Int),r,aX])/\∀(c_:List Int×Int×Int) (bS:Int),af c_/\eN [(0:Int),(1:Int),(255:Int),(128:Int),r,aX] bS->Ty.wf ar c_->Ty.wf ai bS->(x_1.2.2.length+List.length [IntKind.wrap u8 bS])*(1:Nat)<=(140737488355328:Nat)/\∃(x':Nat×(List Int×Int×Int)×List Int),(x'.1<=x.toNat/\af x'.2.1/\wm x'.1 x'.2.2)/\x.toNat-x'.1<x.toNat-x_1.1/\(x=x/\an/\i64.wrap ((x_1.1:Int)+(1:Int))=(x'.1:Int))/\(c_.1=x'.2.1.1/\c_.2.1=x'.2.1.2.1/\c_.2.2=x'.2.1.2.2)/\x_1.2.2++[IntKind.wrap u8 bS]=x'.2.2)/\(decide ((x_1.1:Int)<x)=false->af x_1.2.1/\aj (1100:Nat) x_1.2.2):=by
  intro d n hd hx hp
  obtain⟨hc,hn⟩:=hp
  replace hn:n<=1100:=hn
  simp only[exists_const,forall_const,decide_eq_true_eq,decide_eq_false_iff_not,beq_iff_eq,sxS]
  refine⟨⟨by omega,hc,rfl⟩,rfl,fun x hx=>⟨fun aZ=>⟨hx.2.1,fun g r hg _ _=>⟨hg.1,fun g r1 hg _ _=>⟨⟨hg.1,by simp⟩,fun g r2 hg _ _=>?_⟩⟩⟩,fun lW=>⟨hx.2.1,by unfold aj;have:x.2.2.length=x.1:=hx.2.2;omega⟩⟩⟩
  obtain⟨h1,h2,h3⟩:=hx
  have h3:x.2.2.length=x.1:=h3
  refine⟨by rw[List.length_singleton];omega,(x.1+1,g,x.2.2++[u8.wrap r2]),⟨?_,hg.1,?_⟩,?_,?_,⟨rfl,rfl,rfl⟩,rfl⟩
  ·show x.1+1<=n.toNat
   omega
  ·show (x.2.2++[_]).length=x.1+1;rw[List.length_append,List.length_singleton,h3]
  ·show n.toNat-(x.1+1)<n.toNat-x.1
   omega
  ·exact wrap_small (n:=(x.1:Int)+1) (by omega)
theorem xM :
 ∀(d:List Int×Int×Int) (x:Int),Ty.wf ar d->Ty.wf ai x->af d/\x<=(1100:Int)->((0:Nat)<=x.toNat/\af d/\wm (0:Nat) [])/\((x=x/\an/\(0:Int)=(↑(0:Nat):Int))/\(d.1=d.1/\ah d.2.1/\ah d.2.2)/\([]:List Int)=[])/\∀(x_1:Nat×(List Int×Int×Int)×List Int),x_1.1<=x.toNat/\af x_1.2.1/\wm x_1.1 x_1.2.2->(decide ((x_1.1:Int)<x)=true->af x_1.2.1/\∀(g:List Int×Int×Int) (r:Int),af g/\aA (1000001:Int) r->Ty.wf ar g->Ty.wf ai r->af g/\∀(g:List Int×Int×Int) (aX:Int),af g/\aA (1000001:Int) aX->Ty.wf ar g->Ty.wf ai aX->af g/\∀(g:List Int×Int×Int) (bS:Int),af g/\aA (9:Int) bS->Ty.wf ar g->Ty.wf ai bS->(af g/\(0:Nat)<List.length [(1000000:Int),(-1000000:Int),r,i64.wrap ((0:Int)-aX),i64.wrap (bS-(4:Int)),(0:Int)])/\∀(c_:List Int×Int×Int) (aM:Int),af c_/\eN [(1000000:Int),(-1000000:Int),r,i64.wrap ((0:Int)-aX),i64.wrap (bS-(4:Int)),(0:Int)] aM->Ty.wf ar c_->Ty.wf ai aM->(x_1.2.2.length+List.length [aM])*(8:Nat)<=(140737488355328:Nat)/\∃(x':Nat×(List Int×Int×Int)×List Int),(x'.1<=x.toNat/\af x'.2.1/\wm x'.1 x'.2.2)/\x.toNat-x'.1<x.toNat-x_1.1/\(x=x/\an/\i64.wrap ((x_1.1:Int)+(1:Int))=(x'.1:Int))/\(c_.1=x'.2.1.1/\c_.2.1=x'.2.1.2.1/\c_.2.2=x'.2.1.2.2)/\x_1.2.2++[aM]=x'.2.2)/\(decide ((x_1.1:Int)<x)=false->af x_1.2.1/\∀(g:List Int×Int×Int) (r:Bool),af g->Ty.wf ar g->Ty.wf Ty.bool r->(r=true->(decide ((0:Int)<x)=true->af g/\∀(g:List Int×Int×Int) (aX:Int),af g/\aA x aX->Ty.wf ar g->Ty.wf ai aX->(af g/\(0:Nat)<List.length [(1000001:Int),(-1000001:Int)])/\∀(c_:List Int×Int×Int) (bS:Int),af c_/\eN [(1000001:Int),(-1000001:Int)] bS->Ty.wf ar c_->Ty.wf ai bS->((0:Int)<=aX/\aX<(x_1.2.2.length:Int))/\af c_/\aj (1100:Nat) (List.set x_1.2.2 aX.toNat bS))/\(decide ((0:Int)<x)=false->af g/\aj (1100:Nat) x_1.2.2))/\(r=false->af g/\aj (1100:Nat) x_1.2.2)):=by
  intro d n hd hx hp
  obtain⟨hc,hn⟩:=hp
  replace hn:n<=1100:=hn
  simp only[exists_const,forall_const,decide_eq_true_eq,decide_eq_false_iff_not,beq_iff_eq,sxS]
  refine⟨⟨by omega,hc,rfl⟩,rfl,fun x hx=>⟨fun aZ=>⟨hx.2.1,fun g r hg _ _=>⟨hg.1,fun g r1 hg _ _=>⟨hg.1,fun g r2 hg _ _=>⟨⟨hg.1,by simp⟩,fun g r3 hg _ _=>?_⟩⟩⟩⟩,fun lW=>?_⟩⟩
  ·obtain⟨h1,h2,h3⟩:=hx
   have h3:x.2.2.length=x.1:=h3
   refine⟨by rw[List.length_singleton];omega,(x.1+1,g,x.2.2++[r3]),⟨?_,hg.1,?_⟩,?_,?_,⟨rfl,rfl,rfl⟩,rfl⟩
   ·show x.1+1<=n.toNat
    omega
   ·show (x.2.2++[_]).length=x.1+1;rw[List.length_append,List.length_singleton,h3]
   ·show n.toNat-(x.1+1)<n.toNat-x.1
    omega
   ·exact wrap_small (n:=(x.1:Int)+1) (by omega)
  ·obtain⟨h1,h2,h3⟩:=hx
   have h3:x.2.2.length=x.1:=h3
   repeat' (first
    | assumption
    | exact trivial
    | omega
    | exact Nat.zero_lt_succ _
    | (show aj _ _;unfold aj;simp only[List.length_set,List.length_append,List.length_singleton];omega)
    | (show aj _ _;unfold aj;omega)
    | (simp only[List.length_set,List.length_append,List.length_singleton];omega)
    | (intro (h:af _/\aA _ _);obtain⟨_,_,_,_⟩:=h)
    | (intro (h:af _/\eN _ _);obtain⟨_,_⟩:=h)
    | (intro (h:af _/\aj _ _/\_);obtain⟨_,iJ,_⟩:=h;unfold aj at iJ)
    | (intro (h:af _/\aj _ _);obtain⟨_,iJ⟩:=h;unfold aj at iJ)
    | with_reducible apply And.intro
    | intro _)
theorem w_ :
 ∀(d:List Int×Int×Int) (x:Int×Int×Int),Ty.wf ar d->Ty.wf ai x.1/\Ty.wf ai x.2.1/\Ty.wf ai x.2.2->af d/\x.2.1<=(1100:Int)->(af d/\x.2.1<=(1100:Int))/\∀(g:List Int×Int×Int) (r:List Int),af g/\aj (1100:Nat) r/\r.length=x.2.1.toNat->Ty.wf ar g->Ty.wf al r->(decide ((0:Int)<=x.2.2)=true->(decide ((0:Int)<x.2.1)=true->((0:Int)<=(0:Int)/\(0:Int)<(r.length:Int))/\af g/\∀(g:List Int×Int×Int) (aX:Bool),af g->Ty.wf ar g->Ty.wf Ty.bool aX->(aX=true->(decide ((0:Int)<x.2.1)=true->af g/\∀(g:List Int×Int×Int) (bS:Int),af g/\aA x.2.1 bS->Ty.wf ar g->Ty.wf ai bS->True/\(Ty.wf ai (ae x.1)->(af g/\(0:Nat)<List.length [(-1:Int),ae x.1,(0:Int),(1:Int)])/\∀(c_:List Int×Int×Int) (aM:Int),af c_/\eN [(-1:Int),ae x.1,(0:Int),(1:Int)] aM->Ty.wf ar c_->Ty.wf ai aM->((0:Int)<=bS/\bS<(↑(List.length (List.set r ((0:Int).toNat) x.2.2)):Int))/\af c_/\aj (1100:Nat) (List.set (List.set r ((0:Int).toNat) x.2.2) bS.toNat aM)))/\(decide ((0:Int)<x.2.1)=false->af g/\aj (1100:Nat) (List.set r ((0:Int).toNat) x.2.2)))/\(aX=false->af g/\aj (1100:Nat) (List.set r ((0:Int).toNat) x.2.2)))/\(decide ((0:Int)<x.2.1)=false->af g/\∀(g:List Int×Int×Int) (aX:Bool),af g->Ty.wf ar g->Ty.wf Ty.bool aX->(aX=true->(decide ((0:Int)<x.2.1)=true->af g/\∀(g:List Int×Int×Int) (bS:Int),af g/\aA x.2.1 bS->Ty.wf ar g->Ty.wf ai bS->True/\(Ty.wf ai (ae x.1)->(af g/\(0:Nat)<List.length [(-1:Int),ae x.1,(0:Int),(1:Int)])/\∀(c_:List Int×Int×Int) (aM:Int),af c_/\eN [(-1:Int),ae x.1,(0:Int),(1:Int)] aM->Ty.wf ar c_->Ty.wf ai aM->((0:Int)<=bS/\bS<(r.length:Int))/\af c_/\aj (1100:Nat) (List.set r bS.toNat aM)))/\(decide ((0:Int)<x.2.1)=false->af g/\aj (1100:Nat) r))/\(aX=false->af g/\aj (1100:Nat) r)))/\(decide ((0:Int)<=x.2.2)=false->af g/\∀(g:List Int×Int×Int) (aX:Bool),af g->Ty.wf ar g->Ty.wf Ty.bool aX->(aX=true->(decide ((0:Int)<x.2.1)=true->af g/\∀(g:List Int×Int×Int) (bS:Int),af g/\aA x.2.1 bS->Ty.wf ar g->Ty.wf ai bS->True/\(Ty.wf ai (ae x.1)->(af g/\(0:Nat)<List.length [(-1:Int),ae x.1,(0:Int),(1:Int)])/\∀(c_:List Int×Int×Int) (aM:Int),af c_/\eN [(-1:Int),ae x.1,(0:Int),(1:Int)] aM->Ty.wf ar c_->Ty.wf ai aM->((0:Int)<=bS/\bS<(r.length:Int))/\af c_/\aj (1100:Nat) (List.set r bS.toNat aM)))/\(decide ((0:Int)<x.2.1)=false->af g/\aj (1100:Nat) r))/\(aX=false->af g/\aj (1100:Nat) r)):=by
  intro d x hd hx hp
  obtain⟨hc,hn⟩:=hp
  replace hn:x.2.1<=1100:=hn
  simp only[exists_const,forall_const,decide_eq_true_eq,decide_eq_false_iff_not,beq_iff_eq,sxS]
  refine⟨⟨hc,hn⟩,fun g r hr _ _=>?_⟩
  obtain⟨hg,hl,he⟩:=hr
  unfold aj at hl
  have he:r.length=x.2.1.toNat:=he
  repeat' (first
   | assumption
   | exact trivial
   | omega
   | exact Nat.zero_lt_succ _
   | (show aj _ _;unfold aj;simp only[List.length_set,List.length_append,List.length_singleton];omega)
   | (show aj _ _;unfold aj;omega)
   | (simp only[List.length_set,List.length_append,List.length_singleton];omega)
   | (intro (h:af _/\aA _ _);obtain⟨_,_,_,_⟩:=h)
   | (intro (h:af _/\eN _ _);obtain⟨_,_⟩:=h)
   | (intro (h:af _/\aj _ _/\_);obtain⟨_,iJ,_⟩:=h;unfold aj at iJ)
   | (intro (h:af _/\aj _ _);obtain⟨_,iJ⟩:=h;unfold aj at iJ)
   | with_reducible apply And.intro
   | intro _)
theorem xb :
 ∀(d:List Int×Int×Int) (x:Int×Int),Ty.wf ar d->Ty.wf ai x.1/\Ty.wf ai x.2->af d/\x.2<=(1000:Int)->((0:Nat)<=x.2.toNat/\af d/\zi (0:Nat) [])/\((x.1=x.1/\x.2=x.2/\an/\(0:Int)=(↑(0:Nat):Int))/\(d.1=d.1/\ah d.2.1/\ah d.2.2)/\([]:List Int)=[])/\∀(x_1:Nat×(List Int×Int×Int)×List Int),x_1.1<=x.2.toNat/\af x_1.2.1/\zi x_1.1 x_1.2.2->(decide ((x_1.1:Int)<x.2)=true->af x_1.2.1/\∀(g:List Int×Int×Int) (r:Int),af g->Ty.wf ar g->Ty.wf ai r->True/\((!pH x_1.2.2 r)=true->(x_1.2.2.length+List.length [r])*(8:Nat)<=(140737488355328:Nat)/\∃(x':Nat×(List Int×Int×Int)×List Int),(x'.1<=x.2.toNat/\af x'.2.1/\zi x'.1 x'.2.2)/\x.2.toNat-x'.1<x.2.toNat-x_1.1/\(x.1=x.1/\x.2=x.2/\an/\i64.wrap ((x_1.1:Int)+(1:Int))=(x'.1:Int))/\(g.1=x'.2.1.1/\g.2.1=x'.2.1.2.1/\g.2.2=x'.2.1.2.2)/\x_1.2.2++[r]=x'.2.2)/\((!pH x_1.2.2 r)=false->af g/\∀(g:List Int×Int×Int) (aX:Bool),af g->Ty.wf ar g->Ty.wf Ty.bool aX->(aX=true->(x_1.2.2.length+List.length [r])*(8:Nat)<=(140737488355328:Nat)/\∃(x':Nat×(List Int×Int×Int)×List Int),(x'.1<=x.2.toNat/\af x'.2.1/\zi x'.1 x'.2.2)/\x.2.toNat-x'.1<x.2.toNat-x_1.1/\(x.1=x.1/\x.2=x.2/\an/\i64.wrap ((x_1.1:Int)+(1:Int))=(x'.1:Int))/\(g.1=x'.2.1.1/\g.2.1=x'.2.1.2.1/\g.2.2=x'.2.1.2.2)/\x_1.2.2++[r]=x'.2.2)/\(aX=false->∃(x':Nat×(List Int×Int×Int)×List Int),(x'.1<=x.2.toNat/\af x'.2.1/\zi x'.1 x'.2.2)/\x.2.toNat-x'.1<x.2.toNat-x_1.1/\(x.1=x.1/\x.2=x.2/\an/\i64.wrap ((x_1.1:Int)+(1:Int))=(x'.1:Int))/\(g.1=x'.2.1.1/\g.2.1=x'.2.1.2.1/\g.2.2=x'.2.1.2.2)/\x_1.2.2=x'.2.2)))/\(decide ((x_1.1:Int)<x.2)=false->af x_1.2.1/\∀(g:List Int×Int×Int) (r:Bool),af g->Ty.wf ar g->Ty.wf Ty.bool r->(r=true->(decide ((0:Int)<(x_1.2.2.length:Int))=true->af g/\∀(g:List Int×Int×Int) (aX:Int),af g/\aA (x_1.2.2.length:Int) aX->Ty.wf ar g->Ty.wf ai aX->True/\(Ty.wf ai (ae x.1)->(af g/\(0:Nat)<List.length [(-1:Int),ae x.1])/\∀(c_:List Int×Int×Int) (bS:Int),af c_/\eN [(-1:Int),ae x.1] bS->Ty.wf ar c_->Ty.wf ai bS->((0:Int)<=aX/\aX<(x_1.2.2.length:Int))/\af c_/\aj (1000:Nat) (List.set x_1.2.2 aX.toNat bS)/\((1:Int)<=x.2->(1:Nat)<=List.length (List.set x_1.2.2 aX.toNat bS))))/\(decide ((0:Int)<(x_1.2.2.length:Int))=false->af g/\aj (1000:Nat) x_1.2.2/\((1:Int)<=x.2->(1:Nat)<=x_1.2.2.length)))/\(r=false->af g/\aj (1000:Nat) x_1.2.2/\((1:Int)<=x.2->(1:Nat)<=x_1.2.2.length))):=by
  intro d x hd hx hp
  obtain⟨hc,hn⟩:=hp
  replace hn:x.2<=1000:=hn
  simp only[exists_const,forall_const,decide_eq_true_eq,decide_eq_false_iff_not,beq_iff_eq,sxS]
  refine⟨⟨by omega,hc,by simp,by omega⟩,rfl,fun y hy=>⟨fun aZ=>⟨hy.2.1,fun g r hg _ _=>?_⟩,fun lW=>?_⟩⟩
  ·obtain⟨h1,h2,h3,h4⟩:=hy
   have hw:i64.wrap ((y.1:Int)+1)=((y.1+1:Nat):Int):=wrap_small (n:=(y.1:Int)+1) (by omega)
   have ap:∀ g:cL,af g->(y.2.2.length+[r].length)*8<=140737488355328/\∃ x':Nat×cL×List Int,(x'.1<=x.2.toNat/\af x'.2.1/\zi x'.1 x'.2.2)/\x.2.toNat-x'.1<x.2.toNat-y.1/\i64.wrap ((y.1:Int)+1)=(x'.1:Int)/\(g.1=x'.2.1.1/\g.2.1=x'.2.1.2.1/\g.2.2=x'.2.1.2.2)/\y.2.2++[r]=x'.2.2:=fun g hg =>
    ⟨by rw[List.length_singleton];omega,(y.1+1,g,y.2.2++[r]),⟨by show y.1+1<=_;omega,hg,by show (y.2.2++[r]).length<=y.1+1;rw[List.length_append,List.length_singleton];omega,fun _=>by show 1<=(y.2.2++[r]).length;rw[List.length_append,List.length_singleton];omega⟩,by show x.2.toNat-(y.1+1)<_;omega,hw,⟨rfl,rfl,rfl⟩,rfl⟩
   refine⟨fun _=>ap g hg,fun hh=>⟨hg,fun g b hg _ _=>⟨fun _=>ap g hg,fun _=>⟨(y.1+1,g,y.2.2),⟨by show y.1+1<=_;omega,hg,by show y.2.2.length<=y.1+1;omega,fun _=>?_⟩,by show x.2.toNat-(y.1+1)<_;omega,hw,⟨rfl,rfl,rfl⟩,rfl⟩⟩⟩⟩
   show 1<=y.2.2.length
   cases e:y.2.2 with
   | nil=>rw[e] at hh;simp[pH] at hh
   | cons a l=>simp
  ·obtain⟨h1,h2,h3,h4⟩:=hy
   repeat' (first
    | assumption
    | exact trivial
    | omega
    | exact Nat.zero_lt_succ _
    | (show aj _ _;unfold aj;simp only[List.length_set,List.length_append,List.length_singleton];omega)
    | (show aj _ _;unfold aj;omega)
    | (simp only[List.length_set,List.length_append,List.length_singleton];omega)
    | (intro (h:af _/\aA _ _);obtain⟨_,_,_,_⟩:=h)
    | (intro (h:af _/\eN _ _);obtain⟨_,_⟩:=h)
    | (intro (h:af _/\aj _ _/\_);obtain⟨_,iJ,_⟩:=h;unfold aj at iJ)
    | (intro (h:af _/\aj _ _);obtain⟨_,iJ⟩:=h;unfold aj at iJ)
    | with_reducible apply And.intro
    | intro _)
theorem Px(f:Int)(xs m:List Int):(fK f xs m).length=xs.length\/(fK f xs m).length=0:=by
 unfold fK
 split
 ·left;unfold kJ;simp
 ·right;rfl
theorem zx :
 ∀(d:List Int×Int×Int) (x:Unit),Ty.wf ar d->True->af d->af d/\∀(g:List Int×Int×Int) (r:Int),af g->Ty.wf ar g->Ty.wf ai r->af g/\∀(g:List Int×Int×Int) (aX:Int),af g/\aA (8:Int) aX->Ty.wf ar g->Ty.wf ai aX->(af g/\i64.wrap ((3:Int)+aX)<=(1000:Int))/\∀(g:List Int×Int×Int) (bS:List Int),af g/\aj (1000:Nat) bS/\((1:Int)<=i64.wrap ((3:Int)+aX)->(1:Nat)<=bS.length)->Ty.wf ar g->Ty.wf al bS->af g/\∀(g:List Int×Int×Int) (aM:Int),af g/\aA (bS.length:Int) aM->Ty.wf ar g->Ty.wf ai aM->(af g/\∀(g:List Int×Int×Int) (aD:Bool),af g->Ty.wf ar g->Ty.wf Ty.bool aD->(aD=true->(2:Int)≠(0:Int)/\af g/\∀(g:List Int×Int×Int) (bY:Int),af g/\aA (i64.wrap (Int.tdiv (i64.wrap ((bS.length:Int)+(1:Int))) (2:Int))) bY->Ty.wf ar g->Ty.wf ai bY->∃(x':(List Int×Int×Int)×Int×List Int),D_ x'/\(ah (0:Int)/\an/\an/\ah (0:Int)/\an/\r=r/\i64.wrap ((1:Int)+bY)=x'.2.1)/\(g.1=x'.1.1/\g.2.1=x'.1.2.1/\g.2.2=x'.1.2.2)/\bS=x'.2.2)/\(aD=false->∃(x':(List Int×Int×Int)×Int×List Int),D_ x'/\(ah (0:Int)/\an/\an/\ah (0:Int)/\an/\r=r/\i64.wrap ((1:Int)+aM)=x'.2.1)/\(g.1=x'.1.1/\g.2.1=x'.1.2.1/\g.2.2=x'.1.2.2)/\bS=x'.2.2))/\∀(x:(List Int×Int×Int)×Int×List Int),D_ x->(af x.1/\x.2.1<=(1100:Int))/\∀(g:List Int×Int×Int) (aD:List Int),af g/\aj (1100:Nat) aD/\aD.length=x.2.1.toNat->Ty.wf ar g->Ty.wf al aD->True/\(Ty.wf al (fK r x.2.2 aD)->((decide ((↑(List.length (fK r x.2.2 aD)):Int)=(0:Int))=true->(af g/\(x.2.2.length:Int)<=(1100:Int))/\∀(g:List Int×Int×Int) (bY:List Int),af g/\aj (1100:Nat) bY/\bY.length=(x.2.2.length:Int).toNat->Ty.wf ar g->Ty.wf al bY->∃(x':(List Int×Int×Int)×Int×List Int×List Int×List Int),(Jd x'/\(1:Int)<=x'.2.1/\x'.2.1<=(1100:Int))/\(ah (0:Int)/\an/\an/\ah (0:Int)/\an/\r=r/\x.2.1=x'.2.1)/\(g.1=x'.1.1/\g.2.1=x'.1.2.1/\g.2.2=x'.1.2.2)/\x.2.2=x'.2.2.1/\aD=x'.2.2.2.1/\bY=x'.2.2.2.2)/\(decide ((↑(List.length (fK r x.2.2 aD)):Int)=(0:Int))=false->∃(x':(List Int×Int×Int)×Int×List Int×List Int×List Int),(Jd x'/\(1:Int)<=x'.2.1/\x'.2.1<=(1100:Int))/\(ah (0:Int)/\an/\an/\ah (0:Int)/\an/\r=r/\x.2.1=x'.2.1)/\(g.1=x'.1.1/\g.2.1=x'.1.2.1/\g.2.2=x'.1.2.2)/\x.2.2=x'.2.2.1/\aD=x'.2.2.2.1/\fK r x.2.2 aD=x'.2.2.2.2))/\∀(x:(List Int×Int×Int)×Int×List Int×List Int×List Int),Jd x/\(1:Int)<=x.2.1/\x.2.1<=(1100:Int)->(2:Int)≠(0:Int)/\af x.1/\∀(g:List Int×Int×Int) (bY:Int),af g/\aA (i64.wrap (i64.wrap (Int.tdiv (i64.wrap ((x.2.2.1.length:Int)-x.2.1)) (2:Int))+(2:Int))) bY->Ty.wf ar g->Ty.wf ai bY->(af g/\∀(g:List Int×Int×Int) (aT:Bool),af g->Ty.wf ar g->Ty.wf Ty.bool aT->(aT=true->af g/\∀(g:List Int×Int×Int) (aI:Int),af g/\aA (i64.wrap ((x.2.2.1.length:Int)+(1:Int))) aI->Ty.wf ar g->Ty.wf ai aI->∃(x':(List Int×Int×Int)×Int),(af x'.1/\x'.2<=(4000:Int))/\(ah (0:Int)/\an/\an/\ah (0:Int)/\an/\r=r/\ah x.2.1/\aI=x'.2)/\(g.1=x'.1.1/\g.2.1=x'.1.2.1/\g.2.2=x'.1.2.2)/\ah x.2.2.1/\ah x.2.2.2.1/\ah x.2.2.2.2)/\(aT=false->∃(x':(List Int×Int×Int)×Int),(af x'.1/\x'.2<=(4000:Int))/\(ah (0:Int)/\an/\an/\ah (0:Int)/\an/\r=r/\ah x.2.1/\bY=x'.2)/\(g.1=x'.1.1/\g.2.1=x'.1.2.1/\g.2.2=x'.1.2.2)/\ah x.2.2.1/\ah x.2.2.2.1/\ah x.2.2.2.2))/\∀(x_1:(List Int×Int×Int)×Int),af x_1.1/\x_1.2<=(4000:Int)->((0:Nat)<=x_1.2.toNat/\af x_1.1/\aj (1100:Nat) x.2.2.2.2/\(1:Nat)<=x.2.2.2.2.length)/\((ah (0:Int)/\an/\an/\ah (0:Int)/\an/\r=r/\ah x.2.1/\ah x_1.2/\(0:Int)=(↑(0:Nat):Int))/\(ah x_1.1.1/\ah x_1.1.2.1/\ah x_1.1.2.2)/\ah x.2.2.1/\ah x.2.2.2.1/\ah x.2.2.2.2)/\∀(x_2:Nat×(List Int×Int×Int)×List Int),x_2.1<=x_1.2.toNat/\af x_2.2.1/\aj (1100:Nat) x_2.2.2/\(1:Nat)<=x_2.2.2.length->(decide ((x_2.1:Int)<x_1.2)=true->af x_2.2.1/\∀(g:List Int×Int×Int) (aT:Int),af g/\aA (x_2.2.2.length:Int) aT->Ty.wf ar g->Ty.wf ai aT->af g/\∀(g:List Int×Int×Int) (aI:Int),af g->Ty.wf ar g->Ty.wf ai aI->((0:Int)<=aT/\aT<(x_2.2.2.length:Int))/\∃(x':Nat×(List Int×Int×Int)×List Int),(x'.1<=x_1.2.toNat/\af x'.2.1/\aj (1100:Nat) x'.2.2/\(1:Nat)<=x'.2.2.length)/\x_1.2.toNat-x'.1<x_1.2.toNat-x_2.1/\(ah (0:Int)/\an/\an/\ah (0:Int)/\an/\r=r/\ah x.2.1/\ah x_1.2/\i64.wrap ((x_2.1:Int)+(1:Int))=(x'.1:Int))/\(g.1=x'.2.1.1/\g.2.1=x'.2.1.2.1/\g.2.2=x'.2.1.2.2)/\ah x.2.2.1/\ah x.2.2.2.1/\List.set x_2.2.2 aT.toNat aI=x'.2.2)/\(decide ((x_2.1:Int)<x_1.2)=false->af x_2.2.1/\Ob (r,x.2.2.1,x_2.2.2,x.2.1,x.2.2.2.1))):=by
  intro d u hd _ hp
  have hp:af d:=hp
  simp only[exists_const,forall_const,decide_eq_true_eq,decide_eq_false_iff_not,beq_iff_eq,sxS]
  refine⟨hp,fun g f hg _ _=>⟨hg,fun g r hr _ _=>?_⟩⟩
  obtain⟨hg,b1,b2,b3⟩:=hr
  have b2:=b2 (by omega)
  have e3:i64.wrap (3+r)=3+r:=wrap_small (by omega)
  rw[e3]
  refine⟨⟨hg,by omega⟩,fun g xs hx _ _=>?_⟩
  obtain⟨hg,hl,h1⟩:=hx
  have h1:=h1 (by omega)
  have dm:xs.length<=1000:=hl
  refine⟨hg,fun g k hk _ _=>?_⟩
  obtain⟨hg,k1,k2,k3⟩:=hk
  have k2:=k2 (by omega)
  refine⟨⟨hg,fun g b hg _ _=>⟨fun _=>⟨by omega,hg,fun g k' gS _ _=>?_⟩,fun _=>⟨(g,1+k,xs),⟨hg,by show (1:Int)<=1+k;omega,by show 1+k<=(1100:Int);omega,hl,h1⟩,wrap_small (by omega),⟨rfl,rfl,rfl⟩,rfl⟩⟩⟩,fun y hy=>?_⟩
  ·obtain⟨hg,q1,q2,q3⟩:=gS
   have e1:i64.wrap ((xs.length:Int)+1)=(xs.length:Int)+1:=wrap_small (by omega)
   have e2:((xs.length:Int)+1).tdiv 2=((xs.length:Int)+1)/2:=Int.tdiv_eq_ediv_of_nonneg (by omega)
   rw[e1,e2,wrap_small (by omega)] at q2
   have q2:=q2 (by omega)
   exact⟨(g,1+k',xs),⟨hg,by show (1:Int)<=1+k';omega,by show 1+k'<=(1100:Int);omega,hl,h1⟩,wrap_small (by omega),⟨rfl,rfl,rfl⟩,rfl⟩
  ·obtain⟨y1,y2,y3,y4,y5⟩:=hy
   have Yt:y.2.2.length<=1000:=y4
   refine⟨⟨y1,y3⟩,fun g m hm _ _ _=>?_⟩
   obtain⟨hg,m1,m2⟩:=hm
   have Ye:m.length<=1100:=m1
   have hE:=Px f y.2.2 m
   refine⟨⟨fun h0=>⟨⟨hg,by omega⟩,fun g ys tm _ _=>?_⟩,fun h0=>?_⟩,fun z hz=>?_⟩
   ·obtain⟨hg,w1,w2⟩:=tm
    have w2:ys.length=y.2.2.length:=w2
    exact⟨(g,y.2.1,y.2.2,m,ys),⟨⟨hg,by show y.2.2.length<=1100;omega,m1,w1,by show 1<=ys.length;omega⟩,y2,y3⟩,rfl,⟨rfl,rfl,rfl⟩,rfl,rfl,rfl⟩
   ·exact⟨(g,y.2.1,y.2.2,m,fK f y.2.2 m),⟨⟨hg,by show y.2.2.length<=1100;omega,m1,by show (fK f y.2.2 m).length<=1100;omega,by show 1<=(fK f y.2.2 m).length;omega⟩,y2,y3⟩,rfl,⟨rfl,rfl,rfl⟩,rfl,rfl,rfl⟩
   ·obtain⟨⟨z1,z2,z3,z4,z5⟩,z6,z7⟩:=hz
    have Yu:z.2.2.1.length<=1100:=z2
    have e1:i64.wrap ((z.2.2.1.length:Int)-z.2.1)=(z.2.2.1.length:Int)-z.2.1:=wrap_small (by omega)
    have hq : -1100<=((z.2.2.1.length:Int)-z.2.1).tdiv 2/\((z.2.2.1.length:Int)-z.2.1).tdiv 2<=1100:=by
     by_cases hs:0<=(z.2.2.1.length:Int)-z.2.1
     ·rw[Int.tdiv_eq_ediv_of_nonneg hs];omega
     ·rw[show (z.2.2.1.length:Int)-z.2.1 = -(z.2.1-(z.2.2.1.length:Int)) by omega,Int.neg_tdiv,Int.tdiv_eq_ediv_of_nonneg (by omega)];omega
    rw[e1]
    generalize ((z.2.2.1.length:Int)-z.2.1).tdiv 2=w at hq ⊢
    have e2:i64.wrap w=w:=wrap_small (by omega)
    have e3:i64.wrap (w+2)=w+2:=wrap_small (by omega)
    have e4:i64.wrap ((z.2.2.1.length:Int)+1)=(z.2.2.1.length:Int)+1:=wrap_small (by omega)
    rw[e2,e3,e4]
    refine⟨by omega,z1,fun g r hr _ _=>?_⟩
    obtain⟨hg,r1,r2,r3⟩:=hr
    have WD:r<=4000:=by
     by_cases h:0<w+2
     ·have:=r2 h;omega
     ·have:=r3 (by omega);omega
    refine⟨⟨hg,fun g b hg _ _=>⟨fun _=>⟨hg,fun g t ht _ _=>?_⟩,fun _=>⟨(g,r),⟨hg,WD⟩,rfl,rfl,rfl,rfl⟩⟩⟩,fun v hv=>⟨⟨by omega,hv.1,z4,z5⟩,rfl,fun t ht=>⟨fun aZ=>?_,fun lW=>?_⟩⟩⟩
    ·obtain⟨hg,t1,t2,t3⟩:=ht
     have t2:=t2 (by omega)
     exact⟨(g,t),⟨hg,by show t<=4000;omega⟩,rfl,rfl,rfl,rfl⟩
    ·obtain⟨t1,t2,t3,t4⟩:=ht
     refine⟨t2,fun g i hi _ _=>⟨hi.1,fun g x hg _ _=>?_⟩⟩
     obtain⟨_,i1,i2,i3⟩:=hi
     have i2:=i2 (by omega)
     refine⟨⟨i1,i2⟩,(t.1+1,g,t.2.2.set i.toNat x),⟨by show t.1+1<=_;omega,hg,by show (t.2.2.set i.toNat x).length<=1100;rw[List.length_set];exact t3,by show 1<=(t.2.2.set i.toNat x).length;rw[List.length_set];exact t4⟩,by show v.2.toNat-(t.1+1)<_;omega,wrap_small (n:=(t.1:Int)+1) (by have:=hv.2;omega),⟨rfl,rfl,rfl⟩,rfl⟩
    ·obtain⟨t1,t2,t3,t4⟩:=ht
     exact⟨t2,z2,t3,z3⟩
set_option maxRecDepth 10000
theorem Pq(f:Int)(xs ys:List Int)(k:Int):(eC f xs ys k).1.length<=10:=by
 by_cases h:(eC f xs ys k).2.2=true
 ·obtain⟨h1,h2,h3,s,h4,h5,h6⟩:=Pp h
  obtain⟨rR,hl,np,mW⟩:=Bu h1
  obtain⟨m1,m2⟩:=L8 rR h2 s
  unfold mV at h5
  rw[Bool.and_eq_true,decide_eq_true_eq] at h5
  rw[h6]
  unfold JY
  rw[List.length_append,List.length_replicate]
  omega
 ·unfold eC at h ⊢
  split
  ·rename_i hc
   rw[if_pos hc] at h
   cases hf:findF (mV (ae f) xs ys k.toNat) (2^xs.length) with
   | none=>simp[MY]
   | some s=>rw[hf] at h;exact absurd rfl h
  ·simp
theorem LI(f:Int)(xs ys:List Int):(dN f xs ys).1.length<=41:=by
 by_cases h:(dN f xs ys).2=true
 ·obtain⟨h1,h2,h3,h4⟩:=LH h
  obtain⟨hm,_,hl,_,_⟩:=uK h1
  rw[h4]
  exact (w6 (re hm).mod ys hl _).2.1
 ·unfold dN at h ⊢
  split
  ·rename_i hc;rw[if_pos hc] at h;exact absurd rfl h
  ·simp
theorem m9(l:List Int):(bj l).length<=l.length:=by rw[oA];exact s4 l
theorem Qj(f:Int)(v:List Int):(qV f v).length<=v.length/\(ln f v).length<=v.length:=by
 unfold qV ln
 constructor
 ·split
  ·simp[eF]
  ·simp
 ·split
  ·simp[Oi]
  ·simp
theorem Pm(f:Int)(a b:List Int):(qE f a b).length<=a.length/\(na f a b).length<=a.length:=by
 unfold qE na
 constructor
 ·split<;>simp
 ·split<;>simp
theorem L9(f:Int)(a b:List Int):(fW f a b).1.length<=a.length+b.length:=by
 unfold fW
 split
 ·show (hJ _ a b).length<=_
  unfold hJ
  split
  ·simp
  ·have:=m9 (eL (ae f) a b (a.length+b.length-1))
   rw[C4] at this
   omega
 ·simp
theorem MS(a b:List Int):(dK a b).1.length<=a.length+b.length:=by
 unfold dK
 split
 ·show (if _ then _ else _:List Int).length<=_
  split
  ·simp
  ·rw[H4];omega
 ·simp
theorem P8(f:Int)(a:List Int):(dU f a).1.length<=a.length:=by
 unfold dU
 split
 ·show (c8 _ a _).length<=_
  rw[B3];exact Nat.le_refl _
 ·simp
theorem QP(f:Int)(a b:List Int):(eR f a b).length<=b.length:=by
 unfold eR
 split
 ·rw[s9];exact Nat.le_refl _
 ·simp
theorem Pt(f:Int)(a b:List Int):(dg f a b).1.length<=a.length+1/\(dg f a b).2.1.length<=a.length:=by
 unfold dg
 split
 ·show (lD _ a b).1.length<=_/\(lD _ a b).2.length<=_
  unfold lD
  split
  ·simp
  ·refine⟨?_,?_⟩
   ·show (iZ _ _ _ _ _ _).length<=_
    rw[s6];omega
   ·have:=m9 (fF (ae f) (cZ (ae f) b) a b (a.length-b.length+1))
    rw[xk] at this
    exact this
 ·simp
theorem j_{k:Bool}{o m:List Int}{n:Nat}(h1:o.length<=n)(h2:m.length<=n):(iz k o m).2.1.length<=n/\(iz k o m).2.2.length<=n:=by
 unfold iz
 split
 ·exact⟨h1,h2⟩
 ·simp
theorem Sq(j:Jb):(aK j).2.1.length<=j.2.2.1.length+j.2.2.2.1.length+100/\(aK j).2.2.length<=j.2.2.1.length+j.2.2.2.1.length+100:=by
 obtain⟨k,f,a,b,c⟩:=j
 show _<=a.length+b.length+100/\_<=a.length+b.length+100
 have h1:=Qj f a
 have h2:=Pm f a b
 have h3:=L9 f a b
 have h4:=MS a b
 have h5:=P8 f a
 have h6:=QP f a b
 have h7:=Pt f a b
 have h8:=LI f a b
 have h9:=Pq f a b c
 cases h:bI (k,f,a,b,c)
 ·rw[<-O6 h];simp
 ·have hk:=(Fx.1 h).1.1
  rcases (show k=1\/k=2\/k=3\/k=4\/k=5\/k=6\/k=7\/k=8\/k=9\/k=10\/k=11 by omega) with rfl|rfl|rfl|rfl|rfl|rfl|rfl|rfl|rfl|rfl|rfl
  ·rw[Uc h];exact j_ (by omega) (by simp)
  ·rw[Ud h];exact j_ (by omega) (by simp)
  ·rw[Ue h];exact j_ (by omega) (by simp)
  ·rw[Uf h];exact j_ (by omega) (by simp)
  ·rw[Ug h];exact j_ (by omega) (by simp)
  ·rw[Uh h];exact j_ (by omega) (by simp)
  ·rw[Ui h];exact j_ (by omega) (by simp)
  ·rw[Uj h];exact j_ (by omega) (by simp)
  ·rw[Uk h];exact j_ (by omega) (by simp)
  ·rw[So h];exact j_ (by omega) (by omega)
  ·rw[Sp h];exact j_ (by omega) (by simp)
section
variable {w : Ca} {a : CA} {k : PG} {x : List eD × List eD} {g : List eD} {y : Int}
end
theorem Py{j:Jb}(h:bI j=true):(Jk j).length<=6000:=by
 obtain⟨_,_,⟨l1,_⟩,⟨l2,_⟩,_⟩:=LL h
 have h0:=oa j.2.2.2.2
 have h1:=zj j.2.2.1
 have h2:=zj j.2.2.2.1
 unfold Jk
 simp only[List.length_append,List.length_cons,List.length_nil]
 omega
theorem C0(es:List En):gu es es.length↔(∀ e∈es,e.1.length<=5000)/\(es.map Prod.fst).Nodup:=by
 have gd:∀(i:Nat) (h:i<es.length),es.getD i ([],0,[],[])=es[i]:=fun i h=>by simp[h]
 constructor
 ·intro h
  refine⟨fun e he=>?_,?_⟩
  ·obtain⟨i,hi,rfl⟩:=List.getElem_of_mem he
   have:=(h i hi).1
   rw[gd i hi] at this
   exact this
  ·rw[List.Nodup,List.pairwise_iff_getElem]
   intro i j hi hj Ik
   rw[List.length_map] at hi hj
   have:=(h j hj).2 i Ik
   rw[gd i hi,gd j hj] at this
   simpa using this
 ·intro⟨h1,h2⟩ i hi
  refine⟨by rw[gd i hi];exact h1 _ (List.getElem_mem hi),fun j hj=>?_⟩
  rw[gd i hi,gd j (by omega)]
  rw[List.Nodup,List.pairwise_iff_getElem] at h2
  have:=h2 j i (by rw[List.length_map];omega) (by rw[List.length_map];exact hi) hj
  simpa using this
theorem B4{c:Int}(hc:0<=c)(es:List En):∀ n,bA c es n<=30/\(cn (es.take (bA c es n)):Int)<=c
 | 0=>by simp[bA,cn];exact hc
 | n+1=>by
   rw[bA]
   split
   ·exact B4 hc es n
   ·rename_i h
    exact⟨by omega,by omega⟩
theorem GD{c:Int}{e:En}{es:List En}(h:(fm e.2:Int)<=c):∀ n,1<=n->1<=bA c (e::es) n
 | 0,h1=>by omega
 | 1,_=>by
   have hs:cn ((e::es).take (0+1))=fm e.2:=by simp[cn]
   rw[bA,if_neg]
   ·omega
   ·rw[hs];omega
 | n+2,_=>by
   rw[bA]
   split
   ·exact GD h (n+1) (by omega)
   ·omega
theorem K3{key:List Int}{l:List En}(h:key ∉ l.map Prod.fst):l.filter (fun o=>decide (o.1≠key))=l:=by
 rw[List.filter_eq_self]
 intro o ho
 rw[decide_eq_true_eq]
 intro e
 exact h (List.mem_map.2 ⟨o,ho,e⟩)
theorem Hv{c:Ca}{key:List Int}{r:Rs}(h:(aQ c key r).2=true) :
 ∃ l:List En,(aQ c key r).1=(c.1,(key,r)::l)/\bL (c.1,(key,r)::l)=true/\ea (c.1,(key,r)::l) key=((c.1,(key,r)::l),r,true)/\aQ (c.1,(key,r)::l) key r=((c.1,(key,r)::l),true):=by
 unfold aQ at h
 split at h
 case isFalse=>cases h
 rename_i hh
 obtain⟨hB,hk,hw⟩:=hh
 obtain⟨c1,c2,c3,c4,c5⟩:=dJ hB
 obtain⟨k1,k2⟩:=(C0 c.2).1 c4
 let rest:=c.2.filter (fun o=>decide (o.1≠key))
 have UU:rest.Sublist c.2:=List.filter_sublist
 have Wv:key ∉ rest.map Prod.fst:=by
  intro hm
  obtain⟨o,ho,e⟩:=List.mem_map.1 hm
  have:=(List.mem_filter.1 ho).2
  rw[decide_eq_true_eq] at this
  exact this e
 let m:=bA c.1 ((key,r)::rest) ((key,r)::rest).length
 have vo:1<=m:=GD (e:=(key,r)) hw _ (by rw[List.length_cons];omega)
 obtain⟨t1,t2⟩:=B4 c1 ((key,r)::rest) ((key,r)::rest).length
 have Wt:m<=((key,r)::rest).length:=IL _ _ _
 obtain⟨q,hq⟩:∃ q,m=q+1:=⟨m-1,by omega⟩
 have JC:((key,r)::rest).take m=(key,r)::rest.take q:=by rw[hq,List.take_succ_cons]
 have hS:(aQ c key r).1=(c.1,(key,r)::rest.take q):=by
  unfold aQ
  rw[if_pos ⟨hB,hk,hw⟩]
  show (c.1,((key,r)::rest).take m)=_
  rw[JC]
 have OT:(rest.take q).Sublist c.2:=(List.take_sublist q rest).trans UU
 have Rq:key ∉ (rest.take q).map Prod.fst:=fun hx=>Wv (((List.take_sublist q rest).map Prod.fst).subset hx)
 have hlen:((key,r)::rest.take q).length=m:=by rw[<-JC,List.length_take];omega
 have RI:(cn ((key,r)::rest.take q):Int)<=c.1:=by rw[<-JC];exact t2
 have hK:gu ((key,r)::rest.take q) ((key,r)::rest.take q).length:=by
  rw[C0]
  refine⟨fun e he=>?_,?_⟩
  ·rcases List.mem_cons.1 he with rfl|he
   ·exact hk
   ·exact k1 e (OT.subset he)
  ·rw[List.map_cons,List.nodup_cons]
   exact⟨Rq,(OT.map Prod.fst).nodup k2⟩
 have hC:bL (c.1,(key,r)::rest.take q)=true:=by
  rw[yS (c:=(c.1,(key,r)::rest.take q)) c1 c2 (by show ((key,r)::rest.take q).length<=30;rw[hlen];exact t1) hK,decide_eq_true_eq]
  exact RI
 have qX:cq (c.1,(key,r)::rest.take q) (key,r)=(c.1,(key,r)::rest.take q):=by
  unfold cq
  rw[List.filter_cons_of_neg (by simp),K3 Rq]
 refine⟨rest.take q,hS,hC,?_,?_⟩
 ·have hg:aJ key ((key,r)::rest.take q) 0=0:=by rw[aJ,if_pos rfl]
  unfold ea
  rw[if_pos ⟨hC,by rw[hg];exact Int.le_refl 0⟩]
  simp only[hg]
  show (cq _ (key,r),r,true)=_
  rw[qX]
 ·unfold aQ
  rw[if_pos ⟨hC,hk,hw⟩,qX]
  unfold A9
  rw[Di (by rw[hlen];exact Nat.not_lt.2 t1) (by rw[List.take_length];exact Int.not_lt.2 RI),List.take_length]
theorem OZ{l:List Jb}(h:∀ j∈l,jv j)(i:Nat):jv (l.getD i (0,0,[],[],0)):=by
 rw[List.getD_eq_getElem?_getD]
 by_cases hi:i<l.length
 ·rw[List.getElem?_eq_getElem hi];exact h _ (List.getElem_mem hi)
 ·rw[List.getElem?_eq_none (by omega)];exact⟨by show ([]:List Int).length<=1300;simp,by show ([]:List Int).length<=1300;simp⟩
theorem R1{l:List Jb}{j:Jb}(h:∀ i∈l,jv i)(hj:jv j):∀ i∈l++[j],jv i:=by
 intro i hi
 rcases List.mem_append.1 hi with h2|h2
 ·exact h _ h2
 ·rw[List.mem_singleton.1 h2];exact hj
theorem zy :
 ∀(d:List Int×Int×Int) (x:Int),Ty.wf ar d->Ty.wf ai x->af d/\x<=(50:Int)->((0:Nat)<=x.toNat/\af d/\zc (0:Nat) [])/\((x=x/\an/\(0:Int)=(↑(0:Nat):Int))/\(d.1=d.1/\ah d.2.1/\ah d.2.2)/\([]:List Jb)=[])/\∀(x_1:Nat×(List Int×Int×Int)×List (Int×Int×List Int×List Int×Int)),x_1.1<=x.toNat/\af x_1.2.1/\zc x_1.1 x_1.2.2->(decide ((x_1.1:Int)<x)=true->(decide ((0:Int)<(x_1.2.2.length:Int))=true->af x_1.2.1/\∀(g:List Int×Int×Int) (r:Bool),af g->Ty.wf ar g->Ty.wf Ty.bool r->(r=true->af g/\∀(g:List Int×Int×Int) (aX:Int),af g/\aA (x_1.2.2.length:Int) aX->Ty.wf ar g->Ty.wf ai aX->((0:Int)<=aX/\aX<(x_1.2.2.length:Int))/\List.length (x_1.2.2.getD aX.toNat ((0:Int),(0:Int),[],[],(0:Int))).2.2.1<=(1048576:Nat)/\List.length (x_1.2.2.getD aX.toNat ((0:Int),(0:Int),[],[],(0:Int))).2.2.2.1<=(1048576:Nat)/\(Ty.wf al (x_1.2.2.getD aX.toNat ((0:Int),(0:Int),[],[],(0:Int))).2.2.2.1->Ty.wf al (x_1.2.2.getD aX.toNat ((0:Int),(0:Int),[],[],(0:Int))).2.2.1->(x_1.2.2.length+List.length [x_1.2.2.getD aX.toNat ((0:Int),(0:Int),[],[],(0:Int))])*(72:Nat)<=(140737488355328:Nat)/\∃(x':Nat×(List Int×Int×Int)×List (Int×Int×List Int×List Int×Int)),(x'.1<=x.toNat/\af x'.2.1/\zc x'.1 x'.2.2)/\x.toNat-x'.1<x.toNat-x_1.1/\(x=x/\an/\i64.wrap ((x_1.1:Int)+(1:Int))=(x'.1:Int))/\(g.1=x'.2.1.1/\g.2.1=x'.2.1.2.1/\g.2.2=x'.2.1.2.2)/\x_1.2.2++[x_1.2.2.getD aX.toNat ((0:Int),(0:Int),[],[],(0:Int))]=x'.2.2))/\(r=false->(af g/\(6:Int)<=(50:Int))/\∀(g:List Int×Int×Int) (aX:Int×Int×List Int×List Int×Int),af g/\jv aX->Ty.wf ar g->Ty.wf n6 aX->(x_1.2.2.length+List.length [aX])*(72:Nat)<=(140737488355328:Nat)/\∃(x':Nat×(List Int×Int×Int)×List (Int×Int×List Int×List Int×Int)),(x'.1<=x.toNat/\af x'.2.1/\zc x'.1 x'.2.2)/\x.toNat-x'.1<x.toNat-x_1.1/\(x=x/\an/\i64.wrap ((x_1.1:Int)+(1:Int))=(x'.1:Int))/\(g.1=x'.2.1.1/\g.2.1=x'.2.1.2.1/\g.2.2=x'.2.1.2.2)/\x_1.2.2++[aX]=x'.2.2))/\(decide ((0:Int)<(x_1.2.2.length:Int))=false->(af x_1.2.1/\(6:Int)<=(50:Int))/\∀(g:List Int×Int×Int) (r:Int×Int×List Int×List Int×Int),af g/\jv r->Ty.wf ar g->Ty.wf n6 r->(x_1.2.2.length+List.length [r])*(72:Nat)<=(140737488355328:Nat)/\∃(x':Nat×(List Int×Int×Int)×List (Int×Int×List Int×List Int×Int)),(x'.1<=x.toNat/\af x'.2.1/\zc x'.1 x'.2.2)/\x.toNat-x'.1<x.toNat-x_1.1/\(x=x/\an/\i64.wrap ((x_1.1:Int)+(1:Int))=(x'.1:Int))/\(g.1=x'.2.1.1/\g.2.1=x'.2.1.2.1/\g.2.2=x'.2.1.2.2)/\x_1.2.2++[r]=x'.2.2))/\(decide ((x_1.1:Int)<x)=false->af x_1.2.1/\xv x_1.2.2):=by
  intro d n hd hn hp
  obtain⟨hc,E_⟩:=hp
  have E_:n<=50:=E_
  simp only[exists_const,forall_const,decide_eq_true_eq,decide_eq_false_iff_not,beq_iff_eq,sxS]
  refine⟨⟨by omega,hc,rfl,fun j hj=>by cases hj⟩,rfl,fun x hx=>⟨fun aZ=>?_,fun lW=>⟨hx.2.1,by have:=hx.2.2.1;omega,hx.2.2.2⟩⟩⟩
  obtain⟨h1,h2,h3,h4⟩:=hx
  have ap:∀(g:cL) (j:Jb),af g->jv j->(x.2.2.length+[j].length)*72<=140737488355328/\∃ x':Nat×cL×List Jb,(x'.1<=n.toNat/\af x'.2.1/\zc x'.1 x'.2.2)/\n.toNat-x'.1<n.toNat-x.1/\i64.wrap ((x.1:Int)+1)=(x'.1:Int)/\(g.1=x'.2.1.1/\g.2.1=x'.2.1.2.1/\g.2.2=x'.2.1.2.2)/\x.2.2++[j]=x'.2.2:=fun g j hg hj =>
   ⟨by rw[List.length_singleton];omega,(x.1+1,g,x.2.2++[j]),⟨by show x.1+1<=_;omega,hg,by show (x.2.2++[j]).length=x.1+1;rw[List.length_append,List.length_singleton,h3],R1 h4 hj⟩,by show n.toNat-(x.1+1)<_;omega,wrap_small (n:=(x.1:Int)+1) (by omega),⟨rfl,rfl,rfl⟩,rfl⟩
  refine⟨fun fx=>⟨h2,fun g b hg _ _=>⟨fun _=>⟨hg,fun g r hr _ _=>?_⟩,fun _=>⟨⟨hg,by omega⟩,fun g j hj _ _=>ap g j hj.1 hj.2⟩⟩⟩,fun fx=>⟨⟨h2,by omega⟩,fun g j hj _ _=>ap g j hj.1 hj.2⟩⟩
  obtain⟨hg,r1,r2,r3⟩:=hr
  have r2:=r2 fx
  have hj:=OZ h4 r.toNat
  have E1:(x.2.2.getD r.toNat (0,0,[],[],0)).2.2.1.length<=1300:=hj.1
  have E2:(x.2.2.getD r.toNat (0,0,[],[],0)).2.2.2.1.length<=1300:=hj.2
  exact⟨⟨r1,r2⟩,by omega,by omega,fun _ _=>ap g _ hg hj⟩
theorem Bh :
 ∀(x:List Int),Ty.wf (Ty.sl (Ty.int u8)) x->x.length<=(9223372036854775807:Nat)->x.length<=(9223372036854775807:Nat)/\∀(g:List Int×Int×Int) (r:Unit),af g->Ty.wf ar g->True->True/\∀(r:Int),xC (10:Int) r->Ty.wf ai r->af g/\∀(g:List Int×Int×Int) (aX:Int),af g/\aA r aX->Ty.wf ar g->Ty.wf ai aX->(af g/\aX<=(50:Int))/\∀(g:List Int×Int×Int) (r:Int×List (List Int×Int×List Int×List Int)),af g/\aO (32:Nat) r.2->Ty.wf ar g->Ty.wf bE r->af g/\aO (32:Nat) r.2:=by
  intro d hd hp
  simp only[exists_const,forall_const,decide_eq_true_eq,decide_eq_false_iff_not,beq_iff_eq,sxS]
  refine⟨hp,fun g hg _ r hr _=>⟨hg,fun g k hk _ _=>⟨⟨hk.1,?_⟩,fun g2 r2 h2 _ _=>h2⟩⟩⟩
  have h1:=hk.2.2.1
  have h2:=hk.2.2.2
  unfold xC at hr
  omega
theorem Ot{es:List En}(h:∀ e∈es,H_ e)(i:Nat):H_ (es.getD i ([],0,[],[])):=by
 rw[List.getD_eq_getElem?_getD]
 by_cases hi:i<es.length
 ·rw[List.getElem?_eq_getElem hi];exact h _ (List.getElem_mem hi)
 ·rw[List.getElem?_eq_none (by omega)];exact⟨by show ([]:List Int).length<=_;simp,by show ([]:List Int).length<=_;simp,by show ([]:List Int).length<=_;simp⟩
theorem Ny{y:Nat×cL×List Int}{g:cL}{r:Int}(hy:y.1<=5002/\af y.2.1/\y.2.2.length=y.1)(hg:af g/\aA 2 r) :
 ((y.1:Int)<i64.wrap (5000+r)->(y.2.2.length+[(7:Int)].length)*1<=140737488355328/\∃ x':Nat×cL×List Int,(x'.1<=5002/\af x'.2.1/\x'.2.2.length=x'.1)/\5002-x'.1<5002-y.1/\i64.wrap ((y.1:Int)+1)=(x'.1:Int)/\(g.1=x'.2.1.1/\g.2.1=x'.2.1.2.1/\g.2.2=x'.2.1.2.2)/\y.2.2++[7]=x'.2.2) ∧
 (¬(y.1:Int)<i64.wrap (5000+r)->af g/\aj 10000 y.2.2):=by
 obtain⟨h1,h2,h3⟩:=hy
 obtain⟨hg,r1,r2,r3⟩:=hg
 have r2:=r2 (by omega)
 have e:i64.wrap (5000+r)=5000+r:=wrap_small (by omega)
 rw[e]
 refine⟨fun aZ=>⟨by rw[List.length_singleton];omega,(y.1+1,g,y.2.2++[7]),⟨by show y.1+1<=5002;omega,hg,by show (y.2.2++[7]).length=y.1+1;rw[List.length_append,List.length_singleton,h3]⟩,by show 5002-(y.1+1)<5002-y.1;omega,wrap_small (n:=(y.1:Int)+1) (by omega),⟨rfl,rfl,rfl⟩,rfl⟩,fun _=>⟨hg,by unfold aj;omega⟩⟩
theorem Bg :
 ∀(d:List Int×Int×Int) (x:Int×List (List Int×Int×List Int×List Int)),Ty.wf ar d->Ty.wf bE x->af d/\aO (32:Nat) x.2->(decide ((0:Int)<(x.2.length:Int))=true->af d/\∀(g:List Int×Int×Int) (r:Bool),af g->Ty.wf ar g->Ty.wf Ty.bool r->((!r)=true->(af g/\∀(g:List Int×Int×Int) (r:Int),af g/\aA (x.2.length:Int) r->Ty.wf ar g->Ty.wf ai r->((0:Int)<=r/\r<(x.2.length:Int))/\List.length (x.2.getD r.toNat ([],(0:Int),[],[])).1<=(1048576:Nat)/\(Ty.wf aC (x.2.getD r.toNat ([],(0:Int),[],[])).1->af g/\aj (10000:Nat) (x.2.getD r.toNat ([],(0:Int),[],[])).1))/\(af g/\∀(g:List Int×Int×Int) (r:Int),af g/\aA (x.2.length:Int) r->Ty.wf ar g->Ty.wf ai r->((0:Int)<=r/\r<(x.2.length:Int))/\List.length (x.2.getD r.toNat ([],(0:Int),[],[])).1<=(1048576:Nat)/\(Ty.wf aC (x.2.getD r.toNat ([],(0:Int),[],[])).1->af g/\aj (10000:Nat) (x.2.getD r.toNat ([],(0:Int),[],[])).1))/\(af g/\∀(g:List Int×Int×Int) (r:Int),af g/\aA (x.2.length:Int) r->Ty.wf ar g->Ty.wf ai r->((0:Int)<=r/\r<(x.2.length:Int))/\List.length (x.2.getD r.toNat ([],(0:Int),[],[])).1<=(1048576:Nat)/\(Ty.wf aC (x.2.getD r.toNat ([],(0:Int),[],[])).1->af g/\aj (10000:Nat) (x.2.getD r.toNat ([],(0:Int),[],[])).1))/\af g/\∀(g:List Int×Int×Int) (r:Int),af g/\aA (x.2.length:Int) r->Ty.wf ar g->Ty.wf ai r->((0:Int)<=r/\r<(x.2.length:Int))/\List.length (x.2.getD r.toNat ([],(0:Int),[],[])).1<=(1048576:Nat)/\(Ty.wf aC (x.2.getD r.toNat ([],(0:Int),[],[])).1->af g/\aj (10000:Nat) (x.2.getD r.toNat ([],(0:Int),[],[])).1))/\((!r)=false->af g/\∀(g:List Int×Int×Int) (aX:Bool),af g->Ty.wf ar g->Ty.wf Ty.bool aX->(aX=true->(∃(x':List Int×Int×Int),af x'/\((x.1=x.1/\x.2=x.2)/\an)/\(g.1=x'.1/\g.2.1=x'.2.1/\g.2.2=x'.2.2)/\(x.1=x.1/\x.2=x.2)/\([]:List Int)=[])/\∀(x_1:List Int×Int×Int),af x_1->((0:Nat)<=(5002:Nat)/\af x_1/\ah (0:Nat))/\(((x.1=x.1/\x.2=x.2)/\an/\(0:Int)=(↑(0:Nat):Int))/\(ah x_1.1/\ah x_1.2.1/\ah x_1.2.2)/\(x.1=x.1/\x.2=x.2)/\([]:List Int)=[])/\∀(x_2:Nat×(List Int×Int×Int)×List Int),x_2.1<=(5002:Nat)/\af x_2.2.1/\x_2.2.2.length=x_2.1->af x_2.2.1/\∀(g:List Int×Int×Int) (r:Int),af g/\aA (2:Int) r->Ty.wf ar g->Ty.wf ai r->(decide ((x_2.1:Int)<i64.wrap ((5000:Int)+r))=true->(x_2.2.2.length+List.length [(7:Int)])*(1:Nat)<=(140737488355328:Nat)/\∃(x':Nat×(List Int×Int×Int)×List Int),(x'.1<=(5002:Nat)/\af x'.2.1/\x'.2.2.length=x'.1)/\(5002:Nat)-x'.1<(5002:Nat)-x_2.1/\((x.1=x.1/\x.2=x.2)/\an/\i64.wrap ((x_2.1:Int)+(1:Int))=(x'.1:Int))/\(g.1=x'.2.1.1/\g.2.1=x'.2.1.2.1/\g.2.2=x'.2.1.2.2)/\(x.1=x.1/\x.2=x.2)/\x_2.2.2++[(7:Int)]=x'.2.2)/\(decide ((x_2.1:Int)<i64.wrap ((5000:Int)+r))=false->af g/\aj (10000:Nat) x_2.2.2))/\(aX=false->af g/\∀(g:List Int×Int×Int) (r:Int),af g/\aA (5:Int) r->Ty.wf ar g->Ty.wf ai r->(af g/\r<=(1100:Int))/\∀(g:List Int×Int×Int) (r:List Int),af g/\aj (1100:Nat) r->Ty.wf ar g->Ty.wf aC r->af g/\aj (10000:Nat) r)))/\(decide ((0:Int)<(x.2.length:Int))=false->af d/\∀(g:List Int×Int×Int) (r:Bool),af g->Ty.wf ar g->Ty.wf Ty.bool r->(r=true->(∃(x':List Int×Int×Int),af x'/\((x.1=x.1/\x.2=x.2)/\an)/\(g.1=x'.1/\g.2.1=x'.2.1/\g.2.2=x'.2.2)/\(x.1=x.1/\x.2=x.2)/\([]:List Int)=[])/\∀(x_1:List Int×Int×Int),af x_1->((0:Nat)<=(5002:Nat)/\af x_1/\ah (0:Nat))/\(((x.1=x.1/\x.2=x.2)/\an/\(0:Int)=(↑(0:Nat):Int))/\(ah x_1.1/\ah x_1.2.1/\ah x_1.2.2)/\(x.1=x.1/\x.2=x.2)/\([]:List Int)=[])/\∀(x_2:Nat×(List Int×Int×Int)×List Int),x_2.1<=(5002:Nat)/\af x_2.2.1/\x_2.2.2.length=x_2.1->af x_2.2.1/\∀(g:List Int×Int×Int) (r:Int),af g/\aA (2:Int) r->Ty.wf ar g->Ty.wf ai r->(decide ((x_2.1:Int)<i64.wrap ((5000:Int)+r))=true->(x_2.2.2.length+List.length [(7:Int)])*(1:Nat)<=(140737488355328:Nat)/\∃(x':Nat×(List Int×Int×Int)×List Int),(x'.1<=(5002:Nat)/\af x'.2.1/\x'.2.2.length=x'.1)/\(5002:Nat)-x'.1<(5002:Nat)-x_2.1/\((x.1=x.1/\x.2=x.2)/\an/\i64.wrap ((x_2.1:Int)+(1:Int))=(x'.1:Int))/\(g.1=x'.2.1.1/\g.2.1=x'.2.1.2.1/\g.2.2=x'.2.1.2.2)/\(x.1=x.1/\x.2=x.2)/\x_2.2.2++[(7:Int)]=x'.2.2)/\(decide ((x_2.1:Int)<i64.wrap ((5000:Int)+r))=false->af g/\aj (10000:Nat) x_2.2.2))/\(r=false->af g/\∀(g:List Int×Int×Int) (r:Int),af g/\aA (5:Int) r->Ty.wf ar g->Ty.wf ai r->(af g/\r<=(1100:Int))/\∀(g:List Int×Int×Int) (r:List Int),af g/\aj (1100:Nat) r->Ty.wf ar g->Ty.wf aC r->af g/\aj (10000:Nat) r)):=by
  intro d x hd hx hp
  obtain⟨hc,hn,he⟩:=hp
  have hE:∀ i:Nat,aj 10000 (x.2.getD i ([],0,[],[])).1:=fun i=>(Ot he i).1
  have Oz:∀ i:Nat,(x.2.getD i ([],0,[],[])).1.length<=1048576:=fun i=>Nat.le_trans (hE i) (by omega)
  simp only[exists_const,forall_const,decide_eq_true_eq,decide_eq_false_iff_not,beq_iff_eq,sxS]
  repeat' (first
   | assumption
   | exact trivial
   | omega
   | exact fun g r hr _ _=>⟨⟨hr.2.1,hr.2.2.1 ‹_›⟩,Oz _,fun _=>⟨hr.1,hE _⟩⟩
   | exact fun y hy=>⟨hy.2.1,fun g r hg _ _=>Ny hy hg⟩
   | exact⟨_,‹af _›,rfl,rfl,rfl⟩
   | (show aj _ _;unfold aj;omega)
   | exact Nat.zero_le _
   | rfl
   | (intro (h:af _/\aA _ _);obtain⟨_,_,hb,_⟩:=h;have hb:=hb (by omega))
   | (intro (h:af _/\aj _ _);obtain⟨_,iJ⟩:=h;unfold aj at iJ)
   | with_reducible apply And.intro
   | intro _)
theorem O4(n:Nat):aO n []:=⟨Nat.zero_le _,fun e he=>by cases he⟩
theorem Sg{n m:Nat}{es:List En}(h:aO n es)(hm:n<=m):aO m es:=⟨Nat.le_trans h.1 hm,h.2⟩
theorem U6{es:List En}{n:Nat}(hn:n<=1000)(h:aO n es):bH es:=by
 obtain⟨h1,h2⟩:=h
 refine⟨by omega,fun e he=>?_⟩
 obtain⟨a,b,c⟩:=h2 e he
 unfold aj at a b c
 exact⟨by omega,by omega,by omega⟩
theorem O3{es:List En}{n:Nat}{e:En}(h:aO n es)(he:H_ e):aO (n+1) (es++[e]):=by
 refine⟨by rw[List.length_append,List.length_singleton];exact Nat.succ_le_succ h.1,fun i hi=>?_⟩
 rcases List.mem_append.1 hi with h2|h2
 ·exact h.2 _ h2
 ·rw[List.mem_singleton.1 h2];exact he
theorem Tb{es:List En}{n i:Nat}{e:En}(h:aO n es)(he:H_ e):aO n (es.set i e):=by
 refine⟨by rw[List.length_set];exact h.1,fun j hj=>?_⟩
 rcases List.mem_or_eq_of_mem_set hj with h2|h2
 ·exact h.2 _ h2
 ·rw[h2];exact he
theorem U0{es:List En}(h:∀ e∈es,e.1.length<=6000)(i:Nat):(es.getD i ([],0,[],[])).1.length<=6000:=by
 rw[List.getD_eq_getElem?_getD]
 by_cases hi:i<es.length
 ·rw[List.getElem?_eq_getElem hi];exact h _ (List.getElem_mem hi)
 ·rw[List.getElem?_eq_none (by omega)];show ([]:List Int).length<=_;simp
theorem PJ{c:Ca}{key:List Int}{r:Rs}(hc:ua c.2)(hk:key.length<=6000)(h1:r.2.1.length<=4000)(h2:r.2.2.length<=4000):ua (aQ c key r).1.2:=by
 unfold aQ
 split
 ·rename_i hB
  have hm:∀ e∈(cq c (key,r)).2,H_ e/\e.1.length<=6000:=by
   intro e he
   rcases List.mem_cons.1 he with h|h
   ·rw[h];exact⟨⟨Nat.le_trans hk (by omega),h1,h2⟩,hk⟩
   ·have:=(List.mem_filter.1 h).1
    exact⟨hc.1.2 _ this,hc.2 _ this⟩
  have VY:0<=c.1:=by have:=hB.2.2;omega
  have ht:=(B4 VY (cq c (key,r)).2 (cq c (key,r)).2.length).1
  refine⟨⟨?_,fun e he=>(hm e (List.mem_of_mem_take he)).1⟩,fun e he=>(hm e (List.mem_of_mem_take he)).2⟩
  show (List.take _ _).length<=31
  rw[List.length_take]
  have OV:bA (cq c (key,r)).1 (cq c (key,r)).2 (cq c (key,r)).2.length<=30:=ht
  omega
 ·exact hc
theorem xN :
 ∀(d:List Int×Int×Int) (x:Int),Ty.wf ar d->Ty.wf ai x->af d/\x<=(50:Int)->af d/\∀(g:List Int×Int×Int) (r:Int),af g/\aA (60:Int) r->Ty.wf ar g->Ty.wf ai r->(af g/\(0:Nat)<List.length [(0:Int),(5:Int),(20:Int),(100:Int),(1000:Int),(5000:Int),i64.wrap ((30:Int)+r)])/\∀(c_:List Int×Int×Int) (aX:Int),af c_/\eN [(0:Int),(5:Int),(20:Int),(100:Int),(1000:Int),(5000:Int),i64.wrap ((30:Int)+r)] aX->Ty.wf ar c_->Ty.wf ai aX->((af c_/\x<=(50:Int))/\∀(g:List Int×Int×Int) (r:List (Int×Int×List Int×List Int×Int)),af g/\xv r->Ty.wf ar g->Ty.wf (Ty.sl n6) r->∃(x':(List Int×Int×Int)×List (Int×Int×List Int×List Int×Int)×Int),(af x'.1/\xv x'.2.1)/\x=x/\(g.1=x'.1.1/\g.2.1=x'.1.2.1/\g.2.2=x'.1.2.2)/\(ah (0:Int)/\an)/\aX=x'.2.2/\r=x'.2.1/\([]:List En)=[])/\∀(x_1:(List Int×Int×Int)×List (Int×Int×List Int×List Int×Int)×Int),af x_1.1/\xv x_1.2.1->((0:Nat)<=x_1.2.1.length/\af x_1.1/\ua [])/\((x=x/\(0:Int)=(↑(0:Nat):Int))/\(ah x_1.1.1/\ah x_1.1.2.1/\ah x_1.1.2.2)/\(ah (0:Int)/\an)/\ah x_1.2.2/\ah x_1.2.1/\([]:List En)=[])/\∀(x_2:Nat×(List Int×Int×Int)×Int×List (List Int×Int×List Int×List Int)),x_2.1<=x_1.2.1.length/\af x_2.2.1/\ua x_2.2.2.2->(decide ((x_2.1:Int)<(x_1.2.1.length:Int))=true->((0:Int)<=(x_2.1:Int)/\(x_2.1:Int)<(x_1.2.1.length:Int))/\True/\(bI (x_1.2.1.getD ((x_2.1:Int).toNat) ((0:Int),(0:Int),[],[],(0:Int)))=true->((0:Int)<=(x_2.1:Int)/\(x_2.1:Int)<(x_1.2.1.length:Int))/\True/\(Ty.wf O5 (aK (x_1.2.1.getD ((x_2.1:Int).toNat) ((0:Int),(0:Int),[],[],(0:Int))))->af x_2.2.1/\∀(g:List Int×Int×Int) (r:Bool),af g->Ty.wf ar g->Ty.wf Ty.bool r->(r=true->List.length (aK (x_1.2.1.getD ((x_2.1:Int).toNat) ((0:Int),(0:Int),[],[],(0:Int)))).2.1<=(1048576:Nat)/\(Ty.wf al (aK (x_1.2.1.getD ((x_2.1:Int).toNat) ((0:Int),(0:Int),[],[],(0:Int)))).2.1->(List.length (aK (x_1.2.1.getD ((x_2.1:Int).toNat) ((0:Int),(0:Int),[],[],(0:Int)))).2.1+List.length [(1:Int)])*(8:Nat)<=(140737488355328:Nat)/\((0:Int)<=(x_2.1:Int)/\(x_2.1:Int)<(x_1.2.1.length:Int))/\True/\(bH x_2.2.2.2/\List.length (eX (x_1.2.1.getD ((x_2.1:Int).toNat) ((0:Int),(0:Int),[],[],(0:Int))))<=(1048576:Nat)/\dF (Prod.fst (aK (x_1.2.1.getD ((x_2.1:Int).toNat) ((0:Int),(0:Int),[],[],(0:Int)))),(aK (x_1.2.1.getD ((x_2.1:Int).toNat) ((0:Int),(0:Int),[],[],(0:Int)))).2.1++[(1:Int)],(aK (x_1.2.1.getD ((x_2.1:Int).toNat) ((0:Int),(0:Int),[],[],(0:Int)))).2.2))/\(Ty.wf bE (aQ x_2.2.2 (eX (x_1.2.1.getD ((x_2.1:Int).toNat) ((0:Int),(0:Int),[],[],(0:Int)))) (Prod.fst (aK (x_1.2.1.getD ((x_2.1:Int).toNat) ((0:Int),(0:Int),[],[],(0:Int)))),(aK (x_1.2.1.getD ((x_2.1:Int).toNat) ((0:Int),(0:Int),[],[],(0:Int)))).2.1++[(1:Int)],(aK (x_1.2.1.getD ((x_2.1:Int).toNat) ((0:Int),(0:Int),[],[],(0:Int)))).2.2)).1/\Ty.wf Ty.bool (aQ x_2.2.2 (eX (x_1.2.1.getD ((x_2.1:Int).toNat) ((0:Int),(0:Int),[],[],(0:Int)))) (Prod.fst (aK (x_1.2.1.getD ((x_2.1:Int).toNat) ((0:Int),(0:Int),[],[],(0:Int)))),(aK (x_1.2.1.getD ((x_2.1:Int).toNat) ((0:Int),(0:Int),[],[],(0:Int)))).2.1++[(1:Int)],(aK (x_1.2.1.getD ((x_2.1:Int).toNat) ((0:Int),(0:Int),[],[],(0:Int)))).2.2)).2->Ty.wf aC (eX (x_1.2.1.getD ((x_2.1:Int).toNat) ((0:Int),(0:Int),[],[],(0:Int))))->∃(x':Nat×(List Int×Int×Int)×Int×List (List Int×Int×List Int×List Int)),(x'.1<=x_1.2.1.length/\af x'.2.1/\ua x'.2.2.2)/\x_1.2.1.length-x'.1<x_1.2.1.length-x_2.1/\(x=x/\i64.wrap ((x_2.1:Int)+(1:Int))=(x'.1:Int))/\(g.1=x'.2.1.1/\g.2.1=x'.2.1.2.1/\g.2.2=x'.2.1.2.2)/\(ah (0:Int)/\an)/\(aQ x_2.2.2 (eX (x_1.2.1.getD ((x_2.1:Int).toNat) ((0:Int),(0:Int),[],[],(0:Int)))) (Prod.fst (aK (x_1.2.1.getD ((x_2.1:Int).toNat) ((0:Int),(0:Int),[],[],(0:Int)))),(aK (x_1.2.1.getD ((x_2.1:Int).toNat) ((0:Int),(0:Int),[],[],(0:Int)))).2.1++[(1:Int)],(aK (x_1.2.1.getD ((x_2.1:Int).toNat) ((0:Int),(0:Int),[],[],(0:Int)))).2.2)).1.1=x'.2.2.1/\ah x_1.2.1/\(aQ x_2.2.2 (eX (x_1.2.1.getD ((x_2.1:Int).toNat) ((0:Int),(0:Int),[],[],(0:Int)))) (Prod.fst (aK (x_1.2.1.getD ((x_2.1:Int).toNat) ((0:Int),(0:Int),[],[],(0:Int)))),(aK (x_1.2.1.getD ((x_2.1:Int).toNat) ((0:Int),(0:Int),[],[],(0:Int)))).2.1++[(1:Int)],(aK (x_1.2.1.getD ((x_2.1:Int).toNat) ((0:Int),(0:Int),[],[],(0:Int)))).2.2)).1.2=x'.2.2.2)))/\(r=false->((0:Int)<=(x_2.1:Int)/\(x_2.1:Int)<(x_1.2.1.length:Int))/\True/\(bH x_2.2.2.2/\List.length (eX (x_1.2.1.getD ((x_2.1:Int).toNat) ((0:Int),(0:Int),[],[],(0:Int))))<=(1048576:Nat)/\dF (aK (x_1.2.1.getD ((x_2.1:Int).toNat) ((0:Int),(0:Int),[],[],(0:Int)))))/\(Ty.wf bE (aQ x_2.2.2 (eX (x_1.2.1.getD ((x_2.1:Int).toNat) ((0:Int),(0:Int),[],[],(0:Int)))) (aK (x_1.2.1.getD ((x_2.1:Int).toNat) ((0:Int),(0:Int),[],[],(0:Int))))).1/\Ty.wf Ty.bool (aQ x_2.2.2 (eX (x_1.2.1.getD ((x_2.1:Int).toNat) ((0:Int),(0:Int),[],[],(0:Int)))) (aK (x_1.2.1.getD ((x_2.1:Int).toNat) ((0:Int),(0:Int),[],[],(0:Int))))).2->Ty.wf aC (eX (x_1.2.1.getD ((x_2.1:Int).toNat) ((0:Int),(0:Int),[],[],(0:Int))))->∃(x':Nat×(List Int×Int×Int)×Int×List (List Int×Int×List Int×List Int)),(x'.1<=x_1.2.1.length/\af x'.2.1/\ua x'.2.2.2)/\x_1.2.1.length-x'.1<x_1.2.1.length-x_2.1/\(x=x/\i64.wrap ((x_2.1:Int)+(1:Int))=(x'.1:Int))/\(g.1=x'.2.1.1/\g.2.1=x'.2.1.2.1/\g.2.2=x'.2.1.2.2)/\(ah (0:Int)/\an)/\(aQ x_2.2.2 (eX (x_1.2.1.getD ((x_2.1:Int).toNat) ((0:Int),(0:Int),[],[],(0:Int)))) (aK (x_1.2.1.getD ((x_2.1:Int).toNat) ((0:Int),(0:Int),[],[],(0:Int))))).1.1=x'.2.2.1/\ah x_1.2.1/\(aQ x_2.2.2 (eX (x_1.2.1.getD ((x_2.1:Int).toNat) ((0:Int),(0:Int),[],[],(0:Int)))) (aK (x_1.2.1.getD ((x_2.1:Int).toNat) ((0:Int),(0:Int),[],[],(0:Int))))).1.2=x'.2.2.2))))/\(bI (x_1.2.1.getD ((x_2.1:Int).toNat) ((0:Int),(0:Int),[],[],(0:Int)))=false->∃(x':Nat×(List Int×Int×Int)×Int×List (List Int×Int×List Int×List Int)),(x'.1<=x_1.2.1.length/\af x'.2.1/\ua x'.2.2.2)/\x_1.2.1.length-x'.1<x_1.2.1.length-x_2.1/\(x=x/\i64.wrap ((x_2.1:Int)+(1:Int))=(x'.1:Int))/\(x_2.2.1.1=x'.2.1.1/\x_2.2.1.2.1=x'.2.1.2.1/\x_2.2.1.2.2=x'.2.1.2.2)/\(ah (0:Int)/\an)/\x_2.2.2.1=x'.2.2.1/\ah x_1.2.1/\x_2.2.2.2=x'.2.2.2))/\(decide ((x_2.1:Int)<(x_1.2.1.length:Int))=false->af x_2.2.1/\∀(g:List Int×Int×Int) (r:Bool),af g->Ty.wf ar g->Ty.wf Ty.bool r->(r=true->af g/\∀(g:List Int×Int×Int) (bS:Int),af g/\aA (3:Int) bS->Ty.wf ar g->Ty.wf ai bS->(decide (bS=(0:Int))=true->(af g/\(0:Nat)<List.length [(-1:Int),(5001:Int),(0:Int)])/\∀(QX:List Int×Int×Int) (aM:Int),af QX/\eN [(-1:Int),(5001:Int),(0:Int)] aM->Ty.wf ar QX->Ty.wf ai aM->af QX/\aO (32:Nat) x_2.2.2.2)/\(decide (bS=(0:Int))=false->(decide (bS=(1:Int))=true->(decide ((0:Int)<(x_2.2.2.2.length:Int))=true->((0:Int)<=(0:Int)/\(0:Int)<(x_2.2.2.2.length:Int))/\(x_2.2.2.2.length+List.length [x_2.2.2.2.getD ((0:Int).toNat) ([],(0:Int),[],[])])*(80:Nat)<=(140737488355328:Nat)/\af g/\aO (32:Nat) (x_2.2.2.2++[x_2.2.2.2.getD ((0:Int).toNat) ([],(0:Int),[],[])]))/\(decide ((0:Int)<(x_2.2.2.2.length:Int))=false->af g/\aO (32:Nat) x_2.2.2.2))/\(decide (bS=(1:Int))=false->(decide (bS=(2:Int))=true->(decide ((0:Int)<(x_2.2.2.2.length:Int))=true->(((((0:Int)<=(0:Int)/\(0:Int)<(x_2.2.2.2.length:Int))/\((List.length (x_2.2.2.2.getD ((0:Int).toNat) ([],(0:Int),[],[])).1<=(1048576:Nat)/\(Ty.wf aC (x_2.2.2.2.getD ((0:Int).toNat) ([],(0:Int),[],[])).1->(List.length (x_2.2.2.2.getD ((0:Int).toNat) ([],(0:Int),[],[])).1+List.length [(0:Int)])*(1:Nat)<=(140737488355328:Nat)/\((0:Int)<=(0:Int)/\(0:Int)<(x_2.2.2.2.length:Int))/\af g/\aO (32:Nat) (List.set x_2.2.2.2 ((0:Int).toNat) (Prod.fst (x_2.2.2.2.getD ((0:Int).toNat) ([],(0:Int),[],[]))++[(0:Int)],(x_2.2.2.2.getD ((0:Int).toNat) ([],(0:Int),[],[])).2))))/\List.length (x_2.2.2.2.getD ((0:Int).toNat) ([],(0:Int),[],[])).1<=(1048576:Nat)/\(Ty.wf aC (x_2.2.2.2.getD ((0:Int).toNat) ([],(0:Int),[],[])).1->(List.length (x_2.2.2.2.getD ((0:Int).toNat) ([],(0:Int),[],[])).1+List.length [(0:Int)])*(1:Nat)<=(140737488355328:Nat)/\((0:Int)<=(0:Int)/\(0:Int)<(x_2.2.2.2.length:Int))/\af g/\aO (32:Nat) (List.set x_2.2.2.2 ((0:Int).toNat) (Prod.fst (x_2.2.2.2.getD ((0:Int).toNat) ([],(0:Int),[],[]))++[(0:Int)],(x_2.2.2.2.getD ((0:Int).toNat) ([],(0:Int),[],[])).2))))/\List.length (x_2.2.2.2.getD ((0:Int).toNat) ([],(0:Int),[],[])).1<=(1048576:Nat)/\(Ty.wf aC (x_2.2.2.2.getD ((0:Int).toNat) ([],(0:Int),[],[])).1->(List.length (x_2.2.2.2.getD ((0:Int).toNat) ([],(0:Int),[],[])).1+List.length [(0:Int)])*(1:Nat)<=(140737488355328:Nat)/\((0:Int)<=(0:Int)/\(0:Int)<(x_2.2.2.2.length:Int))/\af g/\aO (32:Nat) (List.set x_2.2.2.2 ((0:Int).toNat) (Prod.fst (x_2.2.2.2.getD ((0:Int).toNat) ([],(0:Int),[],[]))++[(0:Int)],(x_2.2.2.2.getD ((0:Int).toNat) ([],(0:Int),[],[])).2))))/\((0:Int)<=(0:Int)/\(0:Int)<(x_2.2.2.2.length:Int))/\List.length (x_2.2.2.2.getD ((0:Int).toNat) ([],(0:Int),[],[])).1<=(1048576:Nat)/\(Ty.wf aC (x_2.2.2.2.getD ((0:Int).toNat) ([],(0:Int),[],[])).1->(List.length (x_2.2.2.2.getD ((0:Int).toNat) ([],(0:Int),[],[])).1+List.length [(0:Int)])*(1:Nat)<=(140737488355328:Nat)/\((0:Int)<=(0:Int)/\(0:Int)<(x_2.2.2.2.length:Int))/\af g/\aO (32:Nat) (List.set x_2.2.2.2 ((0:Int).toNat) (Prod.fst (x_2.2.2.2.getD ((0:Int).toNat) ([],(0:Int),[],[]))++[(0:Int)],(x_2.2.2.2.getD ((0:Int).toNat) ([],(0:Int),[],[])).2))))/\((0:Int)<=(0:Int)/\(0:Int)<(x_2.2.2.2.length:Int))/\List.length (x_2.2.2.2.getD ((0:Int).toNat) ([],(0:Int),[],[])).1<=(1048576:Nat)/\(Ty.wf aC (x_2.2.2.2.getD ((0:Int).toNat) ([],(0:Int),[],[])).1->(List.length (x_2.2.2.2.getD ((0:Int).toNat) ([],(0:Int),[],[])).1+List.length [(0:Int)])*(1:Nat)<=(140737488355328:Nat)/\((0:Int)<=(0:Int)/\(0:Int)<(x_2.2.2.2.length:Int))/\af g/\aO (32:Nat) (List.set x_2.2.2.2 ((0:Int).toNat) (Prod.fst (x_2.2.2.2.getD ((0:Int).toNat) ([],(0:Int),[],[]))++[(0:Int)],(x_2.2.2.2.getD ((0:Int).toNat) ([],(0:Int),[],[])).2))))/\(((((0:Int)<=(0:Int)/\(0:Int)<(x_2.2.2.2.length:Int))/\((List.length (x_2.2.2.2.getD ((0:Int).toNat) ([],(0:Int),[],[])).1<=(1048576:Nat)/\(Ty.wf aC (x_2.2.2.2.getD ((0:Int).toNat) ([],(0:Int),[],[])).1->(List.length (x_2.2.2.2.getD ((0:Int).toNat) ([],(0:Int),[],[])).1+List.length [(0:Int)])*(1:Nat)<=(140737488355328:Nat)/\((0:Int)<=(0:Int)/\(0:Int)<(x_2.2.2.2.length:Int))/\af g/\aO (32:Nat) (List.set x_2.2.2.2 ((0:Int).toNat) (Prod.fst (x_2.2.2.2.getD ((0:Int).toNat) ([],(0:Int),[],[]))++[(0:Int)],(x_2.2.2.2.getD ((0:Int).toNat) ([],(0:Int),[],[])).2))))/\List.length (x_2.2.2.2.getD ((0:Int).toNat) ([],(0:Int),[],[])).1<=(1048576:Nat)/\(Ty.wf aC (x_2.2.2.2.getD ((0:Int).toNat) ([],(0:Int),[],[])).1->(List.length (x_2.2.2.2.getD ((0:Int).toNat) ([],(0:Int),[],[])).1+List.length [(0:Int)])*(1:Nat)<=(140737488355328:Nat)/\((0:Int)<=(0:Int)/\(0:Int)<(x_2.2.2.2.length:Int))/\af g/\aO (32:Nat) (List.set x_2.2.2.2 ((0:Int).toNat) (Prod.fst (x_2.2.2.2.getD ((0:Int).toNat) ([],(0:Int),[],[]))++[(0:Int)],(x_2.2.2.2.getD ((0:Int).toNat) ([],(0:Int),[],[])).2))))/\List.length (x_2.2.2.2.getD ((0:Int).toNat) ([],(0:Int),[],[])).1<=(1048576:Nat)/\(Ty.wf aC (x_2.2.2.2.getD ((0:Int).toNat) ([],(0:Int),[],[])).1->(List.length (x_2.2.2.2.getD ((0:Int).toNat) ([],(0:Int),[],[])).1+List.length [(0:Int)])*(1:Nat)<=(140737488355328:Nat)/\((0:Int)<=(0:Int)/\(0:Int)<(x_2.2.2.2.length:Int))/\af g/\aO (32:Nat) (List.set x_2.2.2.2 ((0:Int).toNat) (Prod.fst (x_2.2.2.2.getD ((0:Int).toNat) ([],(0:Int),[],[]))++[(0:Int)],(x_2.2.2.2.getD ((0:Int).toNat) ([],(0:Int),[],[])).2))))/\((0:Int)<=(0:Int)/\(0:Int)<(x_2.2.2.2.length:Int))/\List.length (x_2.2.2.2.getD ((0:Int).toNat) ([],(0:Int),[],[])).1<=(1048576:Nat)/\(Ty.wf aC (x_2.2.2.2.getD ((0:Int).toNat) ([],(0:Int),[],[])).1->(List.length (x_2.2.2.2.getD ((0:Int).toNat) ([],(0:Int),[],[])).1+List.length [(0:Int)])*(1:Nat)<=(140737488355328:Nat)/\((0:Int)<=(0:Int)/\(0:Int)<(x_2.2.2.2.length:Int))/\af g/\aO (32:Nat) (List.set x_2.2.2.2 ((0:Int).toNat) (Prod.fst (x_2.2.2.2.getD ((0:Int).toNat) ([],(0:Int),[],[]))++[(0:Int)],(x_2.2.2.2.getD ((0:Int).toNat) ([],(0:Int),[],[])).2))))/\(((0:Int)<=(0:Int)/\(0:Int)<(x_2.2.2.2.length:Int))/\(((List.length (x_2.2.2.2.getD ((0:Int).toNat) ([],(0:Int),[],[])).1<=(1048576:Nat)/\(Ty.wf aC (x_2.2.2.2.getD ((0:Int).toNat) ([],(0:Int),[],[])).1->(List.length (x_2.2.2.2.getD ((0:Int).toNat) ([],(0:Int),[],[])).1+List.length [(0:Int)])*(1:Nat)<=(140737488355328:Nat)/\((0:Int)<=(0:Int)/\(0:Int)<(x_2.2.2.2.length:Int))/\af g/\aO (32:Nat) (List.set x_2.2.2.2 ((0:Int).toNat) (Prod.fst (x_2.2.2.2.getD ((0:Int).toNat) ([],(0:Int),[],[]))++[(0:Int)],(x_2.2.2.2.getD ((0:Int).toNat) ([],(0:Int),[],[])).2))))/\List.length (x_2.2.2.2.getD ((0:Int).toNat) ([],(0:Int),[],[])).1<=(1048576:Nat)/\(Ty.wf aC (x_2.2.2.2.getD ((0:Int).toNat) ([],(0:Int),[],[])).1->(List.length (x_2.2.2.2.getD ((0:Int).toNat) ([],(0:Int),[],[])).1+List.length [(0:Int)])*(1:Nat)<=(140737488355328:Nat)/\((0:Int)<=(0:Int)/\(0:Int)<(x_2.2.2.2.length:Int))/\af g/\aO (32:Nat) (List.set x_2.2.2.2 ((0:Int).toNat) (Prod.fst (x_2.2.2.2.getD ((0:Int).toNat) ([],(0:Int),[],[]))++[(0:Int)],(x_2.2.2.2.getD ((0:Int).toNat) ([],(0:Int),[],[])).2))))/\List.length (x_2.2.2.2.getD ((0:Int).toNat) ([],(0:Int),[],[])).1<=(1048576:Nat)/\(Ty.wf aC (x_2.2.2.2.getD ((0:Int).toNat) ([],(0:Int),[],[])).1->(List.length (x_2.2.2.2.getD ((0:Int).toNat) ([],(0:Int),[],[])).1+List.length [(0:Int)])*(1:Nat)<=(140737488355328:Nat)/\((0:Int)<=(0:Int)/\(0:Int)<(x_2.2.2.2.length:Int))/\af g/\aO (32:Nat) (List.set x_2.2.2.2 ((0:Int).toNat) (Prod.fst (x_2.2.2.2.getD ((0:Int).toNat) ([],(0:Int),[],[]))++[(0:Int)],(x_2.2.2.2.getD ((0:Int).toNat) ([],(0:Int),[],[])).2))))/\(((List.length (x_2.2.2.2.getD ((0:Int).toNat) ([],(0:Int),[],[])).1<=(1048576:Nat)/\(Ty.wf aC (x_2.2.2.2.getD ((0:Int).toNat) ([],(0:Int),[],[])).1->(List.length (x_2.2.2.2.getD ((0:Int).toNat) ([],(0:Int),[],[])).1+List.length [(0:Int)])*(1:Nat)<=(140737488355328:Nat)/\((0:Int)<=(0:Int)/\(0:Int)<(x_2.2.2.2.length:Int))/\af g/\aO (32:Nat) (List.set x_2.2.2.2 ((0:Int).toNat) (Prod.fst (x_2.2.2.2.getD ((0:Int).toNat) ([],(0:Int),[],[]))++[(0:Int)],(x_2.2.2.2.getD ((0:Int).toNat) ([],(0:Int),[],[])).2))))/\List.length (x_2.2.2.2.getD ((0:Int).toNat) ([],(0:Int),[],[])).1<=(1048576:Nat)/\(Ty.wf aC (x_2.2.2.2.getD ((0:Int).toNat) ([],(0:Int),[],[])).1->(List.length (x_2.2.2.2.getD ((0:Int).toNat) ([],(0:Int),[],[])).1+List.length [(0:Int)])*(1:Nat)<=(140737488355328:Nat)/\((0:Int)<=(0:Int)/\(0:Int)<(x_2.2.2.2.length:Int))/\af g/\aO (32:Nat) (List.set x_2.2.2.2 ((0:Int).toNat) (Prod.fst (x_2.2.2.2.getD ((0:Int).toNat) ([],(0:Int),[],[]))++[(0:Int)],(x_2.2.2.2.getD ((0:Int).toNat) ([],(0:Int),[],[])).2))))/\(List.length (x_2.2.2.2.getD ((0:Int).toNat) ([],(0:Int),[],[])).1<=(1048576:Nat)/\(Ty.wf aC (x_2.2.2.2.getD ((0:Int).toNat) ([],(0:Int),[],[])).1->((List.length (x_2.2.2.2.getD ((0:Int).toNat) ([],(0:Int),[],[])).1+List.length [(0:Int)])*(1:Nat)<=(140737488355328:Nat)/\((0:Int)<=(0:Int)/\(0:Int)<(x_2.2.2.2.length:Int))/\af g/\aO (32:Nat) (List.set x_2.2.2.2 ((0:Int).toNat) (Prod.fst (x_2.2.2.2.getD ((0:Int).toNat) ([],(0:Int),[],[]))++[(0:Int)],(x_2.2.2.2.getD ((0:Int).toNat) ([],(0:Int),[],[])).2)))/\((List.length (x_2.2.2.2.getD ((0:Int).toNat) ([],(0:Int),[],[])).1+List.length [(0:Int)])*(1:Nat)<=(140737488355328:Nat)/\((0:Int)<=(0:Int)/\(0:Int)<(x_2.2.2.2.length:Int))/\af g/\aO (32:Nat) (List.set x_2.2.2.2 ((0:Int).toNat) (Prod.fst (x_2.2.2.2.getD ((0:Int).toNat) ([],(0:Int),[],[]))++[(0:Int)],(x_2.2.2.2.getD ((0:Int).toNat) ([],(0:Int),[],[])).2)))/\(List.length (x_2.2.2.2.getD ((0:Int).toNat) ([],(0:Int),[],[])).1+List.length [(0:Int)])*(1:Nat)<=(140737488355328:Nat)/\((0:Int)<=(0:Int)/\(0:Int)<(x_2.2.2.2.length:Int))/\af g/\aO (32:Nat) (List.set x_2.2.2.2 ((0:Int).toNat) (Prod.fst (x_2.2.2.2.getD ((0:Int).toNat) ([],(0:Int),[],[]))++[(0:Int)],(x_2.2.2.2.getD ((0:Int).toNat) ([],(0:Int),[],[])).2))))/\(List.length (x_2.2.2.2.getD ((0:Int).toNat) ([],(0:Int),[],[])).1<=(1048576:Nat)/\(Ty.wf aC (x_2.2.2.2.getD ((0:Int).toNat) ([],(0:Int),[],[])).1->(List.length (x_2.2.2.2.getD ((0:Int).toNat) ([],(0:Int),[],[])).1+List.length [(0:Int)])*(1:Nat)<=(140737488355328:Nat)/\((0:Int)<=(0:Int)/\(0:Int)<(x_2.2.2.2.length:Int))/\af g/\aO (32:Nat) (List.set x_2.2.2.2 ((0:Int).toNat) (Prod.fst (x_2.2.2.2.getD ((0:Int).toNat) ([],(0:Int),[],[]))++[(0:Int)],(x_2.2.2.2.getD ((0:Int).toNat) ([],(0:Int),[],[])).2))))/\List.length (x_2.2.2.2.getD ((0:Int).toNat) ([],(0:Int),[],[])).1<=(1048576:Nat)/\(Ty.wf aC (x_2.2.2.2.getD ((0:Int).toNat) ([],(0:Int),[],[])).1->((List.length (x_2.2.2.2.getD ((0:Int).toNat) ([],(0:Int),[],[])).1+List.length [(0:Int)])*(1:Nat)<=(140737488355328:Nat)/\((0:Int)<=(0:Int)/\(0:Int)<(x_2.2.2.2.length:Int))/\af g/\aO (32:Nat) (List.set x_2.2.2.2 ((0:Int).toNat) (Prod.fst (x_2.2.2.2.getD ((0:Int).toNat) ([],(0:Int),[],[]))++[(0:Int)],(x_2.2.2.2.getD ((0:Int).toNat) ([],(0:Int),[],[])).2)))/\(List.length (x_2.2.2.2.getD ((0:Int).toNat) ([],(0:Int),[],[])).1+List.length [(0:Int)])*(1:Nat)<=(140737488355328:Nat)/\((0:Int)<=(0:Int)/\(0:Int)<(x_2.2.2.2.length:Int))/\af g/\aO (32:Nat) (List.set x_2.2.2.2 ((0:Int).toNat) (Prod.fst (x_2.2.2.2.getD ((0:Int).toNat) ([],(0:Int),[],[]))++[(0:Int)],(x_2.2.2.2.getD ((0:Int).toNat) ([],(0:Int),[],[])).2))))/\(List.length (x_2.2.2.2.getD ((0:Int).toNat) ([],(0:Int),[],[])).1<=(1048576:Nat)/\(Ty.wf aC (x_2.2.2.2.getD ((0:Int).toNat) ([],(0:Int),[],[])).1->(List.length (x_2.2.2.2.getD ((0:Int).toNat) ([],(0:Int),[],[])).1+List.length [(0:Int)])*(1:Nat)<=(140737488355328:Nat)/\((0:Int)<=(0:Int)/\(0:Int)<(x_2.2.2.2.length:Int))/\af g/\aO (32:Nat) (List.set x_2.2.2.2 ((0:Int).toNat) (Prod.fst (x_2.2.2.2.getD ((0:Int).toNat) ([],(0:Int),[],[]))++[(0:Int)],(x_2.2.2.2.getD ((0:Int).toNat) ([],(0:Int),[],[])).2))))/\(List.length (x_2.2.2.2.getD ((0:Int).toNat) ([],(0:Int),[],[])).1<=(1048576:Nat)/\(Ty.wf aC (x_2.2.2.2.getD ((0:Int).toNat) ([],(0:Int),[],[])).1->(List.length (x_2.2.2.2.getD ((0:Int).toNat) ([],(0:Int),[],[])).1+List.length [(0:Int)])*(1:Nat)<=(140737488355328:Nat)/\((0:Int)<=(0:Int)/\(0:Int)<(x_2.2.2.2.length:Int))/\af g/\aO (32:Nat) (List.set x_2.2.2.2 ((0:Int).toNat) (Prod.fst (x_2.2.2.2.getD ((0:Int).toNat) ([],(0:Int),[],[]))++[(0:Int)],(x_2.2.2.2.getD ((0:Int).toNat) ([],(0:Int),[],[])).2))))/\List.length (x_2.2.2.2.getD ((0:Int).toNat) ([],(0:Int),[],[])).1<=(1048576:Nat)/\(Ty.wf aC (x_2.2.2.2.getD ((0:Int).toNat) ([],(0:Int),[],[])).1->((List.length (x_2.2.2.2.getD ((0:Int).toNat) ([],(0:Int),[],[])).1+List.length [(0:Int)])*(1:Nat)<=(140737488355328:Nat)/\((0:Int)<=(0:Int)/\(0:Int)<(x_2.2.2.2.length:Int))/\af g/\aO (32:Nat) (List.set x_2.2.2.2 ((0:Int).toNat) (Prod.fst (x_2.2.2.2.getD ((0:Int).toNat) ([],(0:Int),[],[]))++[(0:Int)],(x_2.2.2.2.getD ((0:Int).toNat) ([],(0:Int),[],[])).2)))/\(List.length (x_2.2.2.2.getD ((0:Int).toNat) ([],(0:Int),[],[])).1+List.length [(0:Int)])*(1:Nat)<=(140737488355328:Nat)/\((0:Int)<=(0:Int)/\(0:Int)<(x_2.2.2.2.length:Int))/\af g/\aO (32:Nat) (List.set x_2.2.2.2 ((0:Int).toNat) (Prod.fst (x_2.2.2.2.getD ((0:Int).toNat) ([],(0:Int),[],[]))++[(0:Int)],(x_2.2.2.2.getD ((0:Int).toNat) ([],(0:Int),[],[])).2))))/\(((0:Int)<=(0:Int)/\(0:Int)<(x_2.2.2.2.length:Int))/\List.length (x_2.2.2.2.getD ((0:Int).toNat) ([],(0:Int),[],[])).1<=(1048576:Nat)/\(Ty.wf aC (x_2.2.2.2.getD ((0:Int).toNat) ([],(0:Int),[],[])).1->(List.length (x_2.2.2.2.getD ((0:Int).toNat) ([],(0:Int),[],[])).1+List.length [(0:Int)])*(1:Nat)<=(140737488355328:Nat)/\((0:Int)<=(0:Int)/\(0:Int)<(x_2.2.2.2.length:Int))/\af g/\aO (32:Nat) (List.set x_2.2.2.2 ((0:Int).toNat) (Prod.fst (x_2.2.2.2.getD ((0:Int).toNat) ([],(0:Int),[],[]))++[(0:Int)],(x_2.2.2.2.getD ((0:Int).toNat) ([],(0:Int),[],[])).2))))/\((0:Int)<=(0:Int)/\(0:Int)<(x_2.2.2.2.length:Int))/\(List.length (x_2.2.2.2.getD ((0:Int).toNat) ([],(0:Int),[],[])).1<=(1048576:Nat)/\(Ty.wf aC (x_2.2.2.2.getD ((0:Int).toNat) ([],(0:Int),[],[])).1->(List.length (x_2.2.2.2.getD ((0:Int).toNat) ([],(0:Int),[],[])).1+List.length [(0:Int)])*(1:Nat)<=(140737488355328:Nat)/\((0:Int)<=(0:Int)/\(0:Int)<(x_2.2.2.2.length:Int))/\af g/\aO (32:Nat) (List.set x_2.2.2.2 ((0:Int).toNat) (Prod.fst (x_2.2.2.2.getD ((0:Int).toNat) ([],(0:Int),[],[]))++[(0:Int)],(x_2.2.2.2.getD ((0:Int).toNat) ([],(0:Int),[],[])).2))))/\(List.length (x_2.2.2.2.getD ((0:Int).toNat) ([],(0:Int),[],[])).1<=(1048576:Nat)/\(Ty.wf aC (x_2.2.2.2.getD ((0:Int).toNat) ([],(0:Int),[],[])).1->(List.length (x_2.2.2.2.getD ((0:Int).toNat) ([],(0:Int),[],[])).1+List.length [(0:Int)])*(1:Nat)<=(140737488355328:Nat)/\((0:Int)<=(0:Int)/\(0:Int)<(x_2.2.2.2.length:Int))/\af g/\aO (32:Nat) (List.set x_2.2.2.2 ((0:Int).toNat) (Prod.fst (x_2.2.2.2.getD ((0:Int).toNat) ([],(0:Int),[],[]))++[(0:Int)],(x_2.2.2.2.getD ((0:Int).toNat) ([],(0:Int),[],[])).2))))/\List.length (x_2.2.2.2.getD ((0:Int).toNat) ([],(0:Int),[],[])).1<=(1048576:Nat)/\(Ty.wf aC (x_2.2.2.2.getD ((0:Int).toNat) ([],(0:Int),[],[])).1->((List.length (x_2.2.2.2.getD ((0:Int).toNat) ([],(0:Int),[],[])).1+List.length [(0:Int)])*(1:Nat)<=(140737488355328:Nat)/\((0:Int)<=(0:Int)/\(0:Int)<(x_2.2.2.2.length:Int))/\af g/\aO (32:Nat) (List.set x_2.2.2.2 ((0:Int).toNat) (Prod.fst (x_2.2.2.2.getD ((0:Int).toNat) ([],(0:Int),[],[]))++[(0:Int)],(x_2.2.2.2.getD ((0:Int).toNat) ([],(0:Int),[],[])).2)))/\(List.length (x_2.2.2.2.getD ((0:Int).toNat) ([],(0:Int),[],[])).1+List.length [(0:Int)])*(1:Nat)<=(140737488355328:Nat)/\((0:Int)<=(0:Int)/\(0:Int)<(x_2.2.2.2.length:Int))/\af g/\aO (32:Nat) (List.set x_2.2.2.2 ((0:Int).toNat) (Prod.fst (x_2.2.2.2.getD ((0:Int).toNat) ([],(0:Int),[],[]))++[(0:Int)],(x_2.2.2.2.getD ((0:Int).toNat) ([],(0:Int),[],[])).2))))/\(((0:Int)<=(0:Int)/\(0:Int)<(x_2.2.2.2.length:Int))/\List.length (x_2.2.2.2.getD ((0:Int).toNat) ([],(0:Int),[],[])).1<=(1048576:Nat)/\(Ty.wf aC (x_2.2.2.2.getD ((0:Int).toNat) ([],(0:Int),[],[])).1->(List.length (x_2.2.2.2.getD ((0:Int).toNat) ([],(0:Int),[],[])).1+List.length [(0:Int)])*(1:Nat)<=(140737488355328:Nat)/\((0:Int)<=(0:Int)/\(0:Int)<(x_2.2.2.2.length:Int))/\af g/\aO (32:Nat) (List.set x_2.2.2.2 ((0:Int).toNat) (Prod.fst (x_2.2.2.2.getD ((0:Int).toNat) ([],(0:Int),[],[]))++[(0:Int)],(x_2.2.2.2.getD ((0:Int).toNat) ([],(0:Int),[],[])).2))))/\(((0:Int)<=(0:Int)/\(0:Int)<(x_2.2.2.2.length:Int))/\List.length (x_2.2.2.2.getD ((0:Int).toNat) ([],(0:Int),[],[])).1<=(1048576:Nat)/\(Ty.wf aC (x_2.2.2.2.getD ((0:Int).toNat) ([],(0:Int),[],[])).1->(List.length (x_2.2.2.2.getD ((0:Int).toNat) ([],(0:Int),[],[])).1+List.length [(0:Int)])*(1:Nat)<=(140737488355328:Nat)/\((0:Int)<=(0:Int)/\(0:Int)<(x_2.2.2.2.length:Int))/\af g/\aO (32:Nat) (List.set x_2.2.2.2 ((0:Int).toNat) (Prod.fst (x_2.2.2.2.getD ((0:Int).toNat) ([],(0:Int),[],[]))++[(0:Int)],(x_2.2.2.2.getD ((0:Int).toNat) ([],(0:Int),[],[])).2))))/\((0:Int)<=(0:Int)/\(0:Int)<(x_2.2.2.2.length:Int))/\(List.length (x_2.2.2.2.getD ((0:Int).toNat) ([],(0:Int),[],[])).1<=(1048576:Nat)/\(Ty.wf aC (x_2.2.2.2.getD ((0:Int).toNat) ([],(0:Int),[],[])).1->(List.length (x_2.2.2.2.getD ((0:Int).toNat) ([],(0:Int),[],[])).1+List.length [(0:Int)])*(1:Nat)<=(140737488355328:Nat)/\((0:Int)<=(0:Int)/\(0:Int)<(x_2.2.2.2.length:Int))/\af g/\aO (32:Nat) (List.set x_2.2.2.2 ((0:Int).toNat) (Prod.fst (x_2.2.2.2.getD ((0:Int).toNat) ([],(0:Int),[],[]))++[(0:Int)],(x_2.2.2.2.getD ((0:Int).toNat) ([],(0:Int),[],[])).2))))/\(List.length (x_2.2.2.2.getD ((0:Int).toNat) ([],(0:Int),[],[])).1<=(1048576:Nat)/\(Ty.wf aC (x_2.2.2.2.getD ((0:Int).toNat) ([],(0:Int),[],[])).1->(List.length (x_2.2.2.2.getD ((0:Int).toNat) ([],(0:Int),[],[])).1+List.length [(0:Int)])*(1:Nat)<=(140737488355328:Nat)/\((0:Int)<=(0:Int)/\(0:Int)<(x_2.2.2.2.length:Int))/\af g/\aO (32:Nat) (List.set x_2.2.2.2 ((0:Int).toNat) (Prod.fst (x_2.2.2.2.getD ((0:Int).toNat) ([],(0:Int),[],[]))++[(0:Int)],(x_2.2.2.2.getD ((0:Int).toNat) ([],(0:Int),[],[])).2))))/\List.length (x_2.2.2.2.getD ((0:Int).toNat) ([],(0:Int),[],[])).1<=(1048576:Nat)/\(Ty.wf aC (x_2.2.2.2.getD ((0:Int).toNat) ([],(0:Int),[],[])).1->((List.length (x_2.2.2.2.getD ((0:Int).toNat) ([],(0:Int),[],[])).1+List.length [(0:Int)])*(1:Nat)<=(140737488355328:Nat)/\((0:Int)<=(0:Int)/\(0:Int)<(x_2.2.2.2.length:Int))/\af g/\aO (32:Nat) (List.set x_2.2.2.2 ((0:Int).toNat) (Prod.fst (x_2.2.2.2.getD ((0:Int).toNat) ([],(0:Int),[],[]))++[(0:Int)],(x_2.2.2.2.getD ((0:Int).toNat) ([],(0:Int),[],[])).2)))/\(List.length (x_2.2.2.2.getD ((0:Int).toNat) ([],(0:Int),[],[])).1+List.length [(0:Int)])*(1:Nat)<=(140737488355328:Nat)/\((0:Int)<=(0:Int)/\(0:Int)<(x_2.2.2.2.length:Int))/\af g/\aO (32:Nat) (List.set x_2.2.2.2 ((0:Int).toNat) (Prod.fst (x_2.2.2.2.getD ((0:Int).toNat) ([],(0:Int),[],[]))++[(0:Int)],(x_2.2.2.2.getD ((0:Int).toNat) ([],(0:Int),[],[])).2))))/\(decide ((0:Int)<(x_2.2.2.2.length:Int))=false->af g/\aO (32:Nat) x_2.2.2.2))/\(decide (bS=(2:Int))=false->af g/\aO (32:Nat) x_2.2.2.2))))/\(r=false->af g/\aO (32:Nat) x_2.2.2.2)):=by
  intro d x hd hx hp
  simp only[exists_const,forall_const,decide_eq_true_eq,decide_eq_false_iff_not,beq_iff_eq,sxS]
  refine⟨hp.1,fun g r hr _ _=>⟨⟨hr.1,Nat.zero_lt_succ _⟩,fun g1 r1 h1 _ _=>⟨⟨⟨h1.1,hp.2⟩,fun g r hr _ _=>⟨(g,r,r1),hr,⟨rfl,rfl,rfl⟩,rfl,rfl⟩⟩,fun y hy=>⟨⟨Nat.zero_le _,hy.1,⟨O4 _,fun e he=>by cases he⟩⟩,rfl,fun z hz=>⟨fun aZ=>?_,fun lW=>?_⟩⟩⟩⟩⟩
  ·obtain⟨z1,z2,z3⟩:=hz
   have hj:=OZ hy.2.2 z.1
   have E1:(y.2.1.getD z.1 (0,0,[],[],0)).2.2.1.length<=1300:=hj.1
   have E2:(y.2.1.getD z.1 (0,0,[],[],0)).2.2.2.1.length<=1300:=hj.2
   have hL:=Sq (y.2.1.getD z.1 (0,0,[],[],0))
   have Fm:0<=(z.1:Int)/\(z.1:Int)<(y.2.1.length:Int):=⟨by omega,aZ⟩
   have XL:y.2.1.length<=60:=hy.2.1
   have hE:=U6 (by omega) z3.1
   have hw:i64.wrap ((z.1:Int)+1)=((z.1+1:Nat):Int):=wrap_small (by omega)
   refine⟨Fm,fun eB=>⟨Fm,fun _=>⟨z2,fun g r hg _ _=>?_⟩⟩,fun _=>⟨(z.1+1,z.2.1,z.2.2),⟨by show z.1+1<=_;omega,z2,z3⟩,by show _-(z.1+1)<_;omega,hw,⟨rfl,rfl,rfl⟩,rfl,rfl⟩⟩
   have hK:(eX (y.2.1.getD z.1 (0,0,[],[],0))).length<=6000:=by unfold eX;rw[if_pos eB];exact Py eB
   have st:∀ R:Rs,R.2.1.length<=4000->R.2.2.length<=4000->∃ x':Nat×cL×Ca,(x'.1<=y.2.1.length/\af x'.2.1/\ua x'.2.2.2)/\y.2.1.length-x'.1<y.2.1.length-z.1/\i64.wrap ((z.1:Int)+1)=(x'.1:Int)/\(g.1=x'.2.1.1/\g.2.1=x'.2.1.2.1/\g.2.2=x'.2.1.2.2)/\(aQ z.2.2 (eX (y.2.1.getD z.1 (0,0,[],[],0))) R).1.1=x'.2.2.1/\(aQ z.2.2 (eX (y.2.1.getD z.1 (0,0,[],[],0))) R).1.2=x'.2.2.2:=fun R a b =>
    ⟨(z.1+1,g,(aQ z.2.2 (eX (y.2.1.getD z.1 (0,0,[],[],0))) R).1),⟨by show z.1+1<=_;omega,hg,PJ z3 hK a b⟩,by show _-(z.1+1)<_;omega,hw,⟨rfl,rfl,rfl⟩,rfl,rfl⟩
   refine⟨fun _=>⟨by omega,fun _=>⟨by rw[List.length_singleton];omega,Fm,⟨hE,by omega,⟨by show (_++[_]).length<=_;rw[List.length_append,List.length_singleton];omega,Nat.le_trans hL.2 (by omega)⟩⟩,fun _ _=>st _ (by show (_++[_]).length<=_;rw[List.length_append,List.length_singleton];omega) (Nat.le_trans hL.2 (by omega))⟩⟩,fun _=>⟨Fm,⟨hE,by omega,⟨by omega,by omega⟩⟩,fun _ _=>st _ (by omega) (by omega)⟩⟩
  ·obtain⟨z1,z2,z3,z4⟩:=hz
   have e0:=Ot z3.2 (Int.toNat 0)
   have e1:=U0 z4 (Int.toNat 0)
   have e2:(z.2.2.2.getD (Int.toNat 0) ([],0,[],[])).1.length<=1048576:=by omega
   have e3:((z.2.2.2.getD (Int.toNat 0) ([],0,[],[])).1.length+[(0:Int)].length)*1<=140737488355328:=by rw[List.length_singleton];omega
   have Ub:=Sg z3 (m:=32) (by omega)
   have Yj:aO 32 (z.2.2.2++[z.2.2.2.getD (Int.toNat 0) ([],0,[],[])]):=O3 z3 e0
   have Yk:aO 32 (z.2.2.2.set (Int.toNat 0) ((z.2.2.2.getD (Int.toNat 0) ([],0,[],[])).1++[0],(z.2.2.2.getD (Int.toNat 0) ([],0,[],[])).2)):=Tb Ub ⟨by show (_++[_]).length<=_;rw[List.length_append,List.length_singleton];omega,e0.2⟩
   have e4:(z.2.2.2.length+[z.2.2.2.getD (Int.toNat 0) ([],0,[],[])].length)*80<=140737488355328:=by rw[List.length_singleton];have:=z3.1;omega
   have e5:(0:Int)<=0:=Int.le_refl _
   refine⟨z2,?_⟩
   intro g r hg _ _
   refine⟨fun _=>⟨hg,fun g r hr _ _=>?_⟩,?_⟩
   ·have hg:=hr.1
    repeat' (first
     | assumption
     | exact trivial
     | exact Nat.zero_lt_succ _
     | exact fun g2 r h2 _ _=>⟨h2.1,Ub⟩
     | with_reducible apply And.intro
     | intro _)
   ·repeat' (first
     | assumption
     | with_reducible apply And.intro
     | intro _)
theorem Qx{c r:Int}{n:Nat}(h:(decide (1<=c)&&decide (c<=200))=true)(hn:n<=1100)(hr:aA 2 r):i64.wrap (i64.wrap (i64.wrap (c-1)-(n:Int))+r)<=1100:=by
 rw[Bool.and_eq_true,decide_eq_true_eq,decide_eq_true_eq] at h
 obtain⟨r1,r2,_⟩:=hr
 have r2:=r2 (by omega)
 rw[wrap_small (n:=c-1) (by omega),wrap_small (n:=c-1-(n:Int)) (by omega),wrap_small (by omega)]
 omega
theorem Cc :
 ∀(d:List Int),Ty.wf (Ty.sl (Ty.int u8)) d->d.length<=(9223372036854775807:Nat)->d.length<=(9223372036854775807:Nat)/\∀(g:List Int×Int×Int) (r:Int×List (List Int×Int×List Int×List Int)),af g/\aO (32:Nat) r.2->Ty.wf ar g->Ty.wf bE r->(af g/\∀(g:List Int×Int×Int) (aX:Bool),af g->Ty.wf ar g->Ty.wf Ty.bool aX->(aX=true->((0:Nat)<=(30:Nat)/\aO (0:Nat) [])/\((d=d/\an/\(0:Int)=(↑(0:Nat):Int))/\(ah (0:Int)/\an)/\(ah (0:Int)/\an/\an)/\(g.1=g.1/\ah g.2.1/\ah g.2.2)/\ah (40:Int)/\([]:List En)=[])/\∀(x:Nat×List (List Int×Int×List Int×List Int)),x.1<=(30:Nat)/\aO x.1 x.2->(decide ((x.1:Int)<(30:Int))=true->(x.2.length+List.length [([u8.wrap (x.1:Int)],(0:Int),([]:List Int),([]:List Int))])*(80:Nat)<=(140737488355328:Nat)/\∃(x':Nat×List (List Int×Int×List Int×List Int)),(x'.1<=(30:Nat)/\aO x'.1 x'.2)/\(30:Nat)-x'.1<(30:Nat)-x.1/\(d=d/\an/\i64.wrap ((x.1:Int)+(1:Int))=(x'.1:Int))/\(ah (0:Int)/\an)/\(ah (0:Int)/\an/\an)/\(g.1=g.1/\ah g.2.1/\ah g.2.2)/\ah (40:Int)/\x.2++[([u8.wrap (x.1:Int)],(0:Int),([]:List Int),([]:List Int))]=x'.2)/\(decide ((x.1:Int)<(30:Int))=false->∃(x':(List Int×Int×Int)×Int×List (List Int×Int×List Int×List Int)),(af x'.1/\aO (32:Nat) x'.2.2)/\(d=d/\an)/\(ah (0:Int)/\an)/\(ah (0:Int)/\an/\an)/\(g.1=x'.1.1/\g.2.1=x'.1.2.1/\g.2.2=x'.1.2.2)/\(40:Int)=x'.2.1/\x.2=x'.2.2))/\(aX=false->∃(x':(List Int×Int×Int)×Int×List (List Int×Int×List Int×List Int)),(af x'.1/\aO (32:Nat) x'.2.2)/\(d=d/\an)/\(ah (0:Int)/\an)/\(ah (0:Int)/\an/\an)/\(g.1=x'.1.1/\g.2.1=x'.1.2.1/\g.2.2=x'.1.2.2)/\r.1=x'.2.1/\r.2=x'.2.2))/\∀(x:(List Int×Int×Int)×Int×List (List Int×Int×List Int×List Int)),af x.1/\aO (32:Nat) x.2.2->af x.1/\∀(g:List Int×Int×Int) (r:Int),af g/\aA (3:Int) r->Ty.wf ar g->Ty.wf ai r->af g/\∀(g:List Int×Int×Int) (aX:Int),af g/\aA (12:Int) aX->Ty.wf ar g->Ty.wf ai aX->(af g/\aX<=(1100:Int))/\∀(g:List Int×Int×Int) (bS:List Int),af g/\aj (1100:Nat) bS/\bS.length=aX.toNat->Ty.wf ar g->Ty.wf al bS->af g/\∀(g:List Int×Int×Int) (aM:Int),af g/\aA (3:Int) aM->Ty.wf ar g->Ty.wf ai aM->(af g/\aM<=(1100:Int))/\∀(g:List Int×Int×Int) (aD:List Int),af g/\aj (1100:Nat) aD/\aD.length=aM.toNat->Ty.wf ar g->Ty.wf al aD->(af g/\∀(g:List Int×Int×Int) (bY:Bool),af g->Ty.wf ar g->Ty.wf Ty.bool bY->(bY=true->True/\((decide ((1:Int)<=x.2.1)&&decide (x.2.1<=(200:Int)))=true->(((((af g/\∀(g:List Int×Int×Int) (aT:Int),af g/\aA (2:Int) aT->Ty.wf ar g->Ty.wf ai aT->(af g/\i64.wrap (i64.wrap (i64.wrap (x.2.1-(1:Int))-(aD.length:Int))+aT)<=(1100:Int))/\∀(g:List Int×Int×Int) (aI:List Int),af g/\aj (1100:Nat) aI/\aI.length=Int.toNat (i64.wrap (i64.wrap (i64.wrap (x.2.1-(1:Int))-(aD.length:Int))+aT))->Ty.wf ar g->Ty.wf al aI->∃(x':(List Int×Int×Int)×(Int×List (List Int×Int×List Int×List Int))×Int×List Int×List Int),(af x'.1/\aO (32:Nat) x'.2.1.2/\aj (4000:Nat) x'.2.2.2.1/\aj (4000:Nat) x'.2.2.2.2)/\(d=d/\an)/\(ah (0:Int)/\an)/\(ah (0:Int)/\an/\an)/\(g.1=x'.1.1/\g.2.1=x'.1.2.1/\g.2.2=x'.1.2.2)/\x.2.1=x'.2.1.1/\x.2.2=x'.2.1.2/\aI=x'.2.2.2.1/\aD=x'.2.2.2.2/\r=x'.2.2.1)/\af g/\∀(g:List Int×Int×Int) (aT:Int),af g/\aA (2:Int) aT->Ty.wf ar g->Ty.wf ai aT->(af g/\i64.wrap (i64.wrap (i64.wrap (x.2.1-(1:Int))-(aD.length:Int))+aT)<=(1100:Int))/\∀(g:List Int×Int×Int) (aI:List Int),af g/\aj (1100:Nat) aI/\aI.length=Int.toNat (i64.wrap (i64.wrap (i64.wrap (x.2.1-(1:Int))-(aD.length:Int))+aT))->Ty.wf ar g->Ty.wf al aI->∃(x':(List Int×Int×Int)×(Int×List (List Int×Int×List Int×List Int))×Int×List Int×List Int),(af x'.1/\aO (32:Nat) x'.2.1.2/\aj (4000:Nat) x'.2.2.2.1/\aj (4000:Nat) x'.2.2.2.2)/\(d=d/\an)/\(ah (0:Int)/\an)/\(ah (0:Int)/\an/\an)/\(g.1=x'.1.1/\g.2.1=x'.1.2.1/\g.2.2=x'.1.2.2)/\x.2.1=x'.2.1.1/\x.2.2=x'.2.1.2/\aI=x'.2.2.2.1/\aD=x'.2.2.2.2/\r=x'.2.2.1)/\af g/\∀(g:List Int×Int×Int) (aT:Int),af g/\aA (2:Int) aT->Ty.wf ar g->Ty.wf ai aT->(af g/\i64.wrap (i64.wrap (i64.wrap (x.2.1-(1:Int))-(aD.length:Int))+aT)<=(1100:Int))/\∀(g:List Int×Int×Int) (aI:List Int),af g/\aj (1100:Nat) aI/\aI.length=Int.toNat (i64.wrap (i64.wrap (i64.wrap (x.2.1-(1:Int))-(aD.length:Int))+aT))->Ty.wf ar g->Ty.wf al aI->∃(x':(List Int×Int×Int)×(Int×List (List Int×Int×List Int×List Int))×Int×List Int×List Int),(af x'.1/\aO (32:Nat) x'.2.1.2/\aj (4000:Nat) x'.2.2.2.1/\aj (4000:Nat) x'.2.2.2.2)/\(d=d/\an)/\(ah (0:Int)/\an)/\(ah (0:Int)/\an/\an)/\(g.1=x'.1.1/\g.2.1=x'.1.2.1/\g.2.2=x'.1.2.2)/\x.2.1=x'.2.1.1/\x.2.2=x'.2.1.2/\aI=x'.2.2.2.1/\aD=x'.2.2.2.2/\r=x'.2.2.1)/\af g/\∀(g:List Int×Int×Int) (aT:Int),af g/\aA (2:Int) aT->Ty.wf ar g->Ty.wf ai aT->(af g/\i64.wrap (i64.wrap (i64.wrap (x.2.1-(1:Int))-(aD.length:Int))+aT)<=(1100:Int))/\∀(g:List Int×Int×Int) (aI:List Int),af g/\aj (1100:Nat) aI/\aI.length=Int.toNat (i64.wrap (i64.wrap (i64.wrap (x.2.1-(1:Int))-(aD.length:Int))+aT))->Ty.wf ar g->Ty.wf al aI->∃(x':(List Int×Int×Int)×(Int×List (List Int×Int×List Int×List Int))×Int×List Int×List Int),(af x'.1/\aO (32:Nat) x'.2.1.2/\aj (4000:Nat) x'.2.2.2.1/\aj (4000:Nat) x'.2.2.2.2)/\(d=d/\an)/\(ah (0:Int)/\an)/\(ah (0:Int)/\an/\an)/\(g.1=x'.1.1/\g.2.1=x'.1.2.1/\g.2.2=x'.1.2.2)/\x.2.1=x'.2.1.1/\x.2.2=x'.2.1.2/\aI=x'.2.2.2.1/\aD=x'.2.2.2.2/\r=x'.2.2.1)/\((((af g/\∀(g:List Int×Int×Int) (aT:Int),af g/\aA (2:Int) aT->Ty.wf ar g->Ty.wf ai aT->(af g/\i64.wrap (i64.wrap (i64.wrap (x.2.1-(1:Int))-(aD.length:Int))+aT)<=(1100:Int))/\∀(g:List Int×Int×Int) (aI:List Int),af g/\aj (1100:Nat) aI/\aI.length=Int.toNat (i64.wrap (i64.wrap (i64.wrap (x.2.1-(1:Int))-(aD.length:Int))+aT))->Ty.wf ar g->Ty.wf al aI->∃(x':(List Int×Int×Int)×(Int×List (List Int×Int×List Int×List Int))×Int×List Int×List Int),(af x'.1/\aO (32:Nat) x'.2.1.2/\aj (4000:Nat) x'.2.2.2.1/\aj (4000:Nat) x'.2.2.2.2)/\(d=d/\an)/\(ah (0:Int)/\an)/\(ah (0:Int)/\an/\an)/\(g.1=x'.1.1/\g.2.1=x'.1.2.1/\g.2.2=x'.1.2.2)/\x.2.1=x'.2.1.1/\x.2.2=x'.2.1.2/\aI=x'.2.2.2.1/\aD=x'.2.2.2.2/\r=x'.2.2.1)/\af g/\∀(g:List Int×Int×Int) (aT:Int),af g/\aA (2:Int) aT->Ty.wf ar g->Ty.wf ai aT->(af g/\i64.wrap (i64.wrap (i64.wrap (x.2.1-(1:Int))-(aD.length:Int))+aT)<=(1100:Int))/\∀(g:List Int×Int×Int) (aI:List Int),af g/\aj (1100:Nat) aI/\aI.length=Int.toNat (i64.wrap (i64.wrap (i64.wrap (x.2.1-(1:Int))-(aD.length:Int))+aT))->Ty.wf ar g->Ty.wf al aI->∃(x':(List Int×Int×Int)×(Int×List (List Int×Int×List Int×List Int))×Int×List Int×List Int),(af x'.1/\aO (32:Nat) x'.2.1.2/\aj (4000:Nat) x'.2.2.2.1/\aj (4000:Nat) x'.2.2.2.2)/\(d=d/\an)/\(ah (0:Int)/\an)/\(ah (0:Int)/\an/\an)/\(g.1=x'.1.1/\g.2.1=x'.1.2.1/\g.2.2=x'.1.2.2)/\x.2.1=x'.2.1.1/\x.2.2=x'.2.1.2/\aI=x'.2.2.2.1/\aD=x'.2.2.2.2/\r=x'.2.2.1)/\af g/\∀(g:List Int×Int×Int) (aT:Int),af g/\aA (2:Int) aT->Ty.wf ar g->Ty.wf ai aT->(af g/\i64.wrap (i64.wrap (i64.wrap (x.2.1-(1:Int))-(aD.length:Int))+aT)<=(1100:Int))/\∀(g:List Int×Int×Int) (aI:List Int),af g/\aj (1100:Nat) aI/\aI.length=Int.toNat (i64.wrap (i64.wrap (i64.wrap (x.2.1-(1:Int))-(aD.length:Int))+aT))->Ty.wf ar g->Ty.wf al aI->∃(x':(List Int×Int×Int)×(Int×List (List Int×Int×List Int×List Int))×Int×List Int×List Int),(af x'.1/\aO (32:Nat) x'.2.1.2/\aj (4000:Nat) x'.2.2.2.1/\aj (4000:Nat) x'.2.2.2.2)/\(d=d/\an)/\(ah (0:Int)/\an)/\(ah (0:Int)/\an/\an)/\(g.1=x'.1.1/\g.2.1=x'.1.2.1/\g.2.2=x'.1.2.2)/\x.2.1=x'.2.1.1/\x.2.2=x'.2.1.2/\aI=x'.2.2.2.1/\aD=x'.2.2.2.2/\r=x'.2.2.1)/\(((af g/\∀(g:List Int×Int×Int) (aT:Int),af g/\aA (2:Int) aT->Ty.wf ar g->Ty.wf ai aT->(af g/\i64.wrap (i64.wrap (i64.wrap (x.2.1-(1:Int))-(aD.length:Int))+aT)<=(1100:Int))/\∀(g:List Int×Int×Int) (aI:List Int),af g/\aj (1100:Nat) aI/\aI.length=Int.toNat (i64.wrap (i64.wrap (i64.wrap (x.2.1-(1:Int))-(aD.length:Int))+aT))->Ty.wf ar g->Ty.wf al aI->∃(x':(List Int×Int×Int)×(Int×List (List Int×Int×List Int×List Int))×Int×List Int×List Int),(af x'.1/\aO (32:Nat) x'.2.1.2/\aj (4000:Nat) x'.2.2.2.1/\aj (4000:Nat) x'.2.2.2.2)/\(d=d/\an)/\(ah (0:Int)/\an)/\(ah (0:Int)/\an/\an)/\(g.1=x'.1.1/\g.2.1=x'.1.2.1/\g.2.2=x'.1.2.2)/\x.2.1=x'.2.1.1/\x.2.2=x'.2.1.2/\aI=x'.2.2.2.1/\aD=x'.2.2.2.2/\r=x'.2.2.1)/\af g/\∀(g:List Int×Int×Int) (aT:Int),af g/\aA (2:Int) aT->Ty.wf ar g->Ty.wf ai aT->(af g/\i64.wrap (i64.wrap (i64.wrap (x.2.1-(1:Int))-(aD.length:Int))+aT)<=(1100:Int))/\∀(g:List Int×Int×Int) (aI:List Int),af g/\aj (1100:Nat) aI/\aI.length=Int.toNat (i64.wrap (i64.wrap (i64.wrap (x.2.1-(1:Int))-(aD.length:Int))+aT))->Ty.wf ar g->Ty.wf al aI->∃(x':(List Int×Int×Int)×(Int×List (List Int×Int×List Int×List Int))×Int×List Int×List Int),(af x'.1/\aO (32:Nat) x'.2.1.2/\aj (4000:Nat) x'.2.2.2.1/\aj (4000:Nat) x'.2.2.2.2)/\(d=d/\an)/\(ah (0:Int)/\an)/\(ah (0:Int)/\an/\an)/\(g.1=x'.1.1/\g.2.1=x'.1.2.1/\g.2.2=x'.1.2.2)/\x.2.1=x'.2.1.1/\x.2.2=x'.2.1.2/\aI=x'.2.2.2.1/\aD=x'.2.2.2.2/\r=x'.2.2.1)/\af g/\∀(g:List Int×Int×Int) (aT:Int),af g/\aA (2:Int) aT->Ty.wf ar g->Ty.wf ai aT->(af g/\i64.wrap (i64.wrap (i64.wrap (x.2.1-(1:Int))-(aD.length:Int))+aT)<=(1100:Int))/\∀(g:List Int×Int×Int) (aI:List Int),af g/\aj (1100:Nat) aI/\aI.length=Int.toNat (i64.wrap (i64.wrap (i64.wrap (x.2.1-(1:Int))-(aD.length:Int))+aT))->Ty.wf ar g->Ty.wf al aI->∃(x':(List Int×Int×Int)×(Int×List (List Int×Int×List Int×List Int))×Int×List Int×List Int),(af x'.1/\aO (32:Nat) x'.2.1.2/\aj (4000:Nat) x'.2.2.2.1/\aj (4000:Nat) x'.2.2.2.2)/\(d=d/\an)/\(ah (0:Int)/\an)/\(ah (0:Int)/\an/\an)/\(g.1=x'.1.1/\g.2.1=x'.1.2.1/\g.2.2=x'.1.2.2)/\x.2.1=x'.2.1.1/\x.2.2=x'.2.1.2/\aI=x'.2.2.2.1/\aD=x'.2.2.2.2/\r=x'.2.2.1)/\af g/\∀(g:List Int×Int×Int) (aT:Int),af g/\aA (2:Int) aT->Ty.wf ar g->Ty.wf ai aT->((af g/\i64.wrap (i64.wrap (i64.wrap (x.2.1-(1:Int))-(aD.length:Int))+aT)<=(1100:Int))/\∀(g:List Int×Int×Int) (aI:List Int),af g/\aj (1100:Nat) aI/\aI.length=Int.toNat (i64.wrap (i64.wrap (i64.wrap (x.2.1-(1:Int))-(aD.length:Int))+aT))->Ty.wf ar g->Ty.wf al aI->∃(x':(List Int×Int×Int)×(Int×List (List Int×Int×List Int×List Int))×Int×List Int×List Int),(af x'.1/\aO (32:Nat) x'.2.1.2/\aj (4000:Nat) x'.2.2.2.1/\aj (4000:Nat) x'.2.2.2.2)/\(d=d/\an)/\(ah (0:Int)/\an)/\(ah (0:Int)/\an/\an)/\(g.1=x'.1.1/\g.2.1=x'.1.2.1/\g.2.2=x'.1.2.2)/\x.2.1=x'.2.1.1/\x.2.2=x'.2.1.2/\aI=x'.2.2.2.1/\aD=x'.2.2.2.2/\r=x'.2.2.1)/\(af g/\i64.wrap (i64.wrap (i64.wrap (x.2.1-(1:Int))-(aD.length:Int))+aT)<=(1100:Int))/\∀(g:List Int×Int×Int) (aI:List Int),af g/\aj (1100:Nat) aI/\aI.length=Int.toNat (i64.wrap (i64.wrap (i64.wrap (x.2.1-(1:Int))-(aD.length:Int))+aT))->Ty.wf ar g->Ty.wf al aI->∃(x':(List Int×Int×Int)×(Int×List (List Int×Int×List Int×List Int))×Int×List Int×List Int),(af x'.1/\aO (32:Nat) x'.2.1.2/\aj (4000:Nat) x'.2.2.2.1/\aj (4000:Nat) x'.2.2.2.2)/\(d=d/\an)/\(ah (0:Int)/\an)/\(ah (0:Int)/\an/\an)/\(g.1=x'.1.1/\g.2.1=x'.1.2.1/\g.2.2=x'.1.2.2)/\x.2.1=x'.2.1.1/\x.2.2=x'.2.1.2/\aI=x'.2.2.2.1/\aD=x'.2.2.2.2/\r=x'.2.2.1)/\af g/\∀(g:List Int×Int×Int) (aT:Int),af g/\aA (2:Int) aT->Ty.wf ar g->Ty.wf ai aT->((af g/\i64.wrap (i64.wrap (i64.wrap (x.2.1-(1:Int))-(aD.length:Int))+aT)<=(1100:Int))/\∀(g:List Int×Int×Int) (aI:List Int),af g/\aj (1100:Nat) aI/\aI.length=Int.toNat (i64.wrap (i64.wrap (i64.wrap (x.2.1-(1:Int))-(aD.length:Int))+aT))->Ty.wf ar g->Ty.wf al aI->∃(x':(List Int×Int×Int)×(Int×List (List Int×Int×List Int×List Int))×Int×List Int×List Int),(af x'.1/\aO (32:Nat) x'.2.1.2/\aj (4000:Nat) x'.2.2.2.1/\aj (4000:Nat) x'.2.2.2.2)/\(d=d/\an)/\(ah (0:Int)/\an)/\(ah (0:Int)/\an/\an)/\(g.1=x'.1.1/\g.2.1=x'.1.2.1/\g.2.2=x'.1.2.2)/\x.2.1=x'.2.1.1/\x.2.2=x'.2.1.2/\aI=x'.2.2.2.1/\aD=x'.2.2.2.2/\r=x'.2.2.1)/\((af g/\i64.wrap (i64.wrap (i64.wrap (x.2.1-(1:Int))-(aD.length:Int))+aT)<=(1100:Int))/\∀(g:List Int×Int×Int) (aI:List Int),af g/\aj (1100:Nat) aI/\aI.length=Int.toNat (i64.wrap (i64.wrap (i64.wrap (x.2.1-(1:Int))-(aD.length:Int))+aT))->Ty.wf ar g->Ty.wf al aI->∃(x':(List Int×Int×Int)×(Int×List (List Int×Int×List Int×List Int))×Int×List Int×List Int),(af x'.1/\aO (32:Nat) x'.2.1.2/\aj (4000:Nat) x'.2.2.2.1/\aj (4000:Nat) x'.2.2.2.2)/\(d=d/\an)/\(ah (0:Int)/\an)/\(ah (0:Int)/\an/\an)/\(g.1=x'.1.1/\g.2.1=x'.1.2.1/\g.2.2=x'.1.2.2)/\x.2.1=x'.2.1.1/\x.2.2=x'.2.1.2/\aI=x'.2.2.2.1/\aD=x'.2.2.2.2/\r=x'.2.2.1)/\(af g/\i64.wrap (i64.wrap (i64.wrap (x.2.1-(1:Int))-(aD.length:Int))+aT)<=(1100:Int))/\∀(g:List Int×Int×Int) (aI:List Int),af g/\aj (1100:Nat) aI/\aI.length=Int.toNat (i64.wrap (i64.wrap (i64.wrap (x.2.1-(1:Int))-(aD.length:Int))+aT))->Ty.wf ar g->Ty.wf al aI->∃(x':(List Int×Int×Int)×(Int×List (List Int×Int×List Int×List Int))×Int×List Int×List Int),(af x'.1/\aO (32:Nat) x'.2.1.2/\aj (4000:Nat) x'.2.2.2.1/\aj (4000:Nat) x'.2.2.2.2)/\(d=d/\an)/\(ah (0:Int)/\an)/\(ah (0:Int)/\an/\an)/\(g.1=x'.1.1/\g.2.1=x'.1.2.1/\g.2.2=x'.1.2.2)/\x.2.1=x'.2.1.1/\x.2.2=x'.2.1.2/\aI=x'.2.2.2.1/\aD=x'.2.2.2.2/\r=x'.2.2.1)/\(((((af g/\∀(g:List Int×Int×Int) (aT:Int),af g/\aA (2:Int) aT->Ty.wf ar g->Ty.wf ai aT->(af g/\i64.wrap (i64.wrap (i64.wrap (x.2.1-(1:Int))-(aD.length:Int))+aT)<=(1100:Int))/\∀(g:List Int×Int×Int) (aI:List Int),af g/\aj (1100:Nat) aI/\aI.length=Int.toNat (i64.wrap (i64.wrap (i64.wrap (x.2.1-(1:Int))-(aD.length:Int))+aT))->Ty.wf ar g->Ty.wf al aI->∃(x':(List Int×Int×Int)×(Int×List (List Int×Int×List Int×List Int))×Int×List Int×List Int),(af x'.1/\aO (32:Nat) x'.2.1.2/\aj (4000:Nat) x'.2.2.2.1/\aj (4000:Nat) x'.2.2.2.2)/\(d=d/\an)/\(ah (0:Int)/\an)/\(ah (0:Int)/\an/\an)/\(g.1=x'.1.1/\g.2.1=x'.1.2.1/\g.2.2=x'.1.2.2)/\x.2.1=x'.2.1.1/\x.2.2=x'.2.1.2/\aI=x'.2.2.2.1/\aD=x'.2.2.2.2/\r=x'.2.2.1)/\af g/\∀(g:List Int×Int×Int) (aT:Int),af g/\aA (2:Int) aT->Ty.wf ar g->Ty.wf ai aT->(af g/\i64.wrap (i64.wrap (i64.wrap (x.2.1-(1:Int))-(aD.length:Int))+aT)<=(1100:Int))/\∀(g:List Int×Int×Int) (aI:List Int),af g/\aj (1100:Nat) aI/\aI.length=Int.toNat (i64.wrap (i64.wrap (i64.wrap (x.2.1-(1:Int))-(aD.length:Int))+aT))->Ty.wf ar g->Ty.wf al aI->∃(x':(List Int×Int×Int)×(Int×List (List Int×Int×List Int×List Int))×Int×List Int×List Int),(af x'.1/\aO (32:Nat) x'.2.1.2/\aj (4000:Nat) x'.2.2.2.1/\aj (4000:Nat) x'.2.2.2.2)/\(d=d/\an)/\(ah (0:Int)/\an)/\(ah (0:Int)/\an/\an)/\(g.1=x'.1.1/\g.2.1=x'.1.2.1/\g.2.2=x'.1.2.2)/\x.2.1=x'.2.1.1/\x.2.2=x'.2.1.2/\aI=x'.2.2.2.1/\aD=x'.2.2.2.2/\r=x'.2.2.1)/\af g/\∀(g:List Int×Int×Int) (aT:Int),af g/\aA (2:Int) aT->Ty.wf ar g->Ty.wf ai aT->(af g/\i64.wrap (i64.wrap (i64.wrap (x.2.1-(1:Int))-(aD.length:Int))+aT)<=(1100:Int))/\∀(g:List Int×Int×Int) (aI:List Int),af g/\aj (1100:Nat) aI/\aI.length=Int.toNat (i64.wrap (i64.wrap (i64.wrap (x.2.1-(1:Int))-(aD.length:Int))+aT))->Ty.wf ar g->Ty.wf al aI->∃(x':(List Int×Int×Int)×(Int×List (List Int×Int×List Int×List Int))×Int×List Int×List Int),(af x'.1/\aO (32:Nat) x'.2.1.2/\aj (4000:Nat) x'.2.2.2.1/\aj (4000:Nat) x'.2.2.2.2)/\(d=d/\an)/\(ah (0:Int)/\an)/\(ah (0:Int)/\an/\an)/\(g.1=x'.1.1/\g.2.1=x'.1.2.1/\g.2.2=x'.1.2.2)/\x.2.1=x'.2.1.1/\x.2.2=x'.2.1.2/\aI=x'.2.2.2.1/\aD=x'.2.2.2.2/\r=x'.2.2.1)/\(((af g/\∀(g:List Int×Int×Int) (aT:Int),af g/\aA (2:Int) aT->Ty.wf ar g->Ty.wf ai aT->(af g/\i64.wrap (i64.wrap (i64.wrap (x.2.1-(1:Int))-(aD.length:Int))+aT)<=(1100:Int))/\∀(g:List Int×Int×Int) (aI:List Int),af g/\aj (1100:Nat) aI/\aI.length=Int.toNat (i64.wrap (i64.wrap (i64.wrap (x.2.1-(1:Int))-(aD.length:Int))+aT))->Ty.wf ar g->Ty.wf al aI->∃(x':(List Int×Int×Int)×(Int×List (List Int×Int×List Int×List Int))×Int×List Int×List Int),(af x'.1/\aO (32:Nat) x'.2.1.2/\aj (4000:Nat) x'.2.2.2.1/\aj (4000:Nat) x'.2.2.2.2)/\(d=d/\an)/\(ah (0:Int)/\an)/\(ah (0:Int)/\an/\an)/\(g.1=x'.1.1/\g.2.1=x'.1.2.1/\g.2.2=x'.1.2.2)/\x.2.1=x'.2.1.1/\x.2.2=x'.2.1.2/\aI=x'.2.2.2.1/\aD=x'.2.2.2.2/\r=x'.2.2.1)/\af g/\∀(g:List Int×Int×Int) (aT:Int),af g/\aA (2:Int) aT->Ty.wf ar g->Ty.wf ai aT->(af g/\i64.wrap (i64.wrap (i64.wrap (x.2.1-(1:Int))-(aD.length:Int))+aT)<=(1100:Int))/\∀(g:List Int×Int×Int) (aI:List Int),af g/\aj (1100:Nat) aI/\aI.length=Int.toNat (i64.wrap (i64.wrap (i64.wrap (x.2.1-(1:Int))-(aD.length:Int))+aT))->Ty.wf ar g->Ty.wf al aI->∃(x':(List Int×Int×Int)×(Int×List (List Int×Int×List Int×List Int))×Int×List Int×List Int),(af x'.1/\aO (32:Nat) x'.2.1.2/\aj (4000:Nat) x'.2.2.2.1/\aj (4000:Nat) x'.2.2.2.2)/\(d=d/\an)/\(ah (0:Int)/\an)/\(ah (0:Int)/\an/\an)/\(g.1=x'.1.1/\g.2.1=x'.1.2.1/\g.2.2=x'.1.2.2)/\x.2.1=x'.2.1.1/\x.2.2=x'.2.1.2/\aI=x'.2.2.2.1/\aD=x'.2.2.2.2/\r=x'.2.2.1)/\af g/\∀(g:List Int×Int×Int) (aT:Int),af g/\aA (2:Int) aT->Ty.wf ar g->Ty.wf ai aT->(af g/\i64.wrap (i64.wrap (i64.wrap (x.2.1-(1:Int))-(aD.length:Int))+aT)<=(1100:Int))/\∀(g:List Int×Int×Int) (aI:List Int),af g/\aj (1100:Nat) aI/\aI.length=Int.toNat (i64.wrap (i64.wrap (i64.wrap (x.2.1-(1:Int))-(aD.length:Int))+aT))->Ty.wf ar g->Ty.wf al aI->∃(x':(List Int×Int×Int)×(Int×List (List Int×Int×List Int×List Int))×Int×List Int×List Int),(af x'.1/\aO (32:Nat) x'.2.1.2/\aj (4000:Nat) x'.2.2.2.1/\aj (4000:Nat) x'.2.2.2.2)/\(d=d/\an)/\(ah (0:Int)/\an)/\(ah (0:Int)/\an/\an)/\(g.1=x'.1.1/\g.2.1=x'.1.2.1/\g.2.2=x'.1.2.2)/\x.2.1=x'.2.1.1/\x.2.2=x'.2.1.2/\aI=x'.2.2.2.1/\aD=x'.2.2.2.2/\r=x'.2.2.1)/\af g/\∀(g:List Int×Int×Int) (aT:Int),af g/\aA (2:Int) aT->Ty.wf ar g->Ty.wf ai aT->((af g/\i64.wrap (i64.wrap (i64.wrap (x.2.1-(1:Int))-(aD.length:Int))+aT)<=(1100:Int))/\∀(g:List Int×Int×Int) (aI:List Int),af g/\aj (1100:Nat) aI/\aI.length=Int.toNat (i64.wrap (i64.wrap (i64.wrap (x.2.1-(1:Int))-(aD.length:Int))+aT))->Ty.wf ar g->Ty.wf al aI->∃(x':(List Int×Int×Int)×(Int×List (List Int×Int×List Int×List Int))×Int×List Int×List Int),(af x'.1/\aO (32:Nat) x'.2.1.2/\aj (4000:Nat) x'.2.2.2.1/\aj (4000:Nat) x'.2.2.2.2)/\(d=d/\an)/\(ah (0:Int)/\an)/\(ah (0:Int)/\an/\an)/\(g.1=x'.1.1/\g.2.1=x'.1.2.1/\g.2.2=x'.1.2.2)/\x.2.1=x'.2.1.1/\x.2.2=x'.2.1.2/\aI=x'.2.2.2.1/\aD=x'.2.2.2.2/\r=x'.2.2.1)/\(af g/\i64.wrap (i64.wrap (i64.wrap (x.2.1-(1:Int))-(aD.length:Int))+aT)<=(1100:Int))/\∀(g:List Int×Int×Int) (aI:List Int),af g/\aj (1100:Nat) aI/\aI.length=Int.toNat (i64.wrap (i64.wrap (i64.wrap (x.2.1-(1:Int))-(aD.length:Int))+aT))->Ty.wf ar g->Ty.wf al aI->∃(x':(List Int×Int×Int)×(Int×List (List Int×Int×List Int×List Int))×Int×List Int×List Int),(af x'.1/\aO (32:Nat) x'.2.1.2/\aj (4000:Nat) x'.2.2.2.1/\aj (4000:Nat) x'.2.2.2.2)/\(d=d/\an)/\(ah (0:Int)/\an)/\(ah (0:Int)/\an/\an)/\(g.1=x'.1.1/\g.2.1=x'.1.2.1/\g.2.2=x'.1.2.2)/\x.2.1=x'.2.1.1/\x.2.2=x'.2.1.2/\aI=x'.2.2.2.1/\aD=x'.2.2.2.2/\r=x'.2.2.1)/\((((af g/\∀(g:List Int×Int×Int) (aT:Int),af g/\aA (2:Int) aT->Ty.wf ar g->Ty.wf ai aT->(af g/\i64.wrap (i64.wrap (i64.wrap (x.2.1-(1:Int))-(aD.length:Int))+aT)<=(1100:Int))/\∀(g:List Int×Int×Int) (aI:List Int),af g/\aj (1100:Nat) aI/\aI.length=Int.toNat (i64.wrap (i64.wrap (i64.wrap (x.2.1-(1:Int))-(aD.length:Int))+aT))->Ty.wf ar g->Ty.wf al aI->∃(x':(List Int×Int×Int)×(Int×List (List Int×Int×List Int×List Int))×Int×List Int×List Int),(af x'.1/\aO (32:Nat) x'.2.1.2/\aj (4000:Nat) x'.2.2.2.1/\aj (4000:Nat) x'.2.2.2.2)/\(d=d/\an)/\(ah (0:Int)/\an)/\(ah (0:Int)/\an/\an)/\(g.1=x'.1.1/\g.2.1=x'.1.2.1/\g.2.2=x'.1.2.2)/\x.2.1=x'.2.1.1/\x.2.2=x'.2.1.2/\aI=x'.2.2.2.1/\aD=x'.2.2.2.2/\r=x'.2.2.1)/\af g/\∀(g:List Int×Int×Int) (aT:Int),af g/\aA (2:Int) aT->Ty.wf ar g->Ty.wf ai aT->(af g/\i64.wrap (i64.wrap (i64.wrap (x.2.1-(1:Int))-(aD.length:Int))+aT)<=(1100:Int))/\∀(g:List Int×Int×Int) (aI:List Int),af g/\aj (1100:Nat) aI/\aI.length=Int.toNat (i64.wrap (i64.wrap (i64.wrap (x.2.1-(1:Int))-(aD.length:Int))+aT))->Ty.wf ar g->Ty.wf al aI->∃(x':(List Int×Int×Int)×(Int×List (List Int×Int×List Int×List Int))×Int×List Int×List Int),(af x'.1/\aO (32:Nat) x'.2.1.2/\aj (4000:Nat) x'.2.2.2.1/\aj (4000:Nat) x'.2.2.2.2)/\(d=d/\an)/\(ah (0:Int)/\an)/\(ah (0:Int)/\an/\an)/\(g.1=x'.1.1/\g.2.1=x'.1.2.1/\g.2.2=x'.1.2.2)/\x.2.1=x'.2.1.1/\x.2.2=x'.2.1.2/\aI=x'.2.2.2.1/\aD=x'.2.2.2.2/\r=x'.2.2.1)/\af g/\∀(g:List Int×Int×Int) (aT:Int),af g/\aA (2:Int) aT->Ty.wf ar g->Ty.wf ai aT->(af g/\i64.wrap (i64.wrap (i64.wrap (x.2.1-(1:Int))-(aD.length:Int))+aT)<=(1100:Int))/\∀(g:List Int×Int×Int) (aI:List Int),af g/\aj (1100:Nat) aI/\aI.length=Int.toNat (i64.wrap (i64.wrap (i64.wrap (x.2.1-(1:Int))-(aD.length:Int))+aT))->Ty.wf ar g->Ty.wf al aI->∃(x':(List Int×Int×Int)×(Int×List (List Int×Int×List Int×List Int))×Int×List Int×List Int),(af x'.1/\aO (32:Nat) x'.2.1.2/\aj (4000:Nat) x'.2.2.2.1/\aj (4000:Nat) x'.2.2.2.2)/\(d=d/\an)/\(ah (0:Int)/\an)/\(ah (0:Int)/\an/\an)/\(g.1=x'.1.1/\g.2.1=x'.1.2.1/\g.2.2=x'.1.2.2)/\x.2.1=x'.2.1.1/\x.2.2=x'.2.1.2/\aI=x'.2.2.2.1/\aD=x'.2.2.2.2/\r=x'.2.2.1)/\af g/\∀(g:List Int×Int×Int) (aT:Int),af g/\aA (2:Int) aT->Ty.wf ar g->Ty.wf ai aT->(af g/\i64.wrap (i64.wrap (i64.wrap (x.2.1-(1:Int))-(aD.length:Int))+aT)<=(1100:Int))/\∀(g:List Int×Int×Int) (aI:List Int),af g/\aj (1100:Nat) aI/\aI.length=Int.toNat (i64.wrap (i64.wrap (i64.wrap (x.2.1-(1:Int))-(aD.length:Int))+aT))->Ty.wf ar g->Ty.wf al aI->∃(x':(List Int×Int×Int)×(Int×List (List Int×Int×List Int×List Int))×Int×List Int×List Int),(af x'.1/\aO (32:Nat) x'.2.1.2/\aj (4000:Nat) x'.2.2.2.1/\aj (4000:Nat) x'.2.2.2.2)/\(d=d/\an)/\(ah (0:Int)/\an)/\(ah (0:Int)/\an/\an)/\(g.1=x'.1.1/\g.2.1=x'.1.2.1/\g.2.2=x'.1.2.2)/\x.2.1=x'.2.1.1/\x.2.2=x'.2.1.2/\aI=x'.2.2.2.1/\aD=x'.2.2.2.2/\r=x'.2.2.1)/\af g/\∀(g:List Int×Int×Int) (aT:Int),af g/\aA (2:Int) aT->Ty.wf ar g->Ty.wf ai aT->(((af g/\i64.wrap (i64.wrap (i64.wrap (x.2.1-(1:Int))-(aD.length:Int))+aT)<=(1100:Int))/\∀(g:List Int×Int×Int) (aI:List Int),af g/\aj (1100:Nat) aI/\aI.length=Int.toNat (i64.wrap (i64.wrap (i64.wrap (x.2.1-(1:Int))-(aD.length:Int))+aT))->Ty.wf ar g->Ty.wf al aI->∃(x':(List Int×Int×Int)×(Int×List (List Int×Int×List Int×List Int))×Int×List Int×List Int),(af x'.1/\aO (32:Nat) x'.2.1.2/\aj (4000:Nat) x'.2.2.2.1/\aj (4000:Nat) x'.2.2.2.2)/\(d=d/\an)/\(ah (0:Int)/\an)/\(ah (0:Int)/\an/\an)/\(g.1=x'.1.1/\g.2.1=x'.1.2.1/\g.2.2=x'.1.2.2)/\x.2.1=x'.2.1.1/\x.2.2=x'.2.1.2/\aI=x'.2.2.2.1/\aD=x'.2.2.2.2/\r=x'.2.2.1)/\(af g/\i64.wrap (i64.wrap (i64.wrap (x.2.1-(1:Int))-(aD.length:Int))+aT)<=(1100:Int))/\∀(g:List Int×Int×Int) (aI:List Int),af g/\aj (1100:Nat) aI/\aI.length=Int.toNat (i64.wrap (i64.wrap (i64.wrap (x.2.1-(1:Int))-(aD.length:Int))+aT))->Ty.wf ar g->Ty.wf al aI->∃(x':(List Int×Int×Int)×(Int×List (List Int×Int×List Int×List Int))×Int×List Int×List Int),(af x'.1/\aO (32:Nat) x'.2.1.2/\aj (4000:Nat) x'.2.2.2.1/\aj (4000:Nat) x'.2.2.2.2)/\(d=d/\an)/\(ah (0:Int)/\an)/\(ah (0:Int)/\an/\an)/\(g.1=x'.1.1/\g.2.1=x'.1.2.1/\g.2.2=x'.1.2.2)/\x.2.1=x'.2.1.1/\x.2.2=x'.2.1.2/\aI=x'.2.2.2.1/\aD=x'.2.2.2.2/\r=x'.2.2.1)/\(af g/\i64.wrap (i64.wrap (i64.wrap (x.2.1-(1:Int))-(aD.length:Int))+aT)<=(1100:Int))/\∀(g:List Int×Int×Int) (aI:List Int),af g/\aj (1100:Nat) aI/\aI.length=Int.toNat (i64.wrap (i64.wrap (i64.wrap (x.2.1-(1:Int))-(aD.length:Int))+aT))->Ty.wf ar g->Ty.wf al aI->∃(x':(List Int×Int×Int)×(Int×List (List Int×Int×List Int×List Int))×Int×List Int×List Int),(af x'.1/\aO (32:Nat) x'.2.1.2/\aj (4000:Nat) x'.2.2.2.1/\aj (4000:Nat) x'.2.2.2.2)/\(d=d/\an)/\(ah (0:Int)/\an)/\(ah (0:Int)/\an/\an)/\(g.1=x'.1.1/\g.2.1=x'.1.2.1/\g.2.2=x'.1.2.2)/\x.2.1=x'.2.1.1/\x.2.2=x'.2.1.2/\aI=x'.2.2.2.1/\aD=x'.2.2.2.2/\r=x'.2.2.1)/\af g/\∀(g:List Int×Int×Int) (aT:Int),af g/\aA (2:Int) aT->Ty.wf ar g->Ty.wf ai aT->(((af g/\i64.wrap (i64.wrap (i64.wrap (x.2.1-(1:Int))-(aD.length:Int))+aT)<=(1100:Int))/\∀(g:List Int×Int×Int) (aI:List Int),af g/\aj (1100:Nat) aI/\aI.length=Int.toNat (i64.wrap (i64.wrap (i64.wrap (x.2.1-(1:Int))-(aD.length:Int))+aT))->Ty.wf ar g->Ty.wf al aI->∃(x':(List Int×Int×Int)×(Int×List (List Int×Int×List Int×List Int))×Int×List Int×List Int),(af x'.1/\aO (32:Nat) x'.2.1.2/\aj (4000:Nat) x'.2.2.2.1/\aj (4000:Nat) x'.2.2.2.2)/\(d=d/\an)/\(ah (0:Int)/\an)/\(ah (0:Int)/\an/\an)/\(g.1=x'.1.1/\g.2.1=x'.1.2.1/\g.2.2=x'.1.2.2)/\x.2.1=x'.2.1.1/\x.2.2=x'.2.1.2/\aI=x'.2.2.2.1/\aD=x'.2.2.2.2/\r=x'.2.2.1)/\((af g/\i64.wrap (i64.wrap (i64.wrap (x.2.1-(1:Int))-(aD.length:Int))+aT)<=(1100:Int))/\∀(g:List Int×Int×Int) (aI:List Int),af g/\aj (1100:Nat) aI/\aI.length=Int.toNat (i64.wrap (i64.wrap (i64.wrap (x.2.1-(1:Int))-(aD.length:Int))+aT))->Ty.wf ar g->Ty.wf al aI->∃(x':(List Int×Int×Int)×(Int×List (List Int×Int×List Int×List Int))×Int×List Int×List Int),(af x'.1/\aO (32:Nat) x'.2.1.2/\aj (4000:Nat) x'.2.2.2.1/\aj (4000:Nat) x'.2.2.2.2)/\(d=d/\an)/\(ah (0:Int)/\an)/\(ah (0:Int)/\an/\an)/\(g.1=x'.1.1/\g.2.1=x'.1.2.1/\g.2.2=x'.1.2.2)/\x.2.1=x'.2.1.1/\x.2.2=x'.2.1.2/\aI=x'.2.2.2.1/\aD=x'.2.2.2.2/\r=x'.2.2.1)/\(af g/\i64.wrap (i64.wrap (i64.wrap (x.2.1-(1:Int))-(aD.length:Int))+aT)<=(1100:Int))/\∀(g:List Int×Int×Int) (aI:List Int),af g/\aj (1100:Nat) aI/\aI.length=Int.toNat (i64.wrap (i64.wrap (i64.wrap (x.2.1-(1:Int))-(aD.length:Int))+aT))->Ty.wf ar g->Ty.wf al aI->∃(x':(List Int×Int×Int)×(Int×List (List Int×Int×List Int×List Int))×Int×List Int×List Int),(af x'.1/\aO (32:Nat) x'.2.1.2/\aj (4000:Nat) x'.2.2.2.1/\aj (4000:Nat) x'.2.2.2.2)/\(d=d/\an)/\(ah (0:Int)/\an)/\(ah (0:Int)/\an/\an)/\(g.1=x'.1.1/\g.2.1=x'.1.2.1/\g.2.2=x'.1.2.2)/\x.2.1=x'.2.1.1/\x.2.2=x'.2.1.2/\aI=x'.2.2.2.1/\aD=x'.2.2.2.2/\r=x'.2.2.1)/\(((af g/\i64.wrap (i64.wrap (i64.wrap (x.2.1-(1:Int))-(aD.length:Int))+aT)<=(1100:Int))/\∀(g:List Int×Int×Int) (aI:List Int),af g/\aj (1100:Nat) aI/\aI.length=Int.toNat (i64.wrap (i64.wrap (i64.wrap (x.2.1-(1:Int))-(aD.length:Int))+aT))->Ty.wf ar g->Ty.wf al aI->∃(x':(List Int×Int×Int)×(Int×List (List Int×Int×List Int×List Int))×Int×List Int×List Int),(af x'.1/\aO (32:Nat) x'.2.1.2/\aj (4000:Nat) x'.2.2.2.1/\aj (4000:Nat) x'.2.2.2.2)/\(d=d/\an)/\(ah (0:Int)/\an)/\(ah (0:Int)/\an/\an)/\(g.1=x'.1.1/\g.2.1=x'.1.2.1/\g.2.2=x'.1.2.2)/\x.2.1=x'.2.1.1/\x.2.2=x'.2.1.2/\aI=x'.2.2.2.1/\aD=x'.2.2.2.2/\r=x'.2.2.1)/\(af g/\i64.wrap (i64.wrap (i64.wrap (x.2.1-(1:Int))-(aD.length:Int))+aT)<=(1100:Int))/\∀(g:List Int×Int×Int) (aI:List Int),af g/\aj (1100:Nat) aI/\aI.length=Int.toNat (i64.wrap (i64.wrap (i64.wrap (x.2.1-(1:Int))-(aD.length:Int))+aT))->Ty.wf ar g->Ty.wf al aI->∃(x':(List Int×Int×Int)×(Int×List (List Int×Int×List Int×List Int))×Int×List Int×List Int),(af x'.1/\aO (32:Nat) x'.2.1.2/\aj (4000:Nat) x'.2.2.2.1/\aj (4000:Nat) x'.2.2.2.2)/\(d=d/\an)/\(ah (0:Int)/\an)/\(ah (0:Int)/\an/\an)/\(g.1=x'.1.1/\g.2.1=x'.1.2.1/\g.2.2=x'.1.2.2)/\x.2.1=x'.2.1.1/\x.2.2=x'.2.1.2/\aI=x'.2.2.2.1/\aD=x'.2.2.2.2/\r=x'.2.2.1)/\(af g/\i64.wrap (i64.wrap (i64.wrap (x.2.1-(1:Int))-(aD.length:Int))+aT)<=(1100:Int))/\∀(g:List Int×Int×Int) (aI:List Int),af g/\aj (1100:Nat) aI/\aI.length=Int.toNat (i64.wrap (i64.wrap (i64.wrap (x.2.1-(1:Int))-(aD.length:Int))+aT))->Ty.wf ar g->Ty.wf al aI->∃(x':(List Int×Int×Int)×(Int×List (List Int×Int×List Int×List Int))×Int×List Int×List Int),(af x'.1/\aO (32:Nat) x'.2.1.2/\aj (4000:Nat) x'.2.2.2.1/\aj (4000:Nat) x'.2.2.2.2)/\(d=d/\an)/\(ah (0:Int)/\an)/\(ah (0:Int)/\an/\an)/\(g.1=x'.1.1/\g.2.1=x'.1.2.1/\g.2.2=x'.1.2.2)/\x.2.1=x'.2.1.1/\x.2.2=x'.2.1.2/\aI=x'.2.2.2.1/\aD=x'.2.2.2.2/\r=x'.2.2.1)/\((decide ((1:Int)<=x.2.1)&&decide (x.2.1<=(200:Int)))=false->∃(x':(List Int×Int×Int)×(Int×List (List Int×Int×List Int×List Int))×Int×List Int×List Int),(af x'.1/\aO (32:Nat) x'.2.1.2/\aj (4000:Nat) x'.2.2.2.1/\aj (4000:Nat) x'.2.2.2.2)/\(d=d/\an)/\(ah (0:Int)/\an)/\(ah (0:Int)/\an/\an)/\(g.1=x'.1.1/\g.2.1=x'.1.2.1/\g.2.2=x'.1.2.2)/\x.2.1=x'.2.1.1/\x.2.2=x'.2.1.2/\bS=x'.2.2.2.1/\aD=x'.2.2.2.2/\r=x'.2.2.1))/\(bY=false->∃(x':(List Int×Int×Int)×(Int×List (List Int×Int×List Int×List Int))×Int×List Int×List Int),(af x'.1/\aO (32:Nat) x'.2.1.2/\aj (4000:Nat) x'.2.2.2.1/\aj (4000:Nat) x'.2.2.2.2)/\(d=d/\an)/\(ah (0:Int)/\an)/\(ah (0:Int)/\an/\an)/\(g.1=x'.1.1/\g.2.1=x'.1.2.1/\g.2.2=x'.1.2.2)/\x.2.1=x'.2.1.1/\x.2.2=x'.2.1.2/\bS=x'.2.2.2.1/\aD=x'.2.2.2.2/\r=x'.2.2.1))/\∀(x:(List Int×Int×Int)×(Int×List (List Int×Int×List Int×List Int))×Int×List Int×List Int),af x.1/\aO (32:Nat) x.2.1.2/\aj (4000:Nat) x.2.2.2.1/\aj (4000:Nat) x.2.2.2.2->((((af x.1/\aO (32:Nat) x.2.1.2)/\∀(g:List Int×Int×Int) (r:List Int),af g/\aj (10000:Nat) r->Ty.wf ar g->Ty.wf aC r->jU (x.2.1,r,x.2.2)/\jU (x.2.1,r,x.2.2))/\(af x.1/\aO (32:Nat) x.2.1.2)/\∀(g:List Int×Int×Int) (r:List Int),af g/\aj (10000:Nat) r->Ty.wf ar g->Ty.wf aC r->jU (x.2.1,r,x.2.2))/\(af x.1/\aO (32:Nat) x.2.1.2)/\∀(g:List Int×Int×Int) (r:List Int),af g/\aj (10000:Nat) r->Ty.wf ar g->Ty.wf aC r->jU (x.2.1,r,x.2.2))/\((((af x.1/\aO (32:Nat) x.2.1.2)/\∀(g:List Int×Int×Int) (r:List Int),af g/\aj (10000:Nat) r->Ty.wf ar g->Ty.wf aC r->jU (x.2.1,r,x.2.2)/\jU (x.2.1,r,x.2.2))/\(af x.1/\aO (32:Nat) x.2.1.2)/\∀(g:List Int×Int×Int) (r:List Int),af g/\aj (10000:Nat) r->Ty.wf ar g->Ty.wf aC r->jU (x.2.1,r,x.2.2))/\((af x.1/\aO (32:Nat) x.2.1.2)/\∀(g:List Int×Int×Int) (r:List Int),af g/\aj (10000:Nat) r->Ty.wf ar g->Ty.wf aC r->(jU (x.2.1,r,x.2.2)/\jU (x.2.1,r,x.2.2))/\jU (x.2.1,r,x.2.2))/\((af x.1/\aO (32:Nat) x.2.1.2)/\∀(g:List Int×Int×Int) (r:List Int),af g/\aj (10000:Nat) r->Ty.wf ar g->Ty.wf aC r->jU (x.2.1,r,x.2.2))/\(af x.1/\aO (32:Nat) x.2.1.2)/\∀(g:List Int×Int×Int) (r:List Int),af g/\aj (10000:Nat) r->Ty.wf ar g->Ty.wf aC r->jU (x.2.1,r,x.2.2))/\((af x.1/\aO (32:Nat) x.2.1.2)/\∀(g:List Int×Int×Int) (r:List Int),af g/\aj (10000:Nat) r->Ty.wf ar g->Ty.wf aC r->jU (x.2.1,r,x.2.2))/\((af x.1/\aO (32:Nat) x.2.1.2)/\∀(g:List Int×Int×Int) (r:List Int),af g/\aj (10000:Nat) r->Ty.wf ar g->Ty.wf aC r->jU (x.2.1,r,x.2.2))/\(af x.1/\aO (32:Nat) x.2.1.2)/\∀(g:List Int×Int×Int) (r:List Int),af g/\aj (10000:Nat) r->Ty.wf ar g->Ty.wf aC r->jU (x.2.1,r,x.2.2):=by
  intro x hx hp
  simp only[exists_const,forall_const,decide_eq_true_eq,decide_eq_false_iff_not,beq_iff_eq,sxS]
  refine⟨hp,fun g r hr _ _=>⟨⟨hr.1,fun g1 r1 Rd _ _=>⟨fun _=>⟨⟨by omega,O4 0⟩,rfl,fun y hy=>⟨fun aZ=>⟨by rw[List.length_singleton];have:=hy.2.1;omega,(y.1+1,_),⟨by show y.1+1<=30;omega,O3 hy.2 ⟨by show aj _ _;unfold aj;simp,by show aj _ _;unfold aj;simp,by show aj _ _;unfold aj;simp⟩⟩,by show 30-(y.1+1)<_;omega,wrap_small (n:=(y.1:Int)+1) (by omega),rfl⟩,fun _=>⟨(g1,40,y.2),⟨Rd,Sg hy.2 (by omega)⟩,⟨rfl,rfl,rfl⟩,rfl,rfl⟩⟩⟩,fun _=>⟨(g1,r),⟨Rd,hr.2⟩,⟨rfl,rfl,rfl⟩,rfl,rfl⟩⟩⟩,fun y hy=>?_⟩⟩
  obtain⟨RS,WV⟩:=hy
  repeat' (first
   | assumption
   | exact trivial
   | omega
   | exact⟨OX,Nat.le_trans iJ (by omega),T7,W0⟩
   | (intro (h:af _/\aO _ _/\aj _ _/\aj _ _);obtain⟨_,OX,T7,W0⟩:=h)
   | exact Qx ‹_› ‹_› ‹_›
   | exact⟨(_,(_,_),_,_,_),⟨‹af _›,WV,Nat.le_trans ‹_› (by omega),Nat.le_trans ‹_› (by omega)⟩,⟨rfl,rfl,rfl⟩,rfl,rfl,rfl,rfl,rfl⟩
   | (intro (h:af _/\aA _ _);obtain⟨_,Q8⟩:=h;have v8:=Q8.2.1)
   | (intro (h:af _/\eN _ _);obtain⟨_,_⟩:=h)
   | (intro (h:af _/\aj _ _/\_);obtain⟨_,iJ,_⟩:=h;unfold aj at iJ)
   | (intro (h:af _/\aj _ _);obtain⟨_,iJ⟩:=h;unfold aj at iJ)
   | with_reducible apply And.intro
   | intro _)
theorem rS(a m:Int)(hm:m=255):0<=pJ .i64 a m/\pJ .i64 a m<=255:=by
 subst hm
 have h:(BitVec.ofInt 64 a &&& BitVec.ofInt 64 255).toNat<=255:=by
  rw[BitVec.toNat_and]
  exact Nat.and_le_right
 have e:pJ .i64 a 255=i64.wrap ((BitVec.ofInt 64 a &&& BitVec.ofInt 64 255).toNat:Int):=rfl
 rw[e,wrap_small (by omega)]
 omega
theorem Ol{c:cL}(h:af c)(i n:Int)(hi:0<=i):af (c.1,i,n):=⟨hi,h.2⟩
theorem GQ :
 ∀(d:List Int×Int×Int) (x:Unit),Ty.wf ar d->True->af d->(0:Int)<=(33:Int)/\(0:Int)<=(45:Int)/\(decide (d.2.1<(d.1.length:Int))=true->((0:Int)<=d.2.1/\d.2.1<(d.1.length:Int))/\af (d.1,i64.wrap (d.2.1+(1:Int)),i64.wrap (i64.wrap (d.2.2*(6364136223846793005:Int))+(1442695040888963407:Int)))/\(0:Int)<=pJ i64 (i64.wrap (pJ i64 (BL i64 (ix i64 (i64.wrap (i64.wrap (d.2.2*(6364136223846793005:Int))+(1442695040888963407:Int))) (33:Int)) (ix i64 (i64.wrap (i64.wrap (d.2.2*(6364136223846793005:Int))+(1442695040888963407:Int))) (45:Int))) (255:Int)+i64.wrap (d.1.getD d.2.1.toNat (0:Int)))) (255:Int)/\pJ i64 (i64.wrap (pJ i64 (BL i64 (ix i64 (i64.wrap (i64.wrap (d.2.2*(6364136223846793005:Int))+(1442695040888963407:Int))) (33:Int)) (ix i64 (i64.wrap (i64.wrap (d.2.2*(6364136223846793005:Int))+(1442695040888963407:Int))) (45:Int))) (255:Int)+i64.wrap (d.1.getD d.2.1.toNat (0:Int)))) (255:Int)<=(255:Int))/\(decide (d.2.1<(d.1.length:Int))=false->af (d.1,d.2.1,i64.wrap (i64.wrap (d.2.2*(6364136223846793005:Int))+(1442695040888963407:Int)))/\(0:Int)<=pJ i64 (BL i64 (ix i64 (i64.wrap (i64.wrap (d.2.2*(6364136223846793005:Int))+(1442695040888963407:Int))) (33:Int)) (ix i64 (i64.wrap (i64.wrap (d.2.2*(6364136223846793005:Int))+(1442695040888963407:Int))) (45:Int))) (255:Int)/\pJ i64 (BL i64 (ix i64 (i64.wrap (i64.wrap (d.2.2*(6364136223846793005:Int))+(1442695040888963407:Int))) (33:Int)) (ix i64 (i64.wrap (i64.wrap (d.2.2*(6364136223846793005:Int))+(1442695040888963407:Int))) (45:Int))) (255:Int)<=(255:Int)):=by
  intro d _u hw _t hp
  replace hp:af d:=hp
  simp only[exists_const,forall_const,decide_eq_true_eq,decide_eq_false_iff_not,beq_iff_eq,sxS]
  refine⟨by omega,by omega,fun h=>⟨⟨hp.1,h⟩,Ol hp _ _ ?_,(rS _ _ rfl).1,(rS _ _ rfl).2⟩,fun h=>⟨Ol hp _ _ hp.1,(rS _ _ rfl).1,(rS _ _ rfl).2⟩⟩
  have:=hp.1;have:=hp.2
  rw[wrap_small (by omega)];omega
theorem Cw{r x:Int}(hr:0<=r)(hx:0<x):aA x (r.tmod x):=by
 rw[Int.tmod_eq_emod_of_nonneg hr]
 exact⟨Int.emod_nonneg _ (by omega),fun _=>Int.emod_lt_of_pos _ hx,fun h=>by omega⟩
theorem DP :
 ∀(d:List Int×Int×Int) (x:Int),Ty.wf ar d->Ty.wf ai x->af d->(decide (x<=(0:Int))=true->af d/\aA x (0:Int))/\(decide (x<=(0:Int))=false->(decide (x<=(256:Int))=true->af d/\∀(g:List Int×Int×Int) (r:Int),af g/\(0:Int)<=r/\r<=(255:Int)->Ty.wf ar g->Ty.wf ai r->x≠(0:Int)/\af g/\aA x (Int.tmod r x))/\(decide (x<=(256:Int))=false->af d/\∀(g:List Int×Int×Int) (r:Int),af g/\(0:Int)<=r/\r<=(255:Int)->Ty.wf ar g->Ty.wf ai r->af g/\∀(g:List Int×Int×Int) (aX:Int),af g/\(0:Int)<=aX/\aX<=(255:Int)->Ty.wf ar g->Ty.wf ai aX->af g/\∀(g:List Int×Int×Int) (bS:Int),af g/\(0:Int)<=bS/\bS<=(255:Int)->Ty.wf ar g->Ty.wf ai bS->x≠(0:Int)/\af g/\aA x (Int.tmod (i64.wrap (i64.wrap (i64.wrap (r*(65536:Int))+i64.wrap (aX*(256:Int)))+bS)) x))):=by
  intro d x hd hx hp
  have hp:af d:=hp
  replace hx:ai.wf x:=hx
  simp only[exists_const,forall_const,decide_eq_true_eq,decide_eq_false_iff_not,beq_iff_eq,sxS]
  refine⟨fun h=>⟨hp,Int.le_refl _,fun h2=>absurd h2 (by omega),fun _=>rfl⟩,fun h=>⟨fun h2=>⟨hp,fun g r ⟨g1,g2,g3⟩ _ _=>⟨by omega,g1,Cw g2 (by omega)⟩⟩,fun h2=>⟨hp,fun g r ⟨g1,g2,g3⟩ _ _=>⟨g1,fun g' r1 ⟨Ow,Ox,Tp⟩ _ _=>⟨Ow,fun XW r2 ⟨Us,Xy,Xz⟩ _ _=>⟨by omega,Us,?_⟩⟩⟩⟩⟩⟩
  refine Cw ?_ (by omega)
  rw[wrap_small (n:=r*65536) (by omega),wrap_small (n:=r1*256) (by omega),wrap_small (n:=r*65536+r1*256) (by omega),wrap_small (by omega)]
  omega
theorem GU :
 ∀(d:List Int×Int×Int) (x:Int),Ty.wf ar d->Ty.wf ai x->af d->af d/\∀(g:List Int×Int×Int) (r:Int),af g/\aA x r->Ty.wf ar g->Ty.wf ai r->af g:=by
  intro d n hd hn hp
  exact⟨hp,fun g r h _ _=>h.1⟩
theorem Bd :
 ∀(d:List Int×Int×Int) (x:List Int),Ty.wf ar d->Ty.wf (Ty.sl ai) x->af d/\(0:Nat)<x.length->af d/\∀(g:List Int×Int×Int) (r:Int),af g/\aA (x.length:Int) r->Ty.wf ar g->Ty.wf ai r->((0:Int)<=r/\r<(x.length:Int))/\af g/\eN x (x.getD r.toNat (0:Int)):=by
  intro d l hd hl hp
  have fb:0<(show List Int from l).length:=hp.2
  refine⟨hp.1,fun g r ⟨h1,h2,h3,_⟩ _ _=>⟨⟨h2,h3 (by omega)⟩,h1,?_⟩⟩
  have h4:=h3 (by omega)
  replace h2:(0:Int)<=r:=h2
  unfold eN
  rw[List.getD_eq_getElem?_getD,List.getElem?_eq_getElem (by omega)]
  exact List.getElem_mem _
theorem HN :
 ∀(x:List Int),Ty.wf (Ty.sl (Ty.int u8)) x->x.length<=(9223372036854775807:Nat)->(0:Nat)<=x.length/\(x=x/\ah (Value.pointer none)/\ah (i64.wrap ((710710:Int)+(x.length:Int)))/\(0:Int)=(↑(0:Nat):Int))/\∀(x_1:Nat×Int),x_1.1<=x.length->(decide ((x_1.1:Int)<(x.length:Int))=true->(decide ((x_1.1:Int)<(4000:Int))=true->((0:Int)<=(x_1.1:Int)/\(x_1.1:Int)<(x.length:Int))/\∃(x':Nat×Int),x'.1<=x.length/\x.length-x'.1<x.length-x_1.1/\x=x/\ah (Value.pointer none)/\pJ i64 (i64.wrap (i64.wrap (i64.wrap (x_1.2*(149:Int))+i64.wrap (x.getD ((x_1.1:Int).toNat) (0:Int)))+(11:Int))) (1073741823:Int)=x'.2/\i64.wrap ((x_1.1:Int)+(1:Int))=(x'.1:Int))/\(decide ((x_1.1:Int)<(4000:Int))=false->af (x,(0:Int),x_1.2)))/\(decide ((x_1.1:Int)<(x.length:Int))=false->af (x,(0:Int),x_1.2)):=by
  intro x hx hl
  have hl:x.length<=9223372036854775807:=hl
  simp only[exists_const,forall_const,decide_eq_true_eq,decide_eq_false_iff_not,beq_iff_eq,sxS]
  refine⟨Nat.zero_le _,rfl,fun y hy=>⟨fun h=>⟨fun h2=>⟨⟨by omega,h⟩,(y.1+1,_),by simp only;omega,by simp only;omega,rfl,?_⟩,fun _=>⟨Int.le_refl _,hl⟩⟩,fun _=>⟨Int.le_refl _,hl⟩⟩⟩
  rw[wrap_small (by omega)];rfl
theorem GV :
 ∀(d:List Int×Int),Ty.wf (Ty.sl (Ty.int u8)) d.1/\Ty.wf ai d.2->True->(16:Int)≠(0:Int)/\(decide (d.2<i64.wrap ((2:Int)+i64.wrap (Int.tdiv (d.1.length:Int) (16:Int))))=true->xC d.2 d.2)/\(decide (d.2<i64.wrap ((2:Int)+i64.wrap (Int.tdiv (d.1.length:Int) (16:Int))))=false->xC d.2 (i64.wrap ((2:Int)+i64.wrap (Int.tdiv (d.1.length:Int) (16:Int))))):=by
  intro d hd _
  simp only[exists_const,forall_const,decide_eq_true_eq,decide_eq_false_iff_not,beq_iff_eq,sxS]
  refine⟨by omega,fun h=>Int.le_refl _,fun h=>?_⟩
  unfold xC
  omega
set_option maxHeartbeats 4000000
theorem Qu{x r:Int}(hx : -9223372036854775808<=x/\x<=9223372036854775807)(h:x<=50)(hb:aA (i64.wrap (x+1)) r):r<=50:=by
 rw[wrap_small (n:=x+1) (by omega)] at hb
 obtain⟨a,b,c⟩:=hb
 omega
theorem Un{x r:Int}(hx : -9223372036854775808<=x/\x<=9223372036854775807)(h:x<=50)(hb:aA (i64.wrap (i64.wrap (x.tdiv 2)+2)) r):r<=50:=by
 have Vk:x.tdiv 2<=25 ∧ -4611686018427387905<=x.tdiv 2:=by
  rcases Int.le_total 0 x with h0|h0
  ·rw[Int.tdiv_eq_ediv_of_nonneg h0];omega
  ·have e:x.tdiv 2 = -((-x)/2):=by rw[<-Int.tdiv_eq_ediv_of_nonneg (by omega),Int.neg_tdiv];omega
   rw[e];omega
 obtain⟨h1,h2⟩:=Vk
 rw[wrap_small (n:=x.tdiv 2) (by omega),wrap_small (n:=x.tdiv 2+2) (by omega)] at hb
 obtain⟨a,b,c⟩:=hb
 omega
theorem Uo{x r:Int}(h:x<=50)(hb:aA x r):0<=r/\r<=50:=by
 obtain⟨a,b,c⟩:=hb
 omega
theorem Up{x r:Int}(h:x<=50)(hb:aA x r):i64.wrap (1+r)<=51:=by
 have:=Uo h hb
 rw[wrap_small (by omega)];omega
theorem Qv{r:Int}(hb:aA 4 r):ju i64 1 (IntKind.u64.wrap r)<=1100/\0<=IntKind.u64.wrap r:=by
 obtain⟨a,b,c⟩:=hb
 have b:=b (by omega)
 obtain⟨n,rfl⟩:=Int.eq_ofNat_of_zero_le a
 rw[Sz (by omega),U_ (by omega)]
 have:n=0\/n=1\/n=2\/n=3:=by omega
 rcases this with rfl|rfl|rfl|rfl<;>decide
theorem S4{g:cL}{b:Nat}{k n w:Int}{l1 l2:List Int}(hg:af g)(h1:l1.length<=b)(h2:l2.length<=b):∃ x':cL×Jb,(af x'.1/\aj b x'.2.2.2.1/\aj b x'.2.2.2.2.1)/\(g.1=x'.1.1/\g.2.1=x'.1.2.1/\g.2.2=x'.1.2.2)/\(k=x'.2.1/\n=x'.2.2.1/\w=x'.2.2.2.2.2)/\l1=x'.2.2.2.1/\l2=x'.2.2.2.2.1 :=
 ⟨(g,(k,n,l1,l2,w)),⟨hg,h1,h2⟩,⟨rfl,rfl,rfl⟩,⟨rfl,rfl,rfl⟩,rfl,rfl⟩
theorem R3{g:cL}{b:Nat}{k n w:Int}{l1:List Int}(hg:af g)(h1:l1.length<=b):∃ x':cL×Jb,(af x'.1/\aj b x'.2.2.2.1/\aj b x'.2.2.2.2.1)/\(g.1=x'.1.1/\g.2.1=x'.1.2.1/\g.2.2=x'.1.2.2)/\(k=x'.2.1/\n=x'.2.2.1/\w=x'.2.2.2.2.2)/\l1=x'.2.2.2.1/\x'.2.2.2.2.1=[] :=
 ⟨(g,(k,n,l1,[],w)),⟨hg,h1,Nat.zero_le _⟩,⟨rfl,rfl,rfl⟩,⟨rfl,rfl,rfl⟩,rfl,rfl⟩
theorem PI{g:cL}{b:Nat}{k n w:Int}(hg:af g):∃ x':cL×Jb,(af x'.1/\aj b x'.2.2.2.1/\aj b x'.2.2.2.2.1)/\(g.1=x'.1.1/\g.2.1=x'.1.2.1/\g.2.2=x'.1.2.2)/\(k=x'.2.1/\n=x'.2.2.1/\w=x'.2.2.2.2.2)/\x'.2.2.2.1=[]/\x'.2.2.2.2.1=[] :=
 ⟨(g,(k,n,[],[],w)),⟨hg,Nat.zero_le _,Nat.zero_le _⟩,⟨rfl,rfl,rfl⟩,⟨rfl,rfl,rfl⟩,rfl,rfl⟩
theorem LK{l:List Int}{v:Int}(h:l.length<=1200):(l++[v]).length<=1300:=by
 rw[List.length_append,List.length_singleton];omega
theorem RZ{l:List Int}{v:Int}(h:l.length<=1200):(l.length+[v].length)*8<=140737488355328:=by
 rw[List.length_singleton];omega
theorem Bf :
 ∀(d:List Int×Int×Int) (x:Int),Ty.wf ar d->Ty.wf ai x->af d/\x<=(50:Int)->af d/\∀(g:List Int×Int×Int) (r:Int),af g/\aA (11:Int) r->Ty.wf ar g->Ty.wf ai r->af g/\∀(g:List Int×Int×Int) (aX:Int),af g/\aA (9:Int) aX->Ty.wf ar g->Ty.wf ai aX->af g/\∀(g:List Int×Int×Int) (bS:Int),af g/\aA (4:Int) bS->Ty.wf ar g->Ty.wf ai bS->(((decide (i64.wrap ((1:Int)+r)=(1:Int))=true->∃(x':Bool),True/\(x=x/\bS=bS/\ah (i64.wrap ((1:Int)+r))/\decide (i64.wrap ((1:Int)+r)=(1:Int))=x')/\(g.1=g.1/\ah g.2.1/\ah g.2.2)/\(ah (0:Int)/\ah (0:Int)/\an/\an/\ah (0:Int))/\ah (i64.wrap ((1:Int)+r))/\aX=aX/\an/\an/\ah (0:Int))/\(decide (i64.wrap ((1:Int)+r)=(1:Int))=false->∃(x':Bool),True/\(x=x/\bS=bS/\ah (i64.wrap ((1:Int)+r))/\decide (i64.wrap ((1:Int)+r)=(2:Int))=x')/\(g.1=g.1/\ah g.2.1/\ah g.2.2)/\(ah (0:Int)/\ah (0:Int)/\an/\an/\ah (0:Int))/\ah (i64.wrap ((1:Int)+r))/\aX=aX/\an/\an/\ah (0:Int)))/\∀(x_1:Bool),True->(x_1=true->(0:Int)<=IntKind.wrap IntKind.u64 bS/\(af g/\ju i64 (1:Int) (IntKind.wrap IntKind.u64 bS)<=(1100:Int))/\∀(g:List Int×Int×Int) (aM:List Int),af g/\aj (1100:Nat) aM/\aM.length=Int.toNat (ju i64 (1:Int) (IntKind.wrap IntKind.u64 bS))->Ty.wf ar g->Ty.wf al aM->∃(x':(List Int×Int×Int)×Int×Int×List Int×List Int×Int),(af x'.1/\aj (1200:Nat) x'.2.2.2.1/\aj (1200:Nat) x'.2.2.2.2.1)/\x=x/\(g.1=x'.1.1/\g.2.1=x'.1.2.1/\g.2.2=x'.1.2.2)/\(ah (0:Int)/\ah (0:Int)/\an/\an/\ah (0:Int))/\(i64.wrap ((1:Int)+r)=x'.2.1/\aX=x'.2.2.1/\(0:Int)=x'.2.2.2.2.2)/\aM=x'.2.2.2.1/\x'.2.2.2.2.1=[])/\(x_1=false->((decide (i64.wrap ((1:Int)+r)=(3:Int))=true->∃(x':Bool),True/\(x=x/\bS=bS/\ah (i64.wrap ((1:Int)+r))/\decide (i64.wrap ((1:Int)+r)=(3:Int))=x')/\(g.1=g.1/\ah g.2.1/\ah g.2.2)/\(ah (0:Int)/\ah (0:Int)/\an/\an/\ah (0:Int))/\ah (i64.wrap ((1:Int)+r))/\aX=aX/\an/\an/\ah (0:Int))/\(decide (i64.wrap ((1:Int)+r)=(3:Int))=false->∃(x':Bool),True/\(x=x/\bS=bS/\ah (i64.wrap ((1:Int)+r))/\decide (i64.wrap ((1:Int)+r)=(4:Int))=x')/\(g.1=g.1/\ah g.2.1/\ah g.2.2)/\(ah (0:Int)/\ah (0:Int)/\an/\an/\ah (0:Int))/\ah (i64.wrap ((1:Int)+r))/\aX=aX/\an/\an/\ah (0:Int)))/\∀(x_2:Bool),True->(x_2=true->(0:Int)<=IntKind.wrap IntKind.u64 bS/\(af g/\ju i64 (1:Int) (IntKind.wrap IntKind.u64 bS)<=(1100:Int))/\∀(g:List Int×Int×Int) (aM:List Int),af g/\aj (1100:Nat) aM/\aM.length=Int.toNat (ju i64 (1:Int) (IntKind.wrap IntKind.u64 bS))->Ty.wf ar g->Ty.wf al aM->(0:Int)<=IntKind.wrap IntKind.u64 bS/\(af g/\ju i64 (1:Int) (IntKind.wrap IntKind.u64 bS)<=(1100:Int))/\∀(g:List Int×Int×Int) (aD:List Int),af g/\aj (1100:Nat) aD/\aD.length=Int.toNat (ju i64 (1:Int) (IntKind.wrap IntKind.u64 bS))->Ty.wf ar g->Ty.wf al aD->∃(x':(List Int×Int×Int)×Int×Int×List Int×List Int×Int),(af x'.1/\aj (1200:Nat) x'.2.2.2.1/\aj (1200:Nat) x'.2.2.2.2.1)/\x=x/\(g.1=x'.1.1/\g.2.1=x'.1.2.1/\g.2.2=x'.1.2.2)/\(ah (0:Int)/\ah (0:Int)/\an/\an/\ah (0:Int))/\(i64.wrap ((1:Int)+r)=x'.2.1/\aX=x'.2.2.1/\(0:Int)=x'.2.2.2.2.2)/\aM=x'.2.2.2.1/\aD=x'.2.2.2.2.1)/\(x_2=false->((decide (i64.wrap ((1:Int)+r)=(5:Int))=true->∃(x':Bool),True/\(x=x/\bS=bS/\ah (i64.wrap ((1:Int)+r))/\decide (i64.wrap ((1:Int)+r)=(5:Int))=x')/\(g.1=g.1/\ah g.2.1/\ah g.2.2)/\(ah (0:Int)/\ah (0:Int)/\an/\an/\ah (0:Int))/\ah (i64.wrap ((1:Int)+r))/\aX=aX/\an/\an/\ah (0:Int))/\(decide (i64.wrap ((1:Int)+r)=(5:Int))=false->∃(x':Bool),True/\(x=x/\bS=bS/\ah (i64.wrap ((1:Int)+r))/\decide (i64.wrap ((1:Int)+r)=(10:Int))=x')/\(g.1=g.1/\ah g.2.1/\ah g.2.2)/\(ah (0:Int)/\ah (0:Int)/\an/\an/\ah (0:Int))/\ah (i64.wrap ((1:Int)+r))/\aX=aX/\an/\an/\ah (0:Int)))/\∀(x_3:Bool),True->(x_3=true->((af g/\∀(g:List Int×Int×Int) (aM:Int),af g/\aA (i64.wrap (x+(1:Int))) aM->Ty.wf ar g->Ty.wf ai aM->(af g/\aM<=(1100:Int))/\∀(g:List Int×Int×Int) (aD:List Int),af g/\aj (1100:Nat) aD/\aD.length=aM.toNat->Ty.wf ar g->Ty.wf al aD->aD.length<=(1048576:Nat)/\(Ty.wf al (bj aD)->∃(x':(List Int×Int×Int)×Int×Int×List Int×List Int×Int),(af x'.1/\aj (1100:Nat) x'.2.2.2.1/\aj (1100:Nat) x'.2.2.2.2.1)/\x=x/\(g.1=x'.1.1/\g.2.1=x'.1.2.1/\g.2.2=x'.1.2.2)/\(ah (0:Int)/\ah (0:Int)/\an/\an/\ah (0:Int))/\(i64.wrap ((1:Int)+r)=x'.2.1/\aX=x'.2.2.1/\(0:Int)=x'.2.2.2.2.2)/\bj aD=x'.2.2.2.1/\x'.2.2.2.2.1=[]))/\(af g/\∀(g:List Int×Int×Int) (aM:Int),af g/\aA (i64.wrap (x+(1:Int))) aM->Ty.wf ar g->Ty.wf ai aM->(af g/\aM<=(1100:Int))/\∀(g:List Int×Int×Int) (aD:List Int),af g/\aj (1100:Nat) aD/\aD.length=aM.toNat->Ty.wf ar g->Ty.wf al aD->aD.length<=(1048576:Nat)/\(Ty.wf al (bj aD)->∃(x':(List Int×Int×Int)×Int×Int×List Int×List Int×Int),(af x'.1/\aj (1100:Nat) x'.2.2.2.1/\aj (1100:Nat) x'.2.2.2.2.1)/\x=x/\(g.1=x'.1.1/\g.2.1=x'.1.2.1/\g.2.2=x'.1.2.2)/\(ah (0:Int)/\ah (0:Int)/\an/\an/\ah (0:Int))/\(i64.wrap ((1:Int)+r)=x'.2.1/\aX=x'.2.2.1/\(0:Int)=x'.2.2.2.2.2)/\bj aD=x'.2.2.2.1/\x'.2.2.2.2.1=[]))/\af g/\∀(g:List Int×Int×Int) (aM:Int),af g/\aA (i64.wrap (x+(1:Int))) aM->Ty.wf ar g->Ty.wf ai aM->(af g/\aM<=(1100:Int))/\∀(g:List Int×Int×Int) (aD:List Int),af g/\aj (1100:Nat) aD/\aD.length=aM.toNat->Ty.wf ar g->Ty.wf al aD->aD.length<=(1048576:Nat)/\(Ty.wf al (bj aD)->∃(x':(List Int×Int×Int)×Int×Int×List Int×List Int×Int),(af x'.1/\aj (1100:Nat) x'.2.2.2.1/\aj (1100:Nat) x'.2.2.2.2.1)/\x=x/\(g.1=x'.1.1/\g.2.1=x'.1.2.1/\g.2.2=x'.1.2.2)/\(ah (0:Int)/\ah (0:Int)/\an/\an/\ah (0:Int))/\(i64.wrap ((1:Int)+r)=x'.2.1/\aX=x'.2.2.1/\(0:Int)=x'.2.2.2.2.2)/\bj aD=x'.2.2.2.1/\x'.2.2.2.2.1=[]))/\∀(x_4:(List Int×Int×Int)×Int×Int×List Int×List Int×Int),af x_4.1/\aj (1100:Nat) x_4.2.2.2.1/\aj (1100:Nat) x_4.2.2.2.2.1->((2:Int)≠(0:Int)/\af x_4.1/\∀(g:List Int×Int×Int) (r:Int),af g/\aA (i64.wrap (i64.wrap (Int.tdiv x (2:Int))+(2:Int))) r->Ty.wf ar g->Ty.wf ai r->(af g/\r<=(1100:Int))/\∀(g:List Int×Int×Int) (aM:List Int),af g/\aj (1100:Nat) aM/\aM.length=r.toNat->Ty.wf ar g->Ty.wf al aM->aM.length<=(1048576:Nat)/\(Ty.wf al (bj aM)->∃(x':(List Int×Int×Int)×Int×Int×List Int×List Int×Int),(af x'.1/\aj (1200:Nat) x'.2.2.2.1/\aj (1200:Nat) x'.2.2.2.2.1)/\x=x/\(g.1=x'.1.1/\g.2.1=x'.1.2.1/\g.2.2=x'.1.2.2)/\(ah (0:Int)/\ah (0:Int)/\an/\an/\ah (0:Int))/\(x_4.2.1=x'.2.1/\x_4.2.2.1=x'.2.2.1/\x_4.2.2.2.2.2=x'.2.2.2.2.2)/\x_4.2.2.2.1=x'.2.2.2.1/\bj aM=x'.2.2.2.2.1))/\(2:Int)≠(0:Int)/\(af x_4.1/\∀(g:List Int×Int×Int) (r:Int),af g/\aA (i64.wrap (i64.wrap (Int.tdiv x (2:Int))+(2:Int))) r->Ty.wf ar g->Ty.wf ai r->(af g/\r<=(1100:Int))/\∀(g:List Int×Int×Int) (aM:List Int),af g/\aj (1100:Nat) aM/\aM.length=r.toNat->Ty.wf ar g->Ty.wf al aM->aM.length<=(1048576:Nat)/\(Ty.wf al (bj aM)->∃(x':(List Int×Int×Int)×Int×Int×List Int×List Int×Int),(af x'.1/\aj (1200:Nat) x'.2.2.2.1/\aj (1200:Nat) x'.2.2.2.2.1)/\x=x/\(g.1=x'.1.1/\g.2.1=x'.1.2.1/\g.2.2=x'.1.2.2)/\(ah (0:Int)/\ah (0:Int)/\an/\an/\ah (0:Int))/\(x_4.2.1=x'.2.1/\x_4.2.2.1=x'.2.2.1/\x_4.2.2.2.2.2=x'.2.2.2.2.2)/\x_4.2.2.2.1=x'.2.2.2.1/\bj aM=x'.2.2.2.2.1))/\(af x_4.1/\∀(g:List Int×Int×Int) (r:Int),af g/\aA (i64.wrap (i64.wrap (Int.tdiv x (2:Int))+(2:Int))) r->Ty.wf ar g->Ty.wf ai r->(af g/\r<=(1100:Int))/\∀(g:List Int×Int×Int) (aM:List Int),af g/\aj (1100:Nat) aM/\aM.length=r.toNat->Ty.wf ar g->Ty.wf al aM->aM.length<=(1048576:Nat)/\(Ty.wf al (bj aM)->∃(x':(List Int×Int×Int)×Int×Int×List Int×List Int×Int),(af x'.1/\aj (1200:Nat) x'.2.2.2.1/\aj (1200:Nat) x'.2.2.2.2.1)/\x=x/\(g.1=x'.1.1/\g.2.1=x'.1.2.1/\g.2.2=x'.1.2.2)/\(ah (0:Int)/\ah (0:Int)/\an/\an/\ah (0:Int))/\(x_4.2.1=x'.2.1/\x_4.2.2.1=x'.2.2.1/\x_4.2.2.2.2.2=x'.2.2.2.2.2)/\x_4.2.2.2.1=x'.2.2.2.1/\bj aM=x'.2.2.2.2.1))/\af x_4.1/\∀(g:List Int×Int×Int) (r:Int),af g/\aA (i64.wrap (i64.wrap (Int.tdiv x (2:Int))+(2:Int))) r->Ty.wf ar g->Ty.wf ai r->(af g/\r<=(1100:Int))/\∀(g:List Int×Int×Int) (aM:List Int),af g/\aj (1100:Nat) aM/\aM.length=r.toNat->Ty.wf ar g->Ty.wf al aM->aM.length<=(1048576:Nat)/\(Ty.wf al (bj aM)->∃(x':(List Int×Int×Int)×Int×Int×List Int×List Int×Int),(af x'.1/\aj (1200:Nat) x'.2.2.2.1/\aj (1200:Nat) x'.2.2.2.2.1)/\x=x/\(g.1=x'.1.1/\g.2.1=x'.1.2.1/\g.2.2=x'.1.2.2)/\(ah (0:Int)/\ah (0:Int)/\an/\an/\ah (0:Int))/\(x_4.2.1=x'.2.1/\x_4.2.2.1=x'.2.2.1/\x_4.2.2.2.2.2=x'.2.2.2.2.2)/\x_4.2.2.2.1=x'.2.2.2.1/\bj aM=x'.2.2.2.2.1))/\(x_3=false->(decide (i64.wrap ((1:Int)+r)=(6:Int))=true->af g/\∀(g:List Int×Int×Int) (aM:Int),af g/\aA (i64.wrap (x+(1:Int))) aM->Ty.wf ar g->Ty.wf ai aM->(af g/\aM<=(1100:Int))/\∀(g:List Int×Int×Int) (aD:List Int),af g/\aj (1100:Nat) aD->Ty.wf ar g->Ty.wf al aD->af g/\∀(g:List Int×Int×Int) (bY:Int),af g/\aA (i64.wrap (x+(1:Int))) bY->Ty.wf ar g->Ty.wf ai bY->(af g/\bY<=(1100:Int))/\∀(g:List Int×Int×Int) (aT:List Int),af g/\aj (1100:Nat) aT->Ty.wf ar g->Ty.wf al aT->∃(x':(List Int×Int×Int)×Int×Int×List Int×List Int×Int),(af x'.1/\aj (1200:Nat) x'.2.2.2.1/\aj (1200:Nat) x'.2.2.2.2.1)/\x=x/\(g.1=x'.1.1/\g.2.1=x'.1.2.1/\g.2.2=x'.1.2.2)/\(ah (0:Int)/\ah (0:Int)/\an/\an/\ah (0:Int))/\(i64.wrap ((1:Int)+r)=x'.2.1/\(0:Int)=x'.2.2.1/\(0:Int)=x'.2.2.2.2.2)/\aD=x'.2.2.2.1/\aT=x'.2.2.2.2.1)/\(decide (i64.wrap ((1:Int)+r)=(6:Int))=false->(decide (i64.wrap ((1:Int)+r)=(7:Int))=true->(af g/\∀(g:List Int×Int×Int) (aM:Int),af g/\aA x aM->Ty.wf ar g->Ty.wf ai aM->(af g/\∀(g:List Int×Int×Int) (aD:Int),af g/\aA (3:Int) aD->Ty.wf ar g->Ty.wf ai aD->(af g/\i64.wrap ((1:Int)+aM)<=(1100:Int))/\∀(g:List Int×Int×Int) (bY:List Int),af g/\aj (1100:Nat) bY->Ty.wf ar g->Ty.wf al bY->∃(x':(List Int×Int×Int)×Int×Int×List Int×List Int×Int),(af x'.1/\aj (1200:Nat) x'.2.2.2.1/\aj (1200:Nat) x'.2.2.2.2.1)/\x=x/\(g.1=x'.1.1/\g.2.1=x'.1.2.1/\g.2.2=x'.1.2.2)/\(ah (0:Int)/\ah (0:Int)/\an/\an/\ah (0:Int))/\(i64.wrap ((1:Int)+r)=x'.2.1/\aX=x'.2.2.1/\(0:Int)=x'.2.2.2.2.2)/\bY=x'.2.2.2.1/\x'.2.2.2.2.1=[])/\af g/\∀(g:List Int×Int×Int) (aD:Int),af g/\aA (3:Int) aD->Ty.wf ar g->Ty.wf ai aD->((af g/\i64.wrap ((1:Int)+aM)<=(1100:Int))/\∀(g:List Int×Int×Int) (bY:List Int),af g/\aj (1100:Nat) bY->Ty.wf ar g->Ty.wf al bY->∃(x':(List Int×Int×Int)×Int×Int×List Int×List Int×Int),(af x'.1/\aj (1200:Nat) x'.2.2.2.1/\aj (1200:Nat) x'.2.2.2.2.1)/\x=x/\(g.1=x'.1.1/\g.2.1=x'.1.2.1/\g.2.2=x'.1.2.2)/\(ah (0:Int)/\ah (0:Int)/\an/\an/\ah (0:Int))/\(i64.wrap ((1:Int)+r)=x'.2.1/\aX=x'.2.2.1/\(0:Int)=x'.2.2.2.2.2)/\bY=x'.2.2.2.1/\x'.2.2.2.2.1=[])/\(af g/\i64.wrap ((1:Int)+aM)<=(1100:Int))/\∀(g:List Int×Int×Int) (bY:List Int),af g/\aj (1100:Nat) bY->Ty.wf ar g->Ty.wf al bY->∃(x':(List Int×Int×Int)×Int×Int×List Int×List Int×Int),(af x'.1/\aj (1200:Nat) x'.2.2.2.1/\aj (1200:Nat) x'.2.2.2.2.1)/\x=x/\(g.1=x'.1.1/\g.2.1=x'.1.2.1/\g.2.2=x'.1.2.2)/\(ah (0:Int)/\ah (0:Int)/\an/\an/\ah (0:Int))/\(i64.wrap ((1:Int)+r)=x'.2.1/\aX=x'.2.2.1/\(0:Int)=x'.2.2.2.2.2)/\bY=x'.2.2.2.1/\x'.2.2.2.2.1=[])/\af g/\∀(g:List Int×Int×Int) (aM:Int),af g/\aA x aM->Ty.wf ar g->Ty.wf ai aM->((af g/\∀(g:List Int×Int×Int) (aD:Int),af g/\aA (3:Int) aD->Ty.wf ar g->Ty.wf ai aD->(af g/\i64.wrap ((1:Int)+aM)<=(1100:Int))/\∀(g:List Int×Int×Int) (bY:List Int),af g/\aj (1100:Nat) bY->Ty.wf ar g->Ty.wf al bY->∃(x':(List Int×Int×Int)×Int×Int×List Int×List Int×Int),(af x'.1/\aj (1200:Nat) x'.2.2.2.1/\aj (1200:Nat) x'.2.2.2.2.1)/\x=x/\(g.1=x'.1.1/\g.2.1=x'.1.2.1/\g.2.2=x'.1.2.2)/\(ah (0:Int)/\ah (0:Int)/\an/\an/\ah (0:Int))/\(i64.wrap ((1:Int)+r)=x'.2.1/\aX=x'.2.2.1/\(0:Int)=x'.2.2.2.2.2)/\bY=x'.2.2.2.1/\x'.2.2.2.2.1=[])/\af g/\∀(g:List Int×Int×Int) (aD:Int),af g/\aA (3:Int) aD->Ty.wf ar g->Ty.wf ai aD->((af g/\i64.wrap ((1:Int)+aM)<=(1100:Int))/\∀(g:List Int×Int×Int) (bY:List Int),af g/\aj (1100:Nat) bY->Ty.wf ar g->Ty.wf al bY->∃(x':(List Int×Int×Int)×Int×Int×List Int×List Int×Int),(af x'.1/\aj (1200:Nat) x'.2.2.2.1/\aj (1200:Nat) x'.2.2.2.2.1)/\x=x/\(g.1=x'.1.1/\g.2.1=x'.1.2.1/\g.2.2=x'.1.2.2)/\(ah (0:Int)/\ah (0:Int)/\an/\an/\ah (0:Int))/\(i64.wrap ((1:Int)+r)=x'.2.1/\aX=x'.2.2.1/\(0:Int)=x'.2.2.2.2.2)/\bY=x'.2.2.2.1/\x'.2.2.2.2.1=[])/\(af g/\i64.wrap ((1:Int)+aM)<=(1100:Int))/\∀(g:List Int×Int×Int) (bY:List Int),af g/\aj (1100:Nat) bY->Ty.wf ar g->Ty.wf al bY->∃(x':(List Int×Int×Int)×Int×Int×List Int×List Int×Int),(af x'.1/\aj (1200:Nat) x'.2.2.2.1/\aj (1200:Nat) x'.2.2.2.2.1)/\x=x/\(g.1=x'.1.1/\g.2.1=x'.1.2.1/\g.2.2=x'.1.2.2)/\(ah (0:Int)/\ah (0:Int)/\an/\an/\ah (0:Int))/\(i64.wrap ((1:Int)+r)=x'.2.1/\aX=x'.2.2.1/\(0:Int)=x'.2.2.2.2.2)/\bY=x'.2.2.2.1/\x'.2.2.2.2.1=[])/\((af g/\∀(g:List Int×Int×Int) (aD:Int),af g/\aA (3:Int) aD->Ty.wf ar g->Ty.wf ai aD->(af g/\i64.wrap ((1:Int)+aM)<=(1100:Int))/\∀(g:List Int×Int×Int) (bY:List Int),af g/\aj (1100:Nat) bY->Ty.wf ar g->Ty.wf al bY->∃(x':(List Int×Int×Int)×Int×Int×List Int×List Int×Int),(af x'.1/\aj (1200:Nat) x'.2.2.2.1/\aj (1200:Nat) x'.2.2.2.2.1)/\x=x/\(g.1=x'.1.1/\g.2.1=x'.1.2.1/\g.2.2=x'.1.2.2)/\(ah (0:Int)/\ah (0:Int)/\an/\an/\ah (0:Int))/\(i64.wrap ((1:Int)+r)=x'.2.1/\aX=x'.2.2.1/\(0:Int)=x'.2.2.2.2.2)/\bY=x'.2.2.2.1/\x'.2.2.2.2.1=[])/\af g/\∀(g:List Int×Int×Int) (aD:Int),af g/\aA (3:Int) aD->Ty.wf ar g->Ty.wf ai aD->((af g/\i64.wrap ((1:Int)+aM)<=(1100:Int))/\∀(g:List Int×Int×Int) (bY:List Int),af g/\aj (1100:Nat) bY->Ty.wf ar g->Ty.wf al bY->∃(x':(List Int×Int×Int)×Int×Int×List Int×List Int×Int),(af x'.1/\aj (1200:Nat) x'.2.2.2.1/\aj (1200:Nat) x'.2.2.2.2.1)/\x=x/\(g.1=x'.1.1/\g.2.1=x'.1.2.1/\g.2.2=x'.1.2.2)/\(ah (0:Int)/\ah (0:Int)/\an/\an/\ah (0:Int))/\(i64.wrap ((1:Int)+r)=x'.2.1/\aX=x'.2.2.1/\(0:Int)=x'.2.2.2.2.2)/\bY=x'.2.2.2.1/\x'.2.2.2.2.1=[])/\(af g/\i64.wrap ((1:Int)+aM)<=(1100:Int))/\∀(g:List Int×Int×Int) (bY:List Int),af g/\aj (1100:Nat) bY->Ty.wf ar g->Ty.wf al bY->∃(x':(List Int×Int×Int)×Int×Int×List Int×List Int×Int),(af x'.1/\aj (1200:Nat) x'.2.2.2.1/\aj (1200:Nat) x'.2.2.2.2.1)/\x=x/\(g.1=x'.1.1/\g.2.1=x'.1.2.1/\g.2.2=x'.1.2.2)/\(ah (0:Int)/\ah (0:Int)/\an/\an/\ah (0:Int))/\(i64.wrap ((1:Int)+r)=x'.2.1/\aX=x'.2.2.1/\(0:Int)=x'.2.2.2.2.2)/\bY=x'.2.2.2.1/\x'.2.2.2.2.1=[])/\af g/\∀(g:List Int×Int×Int) (aD:Int),af g/\aA (3:Int) aD->Ty.wf ar g->Ty.wf ai aD->(((af g/\i64.wrap ((1:Int)+aM)<=(1100:Int))/\∀(g:List Int×Int×Int) (bY:List Int),af g/\aj (1100:Nat) bY->Ty.wf ar g->Ty.wf al bY->∃(x':(List Int×Int×Int)×Int×Int×List Int×List Int×Int),(af x'.1/\aj (1200:Nat) x'.2.2.2.1/\aj (1200:Nat) x'.2.2.2.2.1)/\x=x/\(g.1=x'.1.1/\g.2.1=x'.1.2.1/\g.2.2=x'.1.2.2)/\(ah (0:Int)/\ah (0:Int)/\an/\an/\ah (0:Int))/\(i64.wrap ((1:Int)+r)=x'.2.1/\aX=x'.2.2.1/\(0:Int)=x'.2.2.2.2.2)/\bY=x'.2.2.2.1/\x'.2.2.2.2.1=[])/\(af g/\i64.wrap ((1:Int)+aM)<=(1100:Int))/\∀(g:List Int×Int×Int) (bY:List Int),af g/\aj (1100:Nat) bY->Ty.wf ar g->Ty.wf al bY->∃(x':(List Int×Int×Int)×Int×Int×List Int×List Int×Int),(af x'.1/\aj (1200:Nat) x'.2.2.2.1/\aj (1200:Nat) x'.2.2.2.2.1)/\x=x/\(g.1=x'.1.1/\g.2.1=x'.1.2.1/\g.2.2=x'.1.2.2)/\(ah (0:Int)/\ah (0:Int)/\an/\an/\ah (0:Int))/\(i64.wrap ((1:Int)+r)=x'.2.1/\aX=x'.2.2.1/\(0:Int)=x'.2.2.2.2.2)/\bY=x'.2.2.2.1/\x'.2.2.2.2.1=[])/\(((af g/\i64.wrap ((1:Int)+aM)<=(1100:Int))/\∀(g:List Int×Int×Int) (bY:List Int),af g/\aj (1100:Nat) bY->Ty.wf ar g->Ty.wf al bY->∃(x':(List Int×Int×Int)×Int×Int×List Int×List Int×Int),(af x'.1/\aj (1200:Nat) x'.2.2.2.1/\aj (1200:Nat) x'.2.2.2.2.1)/\x=x/\(g.1=x'.1.1/\g.2.1=x'.1.2.1/\g.2.2=x'.1.2.2)/\(ah (0:Int)/\ah (0:Int)/\an/\an/\ah (0:Int))/\(i64.wrap ((1:Int)+r)=x'.2.1/\aX=x'.2.2.1/\(0:Int)=x'.2.2.2.2.2)/\bY=x'.2.2.2.1/\x'.2.2.2.2.1=[])/\(af g/\i64.wrap ((1:Int)+aM)<=(1100:Int))/\∀(g:List Int×Int×Int) (bY:List Int),af g/\aj (1100:Nat) bY->Ty.wf ar g->Ty.wf al bY->∃(x':(List Int×Int×Int)×Int×Int×List Int×List Int×Int),(af x'.1/\aj (1200:Nat) x'.2.2.2.1/\aj (1200:Nat) x'.2.2.2.2.1)/\x=x/\(g.1=x'.1.1/\g.2.1=x'.1.2.1/\g.2.2=x'.1.2.2)/\(ah (0:Int)/\ah (0:Int)/\an/\an/\ah (0:Int))/\(i64.wrap ((1:Int)+r)=x'.2.1/\aX=x'.2.2.1/\(0:Int)=x'.2.2.2.2.2)/\bY=x'.2.2.2.1/\x'.2.2.2.2.1=[])/\((af g/\i64.wrap ((1:Int)+aM)<=(1100:Int))/\∀(g:List Int×Int×Int) (bY:List Int),af g/\aj (1100:Nat) bY->Ty.wf ar g->Ty.wf al bY->∃(x':(List Int×Int×Int)×Int×Int×List Int×List Int×Int),(af x'.1/\aj (1200:Nat) x'.2.2.2.1/\aj (1200:Nat) x'.2.2.2.2.1)/\x=x/\(g.1=x'.1.1/\g.2.1=x'.1.2.1/\g.2.2=x'.1.2.2)/\(ah (0:Int)/\ah (0:Int)/\an/\an/\ah (0:Int))/\(i64.wrap ((1:Int)+r)=x'.2.1/\aX=x'.2.2.1/\(0:Int)=x'.2.2.2.2.2)/\bY=x'.2.2.2.1/\x'.2.2.2.2.1=[])/\(af g/\i64.wrap ((1:Int)+aM)<=(1100:Int))/\∀(g:List Int×Int×Int) (bY:List Int),af g/\aj (1100:Nat) bY->Ty.wf ar g->Ty.wf al bY->∃(x':(List Int×Int×Int)×Int×Int×List Int×List Int×Int),(af x'.1/\aj (1200:Nat) x'.2.2.2.1/\aj (1200:Nat) x'.2.2.2.2.1)/\x=x/\(g.1=x'.1.1/\g.2.1=x'.1.2.1/\g.2.2=x'.1.2.2)/\(ah (0:Int)/\ah (0:Int)/\an/\an/\ah (0:Int))/\(i64.wrap ((1:Int)+r)=x'.2.1/\aX=x'.2.2.1/\(0:Int)=x'.2.2.2.2.2)/\bY=x'.2.2.2.1/\x'.2.2.2.2.1=[])/\(decide (i64.wrap ((1:Int)+r)=(7:Int))=false->(decide (i64.wrap ((1:Int)+r)=(8:Int))=true->((af g/\∀(g:List Int×Int×Int) (aM:Int),af g/\aA (i64.wrap (x+(1:Int))) aM->Ty.wf ar g->Ty.wf ai aM->(af g/\aM<=(1100:Int))/\∀(g:List Int×Int×Int) (aD:List Int),af g/\aj (1100:Nat) aD/\aD.length=aM.toNat->Ty.wf ar g->Ty.wf al aD->aD.length<=(1048576:Nat)/\(Ty.wf al (bj aD)->∃(x':(List Int×Int×Int)×Int×Int×List Int×List Int×Int),(af x'.1/\aj (1100:Nat) x'.2.2.2.1/\aj (1100:Nat) x'.2.2.2.2.1)/\x=x/\(g.1=x'.1.1/\g.2.1=x'.1.2.1/\g.2.2=x'.1.2.2)/\(ah (0:Int)/\ah (0:Int)/\an/\an/\ah (0:Int))/\(i64.wrap ((1:Int)+r)=x'.2.1/\aX=x'.2.2.1/\(0:Int)=x'.2.2.2.2.2)/\bj aD=x'.2.2.2.1/\x'.2.2.2.2.1=[]))/\(af g/\∀(g:List Int×Int×Int) (aM:Int),af g/\aA (i64.wrap (x+(1:Int))) aM->Ty.wf ar g->Ty.wf ai aM->(af g/\aM<=(1100:Int))/\∀(g:List Int×Int×Int) (aD:List Int),af g/\aj (1100:Nat) aD/\aD.length=aM.toNat->Ty.wf ar g->Ty.wf al aD->aD.length<=(1048576:Nat)/\(Ty.wf al (bj aD)->∃(x':(List Int×Int×Int)×Int×Int×List Int×List Int×Int),(af x'.1/\aj (1100:Nat) x'.2.2.2.1/\aj (1100:Nat) x'.2.2.2.2.1)/\x=x/\(g.1=x'.1.1/\g.2.1=x'.1.2.1/\g.2.2=x'.1.2.2)/\(ah (0:Int)/\ah (0:Int)/\an/\an/\ah (0:Int))/\(i64.wrap ((1:Int)+r)=x'.2.1/\aX=x'.2.2.1/\(0:Int)=x'.2.2.2.2.2)/\bj aD=x'.2.2.2.1/\x'.2.2.2.2.1=[]))/\af g/\∀(g:List Int×Int×Int) (aM:Int),af g/\aA (i64.wrap (x+(1:Int))) aM->Ty.wf ar g->Ty.wf ai aM->(af g/\aM<=(1100:Int))/\∀(g:List Int×Int×Int) (aD:List Int),af g/\aj (1100:Nat) aD/\aD.length=aM.toNat->Ty.wf ar g->Ty.wf al aD->aD.length<=(1048576:Nat)/\(Ty.wf al (bj aD)->∃(x':(List Int×Int×Int)×Int×Int×List Int×List Int×Int),(af x'.1/\aj (1100:Nat) x'.2.2.2.1/\aj (1100:Nat) x'.2.2.2.2.1)/\x=x/\(g.1=x'.1.1/\g.2.1=x'.1.2.1/\g.2.2=x'.1.2.2)/\(ah (0:Int)/\ah (0:Int)/\an/\an/\ah (0:Int))/\(i64.wrap ((1:Int)+r)=x'.2.1/\aX=x'.2.2.1/\(0:Int)=x'.2.2.2.2.2)/\bj aD=x'.2.2.2.1/\x'.2.2.2.2.1=[]))/\∀(x_4:(List Int×Int×Int)×Int×Int×List Int×List Int×Int),af x_4.1/\aj (1100:Nat) x_4.2.2.2.1/\aj (1100:Nat) x_4.2.2.2.2.1->(af x_4.1/\∀(g:List Int×Int×Int) (r:Int),af g/\aA (i64.wrap (x+(1:Int))) r->Ty.wf ar g->Ty.wf ai r->(af g/\r<=(1100:Int))/\∀(g:List Int×Int×Int) (aM:List Int),af g/\aj (1100:Nat) aM/\aM.length=r.toNat->Ty.wf ar g->Ty.wf al aM->∃(x':(List Int×Int×Int)×Int×Int×List Int×List Int×Int),(af x'.1/\aj (1200:Nat) x'.2.2.2.1/\aj (1200:Nat) x'.2.2.2.2.1)/\x=x/\(g.1=x'.1.1/\g.2.1=x'.1.2.1/\g.2.2=x'.1.2.2)/\(ah (0:Int)/\ah (0:Int)/\an/\an/\ah (0:Int))/\(x_4.2.1=x'.2.1/\x_4.2.2.1=x'.2.2.1/\x_4.2.2.2.2.2=x'.2.2.2.2.2)/\x_4.2.2.2.1=x'.2.2.2.1/\aM=x'.2.2.2.2.1)/\(af x_4.1/\∀(g:List Int×Int×Int) (r:Int),af g/\aA (i64.wrap (x+(1:Int))) r->Ty.wf ar g->Ty.wf ai r->(af g/\r<=(1100:Int))/\∀(g:List Int×Int×Int) (aM:List Int),af g/\aj (1100:Nat) aM/\aM.length=r.toNat->Ty.wf ar g->Ty.wf al aM->∃(x':(List Int×Int×Int)×Int×Int×List Int×List Int×Int),(af x'.1/\aj (1200:Nat) x'.2.2.2.1/\aj (1200:Nat) x'.2.2.2.2.1)/\x=x/\(g.1=x'.1.1/\g.2.1=x'.1.2.1/\g.2.2=x'.1.2.2)/\(ah (0:Int)/\ah (0:Int)/\an/\an/\ah (0:Int))/\(x_4.2.1=x'.2.1/\x_4.2.2.1=x'.2.2.1/\x_4.2.2.2.2.2=x'.2.2.2.2.2)/\x_4.2.2.2.1=x'.2.2.2.1/\aM=x'.2.2.2.2.1)/\af x_4.1/\∀(g:List Int×Int×Int) (r:Int),af g/\aA (i64.wrap (x+(1:Int))) r->Ty.wf ar g->Ty.wf ai r->(af g/\r<=(1100:Int))/\∀(g:List Int×Int×Int) (aM:List Int),af g/\aj (1100:Nat) aM/\aM.length=r.toNat->Ty.wf ar g->Ty.wf al aM->∃(x':(List Int×Int×Int)×Int×Int×List Int×List Int×Int),(af x'.1/\aj (1200:Nat) x'.2.2.2.1/\aj (1200:Nat) x'.2.2.2.2.1)/\x=x/\(g.1=x'.1.1/\g.2.1=x'.1.2.1/\g.2.2=x'.1.2.2)/\(ah (0:Int)/\ah (0:Int)/\an/\an/\ah (0:Int))/\(x_4.2.1=x'.2.1/\x_4.2.2.1=x'.2.2.1/\x_4.2.2.2.2.2=x'.2.2.2.2.2)/\x_4.2.2.2.1=x'.2.2.2.1/\aM=x'.2.2.2.2.1)/\(decide (i64.wrap ((1:Int)+r)=(8:Int))=false->(decide (i64.wrap ((1:Int)+r)=(9:Int))=true->((af g/\∀(g:List Int×Int×Int) (aM:Int),af g/\aA x aM->Ty.wf ar g->Ty.wf ai aM->(af g/\i64.wrap ((1:Int)+aM)<=(1000:Int))/\∀(g:List Int×Int×Int) (aD:List Int),af g/\aj (1000:Nat) aD/\((1:Int)<=i64.wrap ((1:Int)+aM)->(1:Nat)<=aD.length)->Ty.wf ar g->Ty.wf al aD->∃(x':(List Int×Int×Int)×Int×Int×List Int×List Int×Int),(af x'.1/\aj (1000:Nat) x'.2.2.2.1/\aj (1000:Nat) x'.2.2.2.2.1)/\x=x/\(g.1=x'.1.1/\g.2.1=x'.1.2.1/\g.2.2=x'.1.2.2)/\(ah (0:Int)/\ah (0:Int)/\an/\an/\ah (0:Int))/\(i64.wrap ((1:Int)+r)=x'.2.1/\aX=x'.2.2.1/\(0:Int)=x'.2.2.2.2.2)/\aD=x'.2.2.2.1/\x'.2.2.2.2.1=[])/\af g/\∀(g:List Int×Int×Int) (aM:Int),af g/\aA x aM->Ty.wf ar g->Ty.wf ai aM->((af g/\i64.wrap ((1:Int)+aM)<=(1000:Int))/\∀(g:List Int×Int×Int) (aD:List Int),af g/\aj (1000:Nat) aD/\((1:Int)<=i64.wrap ((1:Int)+aM)->(1:Nat)<=aD.length)->Ty.wf ar g->Ty.wf al aD->∃(x':(List Int×Int×Int)×Int×Int×List Int×List Int×Int),(af x'.1/\aj (1000:Nat) x'.2.2.2.1/\aj (1000:Nat) x'.2.2.2.2.1)/\x=x/\(g.1=x'.1.1/\g.2.1=x'.1.2.1/\g.2.2=x'.1.2.2)/\(ah (0:Int)/\ah (0:Int)/\an/\an/\ah (0:Int))/\(i64.wrap ((1:Int)+r)=x'.2.1/\aX=x'.2.2.1/\(0:Int)=x'.2.2.2.2.2)/\aD=x'.2.2.2.1/\x'.2.2.2.2.1=[])/\(af g/\i64.wrap ((1:Int)+aM)<=(1000:Int))/\∀(g:List Int×Int×Int) (aD:List Int),af g/\aj (1000:Nat) aD/\((1:Int)<=i64.wrap ((1:Int)+aM)->(1:Nat)<=aD.length)->Ty.wf ar g->Ty.wf al aD->∃(x':(List Int×Int×Int)×Int×Int×List Int×List Int×Int),(af x'.1/\aj (1000:Nat) x'.2.2.2.1/\aj (1000:Nat) x'.2.2.2.2.1)/\x=x/\(g.1=x'.1.1/\g.2.1=x'.1.2.1/\g.2.2=x'.1.2.2)/\(ah (0:Int)/\ah (0:Int)/\an/\an/\ah (0:Int))/\(i64.wrap ((1:Int)+r)=x'.2.1/\aX=x'.2.2.1/\(0:Int)=x'.2.2.2.2.2)/\aD=x'.2.2.2.1/\x'.2.2.2.2.1=[])/\∀(x_4:(List Int×Int×Int)×Int×Int×List Int×List Int×Int),af x_4.1/\aj (1000:Nat) x_4.2.2.2.1/\aj (1000:Nat) x_4.2.2.2.2.1->(af x_4.1/\(x_4.2.2.2.1.length:Int)<=(1100:Int))/\∀(g:List Int×Int×Int) (r:List Int),af g/\aj (1100:Nat) r/\r.length=(x_4.2.2.2.1.length:Int).toNat->Ty.wf ar g->Ty.wf al r->∃(x':(List Int×Int×Int)×Int×Int×List Int×List Int×Int),(af x'.1/\aj (1200:Nat) x'.2.2.2.1/\aj (1200:Nat) x'.2.2.2.2.1)/\x=x/\(g.1=x'.1.1/\g.2.1=x'.1.2.1/\g.2.2=x'.1.2.2)/\(ah (0:Int)/\ah (0:Int)/\an/\an/\ah (0:Int))/\(x_4.2.1=x'.2.1/\x_4.2.2.1=x'.2.2.1/\x_4.2.2.2.2.2=x'.2.2.2.2.2)/\x_4.2.2.2.1=x'.2.2.2.1/\r=x'.2.2.2.2.1)/\(decide (i64.wrap ((1:Int)+r)=(9:Int))=false->(decide (i64.wrap ((1:Int)+r)=(11:Int))=true->af g/\∀(g:List Int×Int×Int) (aM:Int×List Int×List Int×Int×List Int),af g/\Ob aM->Ty.wf ar g->Ty.wf ai aM.1/\Ty.wf al aM.2.1/\Ty.wf al aM.2.2.1/\Ty.wf ai aM.2.2.2.1/\Ty.wf al aM.2.2.2.2->∃(x':(List Int×Int×Int)×Int×Int×List Int×List Int×Int),(af x'.1/\aj (1200:Nat) x'.2.2.2.1/\aj (1200:Nat) x'.2.2.2.2.1)/\x=x/\(g.1=x'.1.1/\g.2.1=x'.1.2.1/\g.2.2=x'.1.2.2)/\(ah (0:Int)/\ah (0:Int)/\an/\an/\ah (0:Int))/\(i64.wrap ((1:Int)+r)=x'.2.1/\aM.1=x'.2.2.1/\aM.2.2.2.1=x'.2.2.2.2.2)/\aM.2.1=x'.2.2.2.1/\aM.2.2.1=x'.2.2.2.2.1)/\(decide (i64.wrap ((1:Int)+r)=(11:Int))=false->∃(x':(List Int×Int×Int)×Int×Int×List Int×List Int×Int),(af x'.1/\aj (1200:Nat) x'.2.2.2.1/\aj (1200:Nat) x'.2.2.2.2.1)/\x=x/\(g.1=x'.1.1/\g.2.1=x'.1.2.1/\g.2.2=x'.1.2.2)/\(ah (0:Int)/\ah (0:Int)/\an/\an/\ah (0:Int))/\(i64.wrap ((1:Int)+r)=x'.2.1/\aX=x'.2.2.1/\(0:Int)=x'.2.2.2.2.2)/\x'.2.2.2.1=[]/\x'.2.2.2.2.1=[])))))))))/\∀(x_1:(List Int×Int×Int)×Int×Int×List Int×List Int×Int),af x_1.1/\aj (1200:Nat) x_1.2.2.2.1/\aj (1200:Nat) x_1.2.2.2.2.1->af x_1.1/\∀(g:List Int×Int×Int) (r:Bool),af g->Ty.wf ar g->Ty.wf Ty.bool r->(r=true->af g/\∀(g:List Int×Int×Int) (aM:Int),af g/\aA (5:Int) aM->Ty.wf ar g->Ty.wf ai aM->(decide (aM=(0:Int))=true->af g/\∀(g:List Int×Int×Int) (aD:Int),af g/\aA (11:Int) aD->Ty.wf ar g->Ty.wf ai aD->(af g/\(0:Nat)<List.length [(0:Int),(12:Int),(-1:Int),i64.wrap ((1:Int)+aD)])/\∀(c_:List Int×Int×Int) (bY:Int),af c_/\eN [(0:Int),(12:Int),(-1:Int),i64.wrap ((1:Int)+aD)] bY->Ty.wf ar c_->Ty.wf ai bY->af c_/\jv (bY,x_1.2.2))/\(decide (aM=(0:Int))=false->(decide (aM=(1:Int))=true->af g/\∀(g:List Int×Int×Int) (r:Int),af g->Ty.wf ar g->Ty.wf ai r->af g/\jv (x_1.2.1,r,x_1.2.2.2))/\(decide (aM=(1:Int))=false->(decide (aM=(2:Int))=true->(af g/\(0:Nat)<List.length [(1:Int),(400:Int),(401:Int),(-1:Int)])/\∀(c_:List Int×Int×Int) (aD:Int),af c_/\eN [(1:Int),(400:Int),(401:Int),(-1:Int)] aD->Ty.wf ar c_->Ty.wf ai aD->af c_/\jv (x_1.2.1,x_1.2.2.1,x_1.2.2.2.1,x_1.2.2.2.2.1,aD))/\(decide (aM=(2:Int))=false->(decide (aM=(3:Int))=true->x_1.2.2.2.2.1.length<=(1048576:Nat)/\(Ty.wf al x_1.2.2.2.2.1->af g/\∀(g:List Int×Int×Int) (aD:Int),af g->Ty.wf ar g->Ty.wf ai aD->(x_1.2.2.2.2.1.length+List.length [aD])*(8:Nat)<=(140737488355328:Nat)/\af g/\jv (x_1.2.1,x_1.2.2.1,x_1.2.2.2.1,x_1.2.2.2.2.1++[aD],x_1.2.2.2.2.2)))/\(decide (aM=(3:Int))=false->(decide (aM=(4:Int))=true->x_1.2.2.2.1.length<=(1048576:Nat)/\(Ty.wf al x_1.2.2.2.1->(af g/\(0:Nat)<List.length [(1099511627776:Int),(-1099511627776:Int),(1099511627777:Int),(0:Int),(-1:Int)])/\∀(c_:List Int×Int×Int) (aD:Int),af c_/\eN [(1099511627776:Int),(-1099511627776:Int),(1099511627777:Int),(0:Int),(-1:Int)] aD->Ty.wf ar c_->Ty.wf ai aD->(x_1.2.2.2.1.length+List.length [aD])*(8:Nat)<=(140737488355328:Nat)/\af c_/\jv (x_1.2.1,x_1.2.2.1,x_1.2.2.2.1++[aD],x_1.2.2.2.2)))/\(decide (aM=(4:Int))=false->af g/\jv x_1.2))))))/\(r=false->af g/\jv x_1.2):=by
  intro d x hd hx hp
  have j0 : -9223372036854775808<=x/\x<=9223372036854775807:=⟨Int.le_trans (by decide) hx.1,Int.le_trans hx.2 (by decide)⟩
  obtain⟨fb,lZ⟩:=hp
  have lZ:x<=50:=lZ
  simp only[exists_const,forall_const,decide_eq_true_eq,decide_eq_false_iff_not,beq_iff_eq,sxS]
  repeat' (first
   | assumption
   | exact trivial
   | exact⟨_,rfl⟩
   | exact (Qv ‹_›).1
   | exact (Qv ‹_›).2
   | exact Nat.le_trans (Qu j0 lZ ‹_›) (by omega)
   | exact Int.le_trans (Qu j0 lZ ‹_›) (by omega)
   | exact Int.le_trans (Un j0 lZ ‹_›) (by omega)
   | exact Int.le_trans (Up lZ ‹_›) (by omega)
   | exact S4 ‹_› (by first|exact Nat.zero_le _|exact Nat.le_trans ‹_› (by omega)|exact Nat.le_trans (m9 _) (Nat.le_trans ‹_› (by omega))) (by first|exact Nat.zero_le _|exact Nat.le_trans ‹_› (by omega)|exact Nat.le_trans (m9 _) (Nat.le_trans ‹_› (by omega)))
   | exact R3 ‹_› (by first|exact Nat.zero_le _|exact Nat.le_trans ‹_› (by omega)|exact Nat.le_trans (m9 _) (Nat.le_trans ‹_› (by omega)))
   | exact PI ‹_›
   | exact Nat.zero_lt_succ _
   | exact RZ ‹_›
   | exact⟨Nat.le_trans ‹_› (by omega),Nat.le_trans ‹_› (by omega)⟩
   | exact⟨LK ‹_›,Nat.le_trans ‹_› (by omega)⟩
   | exact⟨Nat.le_trans ‹_› (by omega),LK ‹_›⟩
   | (intro (h:af _/\aj _ _/\aj _ _/\aj _ _);obtain⟨_,E6,jf,OF⟩:=h;unfold aj at E6 jf OF)
   | (intro (h:af _/\aj _ _/\aj _ _);obtain⟨_,E6,jf⟩:=h;unfold aj at E6 jf)
   | (intro (h:af _/\aA _ _);obtain⟨_,Q8⟩:=h;have v8:=Q8.2.1)
   | (intro (h:af _/\eN _ _);obtain⟨_,_⟩:=h)
   | (intro (h:af _/\aj _ _/\_);obtain⟨_,iJ,_⟩:=h;unfold aj at iJ)
   | (intro (h:af _/\aj _ _);obtain⟨_,iJ⟩:=h;unfold aj at iJ)
   | with_reducible apply And.intro
   | intro _
   | omega)
end Go.SF
