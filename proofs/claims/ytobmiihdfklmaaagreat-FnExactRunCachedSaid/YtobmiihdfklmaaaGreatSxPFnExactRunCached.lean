/- The law of RunCached. No condition. -/
import Derived.Test.YtobmiihdfklmaaaGreatSxM3
namespace Go.SF
open Go.SX Go
set_option linter.unusedVariables false
set_option linter.unusedSimpArgs false
set_option maxRecDepth 100000
set_option maxHeartbeats 0
theorem XJ{j:Jb}{l:Int}(h:¬jF j l<0)(By:0<=l)(hl:l<=1048576)(h2:j.2.2.1.length<=9223372036854775807)(h3:j.2.2.2.1.length<=9223372036854775807):j.2.2.1.length<=1048576/\j.2.2.2.1.length<=1048576:=by
 unfold jF at h
 split at h
 ·omega
 ·rename_i c
  obtain⟨d1,d2⟩:=rG c (by omega) (by omega) h2
  obtain⟨e1,e2⟩:=rG h (by omega) (by omega) h3
  exact⟨by omega,by omega⟩
theorem Q5:∀(es:List En) (l:Int),0<=fZ es l->0<=l->l<=1048576->(∀ e∈es,e.1.length<=9223372036854775807/\e.2.2.1.length<=9223372036854775807/\e.2.2.2.length<=9223372036854775807)->fZ es l<=l
 | [],l,_,_,_,_=>Int.le_refl _
 | g::es,l,h,By,hl,hw=>by
   unfold fZ at h ⊢
   split at h
   ·omega
   ·rename_i hn
    rw[if_neg hn]
    obtain⟨w1,w2,w3⟩:=hw g (List.mem_cons_self ..)
    obtain⟨r1,r2⟩:=N4 hn By hl w1 w2 w3
    have:=Q5 es _ h r2 (by omega) (fun e he=>hw e (List.mem_cons_of_mem _ he))
    omega
theorem ZX{c:Ca}(hw:c.2.length<=9223372036854775807/\∀ e∈c.2,e.1.length<=9223372036854775807/\e.2.2.1.length<=9223372036854775807/\e.2.2.2.length<=9223372036854775807)(h:¬ik c 1048576<0):ik c 1048576<=1048576:=by
 unfold ik at h ⊢
 split at h
 ·omega
 ·rename_i h1
  rw[if_neg h1]
  unfold iV at h1 ⊢
  split at h1
  ·omega
  ·rename_i h2
   rw[if_neg h2]
   have h3:=rG (n:=c.2.length) (l:=1048576) (by unfold dG;rw[if_neg h2];exact h2) (by omega) (by omega) hw.1
   have h4:dG c.2.length 1048576=gg (1048576-c.2.length):=by unfold dG;rw[if_neg h2]
   rw[h4] at h3
   have:=Q5 c.2 (gg (1048576-c.2.length)) (by omega) (by omega) (by omega) hw.2
   omega
theorem VT{c:Ca}{key:List Int}{r:Rs}(hT:dp c.2<=1048576)(hk:key.length<=10000)(hr:eP r):dp (ew c key r).1.2<=4000000:=by
 obtain⟨h1,h2⟩:=hr
 unfold ew
 split
 ·have h2:=I8 c (key,r)
  have h3:=N_ (List.take_sublist (cB (cX c (key,r)).1 (cX c (key,r)).2 (cX c (key,r)).2.length) (cX c (key,r)).2)
  show dp (List.take _ _)<=_
  simp only at h2
  omega
 ·show dp c.2<=_
  omega
theorem acf{c:Ca}{j:Jb}(hT:dp c.2<=1048576)(hj:j.2.2.1.length<=1048576/\j.2.2.2.1.length<=1048576):dp (aM c j).1.2<=4000000/\(aM c j).2.1.2.1.length<=4000000/\(aM c j).2.1.2.2.length<=4000000:=by
 have hl:=VK j
 cases h:bK c
 ·rw[SL h];exact⟨by show dp c.2<=_;omega,by simp,by simp⟩
 ·cases h1:aK j
  ·rw[NP h h1];exact⟨by show dp c.2<=_;omega,by show (aA j).2.1.length<=_;omega,by show (aA j).2.2.length<=_;omega⟩
  ·cases h2:(cZ c (gB j)).2.2
   ·rw[H2 h h1 h2]
    exact⟨VT hT (by have:=CL h1;omega) (MG h1),by show (aA j).2.1.length<=_;omega,by show (aA j).2.2.length<=_;omega⟩
   ·rw[NQ h h1 h2];exact Xh hT
section
variable {w : Ca} {a : CA} {j : Iz} {x : List aN × List aN} {g : List aN} {y : Int}
theorem aeV(hx:me w a j x)(hg:mf w a j x g)(h:jL (y,g.map bf) (y,x.1.map bf)=false):false=true:=aat hx.1 hg.1.1 h
theorem adi(hx:me w a j x)(hg:g.map bf=w.2)(h:jL (y,g.map bf) (y,x.1.map bf)=false):false=true:=aat hx.1 hg h
theorem aeX(hx:me w a j x)(h:jL w (w.1,x.1.map bf)=false):false=true:=by
 rw[hx.1.2.1,Bf] at h;exact h.symm
theorem aeW(hx:me w a j x)(h:jL (y,x.2.map bf) (y,a.2.2.map bf)=false):false=true:=aen hx.1 h
theorem rc8(hx:me w a j x)(h:dJ j.2.2.2.1.2 (dJ j.2.2.1.2 (cP x.2 1))<0):false=true:=by
 have ht:=hx.1.1
 rw[<-hx.1.2.2.1] at ht
 obtain⟨l1,l2⟩:=hx.2.1
 have h1:=tF x.2 1 (by omega) (by omega)
 have h2:=CM j.2.2.1.2 (k:=cP x.2 1) (by omega) (by omega)
 have h3:=CM j.2.2.2.1.2 (k:=dJ j.2.2.1.2 (cP x.2 1)) (by omega) (by omega)
 omega
theorem rcE(hg:mf w a j x g)(hw:dp w.2<=4000000):gV (cH ((bt g 1).map bf) 1)=cP g 1/\0<=cP g 1/\cP g 1<=10000000:=by
 have h:=WR hg.1.1 hw
 rw[<-hg.1.1] at hw
 have h1:=tF g 1 (by omega) (by omega)
 exact⟨h.1,h.2,by omega⟩
theorem rc5(hg:mf w a j x g)(hw:dp w.2<=4000000)(h:gV (cH ((bt g 1).map bf) 1)<0):false=true:=by have:=rcE hg hw;omega
theorem rc6{r:Rs}(hg:mf w a j x g)(hw:dp w.2<=4000000)(hr:r.2.1.length<=4000000/\r.2.2.length<=4000000)(h:gM (fp r (cP g 1)) (gV (cH ((bt g 1).map bf) 1))<0):false=true:=by
 have h1:=rcE hg hw
 rw[h1.1] at h
 have:=LZ r h1.2.1 (by omega) hr.1 hr.2
 omega
theorem rc7{r:Rs}(hg:mf w a j x g)(hw:dp w.2<=4000000)(hr:r.2.1.length<=4000000/\r.2.2.length<=4000000)(h:¬gM (fp r (cP g 1)) (gV (cH ((bt g 1).map bf) 1))=rb r (cP g 1)):false=true:=by
 have h1:=rcE hg hw
 rw[h1.1] at h
 exact absurd (LZ r h1.2.1 (by omega) hr.1 hr.2).1 h
end
theorem ce5{F:Ca->P_}{r:(Int×List aN)×Rs×Bool}{s:List aN}{c:Int}{L:List En}(e:((r.1.1,r.1.2.map bf),r.2.1,r.2.2)=F (c,s.map bf))(h:s.map bf=L):r.1.2.map bf=(F (c,L)).1.2/\r.1.1=(F (c,L)).1.1/\r.2.1=(F (c,L)).2.1/\r.2.2=(F (c,L)).2.2:=by
 rw[h] at e
 exact U1 e
theorem Cx :
 ∀(d:(Int×Nat×List aN)×Int×Int×(Nat×List Int)×(Nat×List Int)×Int),Ty.wf Ba d.1/\Ty.wf R7 d.2->True->True/\(Ty.wf ai (ik (d.1.1,bH b7 d.1.2.2) (1048576:Int))->(decide (ik (d.1.1,bH b7 d.1.2.2) (1048576:Int)<(0:Int))=true->ae true)/\(decide (ik (d.1.1,bH b7 d.1.2.2) (1048576:Int)<(0:Int))=false->True/\(Ty.wf ai (jF (d.2.1,d.2.2.1,d.2.2.2.1.2,d.2.2.2.2.1.2,d.2.2.2.2.2) (ik (d.1.1,bH b7 d.1.2.2) (1048576:Int)))->(decide (jF (d.2.1,d.2.2.1,d.2.2.2.1.2,d.2.2.2.2.1.2,d.2.2.2.2.2) (ik (d.1.1,bH b7 d.1.2.2) (1048576:Int))<(0:Int))=true->ae true)/\(decide (jF (d.2.1,d.2.2.1,d.2.2.2.1.2,d.2.2.2.2.1.2,d.2.2.2.2.2) (ik (d.1.1,bH b7 d.1.2.2) (1048576:Int))<(0:Int))=false->bj (bH b7 d.1.2.2)/\(d.2.2.2.1.2.length<=(1048576:Nat)/\d.2.2.2.2.1.2.length<=(1048576:Nat))/\bj (bH b7 d.1.2.2)/\(Ty.wf bq (aM (d.1.1,bH b7 d.1.2.2) (d.2.1,d.2.2.1,d.2.2.2.1.2,d.2.2.2.2.1.2,d.2.2.2.2.2)).1/\Ty.wf bd (aM (d.1.1,bH b7 d.1.2.2) (d.2.1,d.2.2.1,d.2.2.2.1.2,d.2.2.2.2.1.2,d.2.2.2.2.2)).2.1/\Ty.wf Ty.bool (aM (d.1.1,bH b7 d.1.2.2) (d.2.1,d.2.2.1,d.2.2.2.1.2,d.2.2.2.2.1.2,d.2.2.2.2.2)).2.2->Ty.wf eF (d.2.1,d.2.2.1,d.2.2.2.1.2,d.2.2.2.2.1.2,d.2.2.2.2.2)->Ty.wf bq (d.1.1,bH b7 d.1.2.2)->∀(br:List aN),bH (b7) br=bH b7 d.1.2.2->∀(TB:List aN),bH (b7) TB=(aM (d.1.1,bH b7 d.1.2.2) (d.2.1,d.2.2.1,d.2.2.2.1.2,d.2.2.2.2.1.2,d.2.2.2.2.2)).1.2->bj (bH b7 d.1.2.2)/\∀(r:Int×List aN),aU aB r=(d.1.1,bH b7 d.1.2.2)->List.Nodup (ids aB r)->Ty.wf aB r->(bz (ids aB r) (ids (Ty.gs false b7) d.1.2)/\(bz (ids aB r) (ids (Ty.gs false ai) d.2.2.2.1)/\bz (ids aB r) (ids (Ty.gs false ai) d.2.2.2.2.1))/\bz (ids aB r) (aX (b7) br)/\bz (ids aB r) (aX (b7) TB))/\bz (ids aB r) (ids (Ty.gs false b7) d.1.2)/\(bz (ids aB r) (ids (Ty.gs false ai) d.2.2.2.1)/\bz (ids aB r) (ids (Ty.gs false ai) d.2.2.2.2.1))/\bz (ids aB r) (ids (Ty.gs false b7) d.1.2)/\(bz (ids aB r) (ids (Ty.gs false ai) d.2.2.2.1)/\bz (ids aB r) (ids (Ty.gs false ai) d.2.2.2.2.1))/\bz (ids aB r) (ids (Ty.gs false b7) d.1.2)/\(bz (ids aB r) (ids (Ty.gs false ai) d.2.2.2.1)/\bz (ids aB r) (ids (Ty.gs false ai) d.2.2.2.2.1))/\bz (ids aB r) (ids (Ty.gs false b7) d.1.2)->((d.2.2.2.1.2.length<=(1048576:Nat)/\d.2.2.2.2.1.2.length<=(1048576:Nat))/\(Ty.wf eF (d.2.1,d.2.2.1,d.2.2.2.1.2,d.2.2.2.2.1.2,d.2.2.2.2.2)->∃(x':List aN×List aN),me (aM (bB d.1) (bE d.2)).1 d.1 d.2 x'/\((ae d.1.1/\ae d.1.2.1/\ae d.1.2.2)/\(ae d.2.1/\ae d.2.2.1/\(ae d.2.2.2.1.1/\ae d.2.2.2.1.2)/\(ae d.2.2.2.2.1.1/\ae d.2.2.2.2.1.2)/\ae d.2.2.2.2.2)/\ae (jF (d.2.1,d.2.2.1,d.2.2.2.1.2,d.2.2.2.2.1.2,d.2.2.2.2.2) (ik (d.1.1,bH b7 d.1.2.2) (1048576:Int)))/\ae ((aM (d.1.1,bH b7 d.1.2.2) (d.2.1,d.2.2.1,d.2.2.2.1.2,d.2.2.2.2.1.2,d.2.2.2.2.2)).2.2))/\(ae d.1.1/\ae d.1.2.1/\ae d.1.2.2)/\(ae d.2.1/\ae d.2.2.1/\(ae d.2.2.2.1.1/\ae d.2.2.2.1.2)/\(ae d.2.2.2.2.1.1/\ae d.2.2.2.2.1.2)/\ae d.2.2.2.2.2)/\TB=x'.1/\(aM (d.1.1,bH b7 d.1.2.2) (d.2.1,d.2.2.1,d.2.2.2.1.2,d.2.2.2.2.1.2,d.2.2.2.2.2)).2.1.2.1=(aM (bB d.1) (bE d.2)).2.1.2.1/\(aM (d.1.1,bH b7 d.1.2.2) (d.2.1,d.2.2.1,d.2.2.2.1.2,d.2.2.2.2.1.2,d.2.2.2.2.2)).2.1.2.2=(aM (bB d.1) (bE d.2)).2.1.2.2/\(aM (d.1.1,bH b7 d.1.2.2) (d.2.1,d.2.2.1,d.2.2.2.1.2,d.2.2.2.2.1.2,d.2.2.2.2.2)).1.1=(aM (bB d.1) (bE d.2)).1.1/\(aM (d.1.1,bH b7 d.1.2.2) (d.2.1,d.2.2.1,d.2.2.2.1.2,d.2.2.2.2.1.2,d.2.2.2.2.2)).2.1.1=(aM (bB d.1) (bE d.2)).2.1.1/\r.2=x'.2/\r.1=d.1.1/\ae d.2.2.2.1.2/\ae d.2.2.2.2.1.2/\ae d.2.1/\ae d.2.2.1/\ae d.2.2.2.2.2))/\∀(x:List aN×List aN),me (aM (bB d.1) (bE d.2)).1 d.1 d.2 x->(bj (bH bA x.2)/\∀(r:(Int×List aN)×(Int×List Int×List Int)×Bool),(aU aB r.1,aU bd r.2.1,aU Ty.bool r.2.2)=aM (d.1.1,bH bA x.2) (d.2.1,d.2.2.1,d.2.2.2.1.2,d.2.2.2.2.1.2,d.2.2.2.2.2)->List.Nodup (ids aB r.1++(ids bd r.2.1++ids Ty.bool r.2.2))->Ty.wf aB r.1/\Ty.wf bd r.2.1/\Ty.wf Ty.bool r.2.2->(bz (ids aB r.1++(ids bd r.2.1++ids Ty.bool r.2.2)) (ids (Ty.gs false b7) d.1.2)/\(bz (ids aB r.1++(ids bd r.2.1++ids Ty.bool r.2.2)) (ids (Ty.gs false ai) d.2.2.2.1)/\bz (ids aB r.1++(ids bd r.2.1++ids Ty.bool r.2.2)) (ids (Ty.gs false ai) d.2.2.2.2.1))/\bz (ids aB r.1++(ids bd r.2.1++ids Ty.bool r.2.2)) (aX b7 x.1)/\bz (ids aB r.1++(ids bd r.2.1++ids Ty.bool r.2.2)) (aX bA x.2))/\bz (ids aB r.1++(ids bd r.2.1++ids Ty.bool r.2.2)) (ids (Ty.gs false b7) d.1.2)/\bz (ids aB r.1++(ids bd r.2.1++ids Ty.bool r.2.2)) (ids (Ty.gs false ai) d.2.2.2.1)/\bz (ids aB r.1++(ids bd r.2.1++ids Ty.bool r.2.2)) (ids (Ty.gs false ai) d.2.2.2.2.1)->∃(x':List aN),mf (aM (bB d.1) (bE d.2)).1 d.1 d.2 x x'/\((ae d.1.1/\ae d.1.2.1/\ae d.1.2.2)/\(ae d.2.1/\ae d.2.2.1/\(ae d.2.2.2.1.1/\ae d.2.2.2.1.2)/\(ae d.2.2.2.2.1.1/\ae d.2.2.2.2.1.2)/\ae d.2.2.2.2.2)/\ae (jF (d.2.1,d.2.2.1,d.2.2.2.1.2,d.2.2.2.2.1.2,d.2.2.2.2.2) (ik (d.1.1,bH b7 d.1.2.2) (1048576:Int)))/\ae ((aM (d.1.1,bH b7 d.1.2.2) (d.2.1,d.2.2.1,d.2.2.2.1.2,d.2.2.2.2.1.2,d.2.2.2.2.2)).2.2)/\r.2.2=(aM (bB d.1) (bE d.2)).2.2/\r.1.1=(aM (bB d.1) (bE d.2)).1.1/\r.2.1.1=(aM (bB d.1) (bE d.2)).2.1.1)/\(ae d.1.1/\ae d.1.2.1/\ae d.1.2.2)/\(ae d.2.1/\ae d.2.2.1/\(ae d.2.2.2.1.1/\ae d.2.2.2.1.2)/\(ae d.2.2.2.2.1.1/\ae d.2.2.2.2.1.2)/\ae d.2.2.2.2.2)/\x.1=x.1/\ae ((aM (bB d.1) (bE d.2)).2.1.2.1)/\ae ((aM (bB d.1) (bE d.2)).2.1.2.2)/\ae ((aM (bB d.1) (bE d.2)).1.1)/\ae ((aM (bB d.1) (bE d.2)).2.1.1)/\x.2=x.2/\ae d.1.1/\ae d.2.2.2.1.2/\ae d.2.2.2.2.1.2/\(ae d.2.1/\ae d.2.2.1/\ae d.2.2.2.2.2)/\r.1.2=x'/\r.2.1.2.1=(aM (bB d.1) (bE d.2)).2.1.2.1/\r.2.1.2.2=(aM (bB d.1) (bE d.2)).2.1.2.2/\r.1.1=(aM (bB d.1) (bE d.2)).1.1/\r.2.1.1=(aM (bB d.1) (bE d.2)).2.1.1)/\∀(x_1:List aN),mf (aM (bB d.1) (bE d.2)).1 d.1 d.2 x x_1->True/\((!jL (Prod.fst (aM (bB d.1) (bE d.2)).1,bH bA x_1) (Prod.fst (aM (bB d.1) (bE d.2)).1,bH b7 x.1))=true->false=true)/\((!jL (Prod.fst (aM (bB d.1) (bE d.2)).1,bH bA x_1) (Prod.fst (aM (bB d.1) (bE d.2)).1,bH b7 x.1))=false->True/\((!kQ (aM (bB d.1) (bE d.2)).2.1 (aM (bB d.1) (bE d.2)).2.1)=true->false=true)/\((!kQ (aM (bB d.1) (bE d.2)).2.1 (aM (bB d.1) (bE d.2)).2.1)=false->((!(aM (bB d.1) (bE d.2)).2.2 == (aM (d.1.1,bH b7 d.1.2.2) (d.2.1,d.2.2.1,d.2.2.2.1.2,d.2.2.2.2.1.2,d.2.2.2.2.2)).2.2)=true->false=true)/\((!(aM (bB d.1) (bE d.2)).2.2 == (aM (d.1.1,bH b7 d.1.2.2) (d.2.1,d.2.2.1,d.2.2.2.1.2,d.2.2.2.2.1.2,d.2.2.2.2.2)).2.2)=false->bj (bH b7 d.1.2.2)/\True/\(Ty.wf bq (d.1.1,bH b7 d.1.2.2)->((!jL (d.1.1,bH bA x.2) (d.1.1,bH b7 d.1.2.2))=true->false=true)/\((!jL (d.1.1,bH bA x.2) (d.1.1,bH b7 d.1.2.2))=false->(d.2.2.2.1.2.length<=(1048576:Nat)/\d.2.2.2.2.1.2.length<=(1048576:Nat))/\True/\(Ty.wf eF (d.2.1,d.2.2.1,d.2.2.2.1.2,d.2.2.2.2.1.2,d.2.2.2.2.2)->((!decide (ae (d.2.1,d.2.2.1,d.2.2.2.1.2,d.2.2.2.2.1.2,d.2.2.2.2.2)))=true->false=true)/\((!decide (ae (d.2.1,d.2.2.1,d.2.2.2.1.2,d.2.2.2.2.1.2,d.2.2.2.2.2)))=false->True/\List.Nodup (ids aB (d.1.1,x.2))/\((bz (ids aB (d.1.1,x.2)) (aX b7 x.1)/\bz (ids aB (d.1.1,x.2)) (aX bA x_1))/\(bz (ids aB (d.1.1,x.2)) (ids (Ty.gs false b7) d.1.2)/\(bz (ids aB (d.1.1,x.2)) (ids (Ty.gs false ai) d.2.2.2.1)/\bz (ids aB (d.1.1,x.2)) (ids (Ty.gs false ai) d.2.2.2.2.1))/\bz (ids aB (d.1.1,x.2)) (ids (Ty.gs false b7) d.1.2)/\bz (ids aB (d.1.1,x.2)) (ids (Ty.gs false ai) d.2.2.2.1)/\bz (ids aB (d.1.1,x.2)) (ids (Ty.gs false ai) d.2.2.2.2.1))/\bz (ids aB (d.1.1,x.2)) (ids (Ty.gs false b7) d.1.2)/\bz (ids aB (d.1.1,x.2)) (ids (Ty.gs false ai) d.2.2.2.1)/\bz (ids aB (d.1.1,x.2)) (ids (Ty.gs false ai) d.2.2.2.2.1))/\True/\(decide (dJ d.2.2.2.2.1.2 (dJ d.2.2.2.1.2 (cP x.2 (1:Int)))<(0:Int))=true->false=true)/\(decide (dJ d.2.2.2.2.1.2 (dJ d.2.2.2.1.2 (cP x.2 (1:Int)))<(0:Int))=false->True/\((!jL (Prod.fst (aM (bB d.1) (bE d.2)).1,bH bA x_1) (Prod.fst (aM (bB d.1) (bE d.2)).1,bH b7 x.1))=true->false=true)/\((!jL (Prod.fst (aM (bB d.1) (bE d.2)).1,bH bA x_1) (Prod.fst (aM (bB d.1) (bE d.2)).1,bH b7 x.1))=false->True/\((!kQ (aM (bB d.1) (bE d.2)).2.1 (aM (bB d.1) (bE d.2)).2.1)=true->false=true)/\((!kQ (aM (bB d.1) (bE d.2)).2.1 (aM (bB d.1) (bE d.2)).2.1)=false->((!(aM (bB d.1) (bE d.2)).2.2 == (aM (d.1.1,bH b7 d.1.2.2) (d.2.1,d.2.2.1,d.2.2.2.1.2,d.2.2.2.2.1.2,d.2.2.2.2.2)).2.2)=true->false=true)/\((!(aM (bB d.1) (bE d.2)).2.2 == (aM (d.1.1,bH b7 d.1.2.2) (d.2.1,d.2.2.1,d.2.2.2.1.2,d.2.2.2.2.1.2,d.2.2.2.2.2)).2.2)=false->True/\List.Nodup (ids aB (Prod.fst (aM (bB d.1) (bE d.2)).1,x_1))/\((bz (ids aB (Prod.fst (aM (bB d.1) (bE d.2)).1,x_1)) (aX b7 x.1)/\bz (ids aB (Prod.fst (aM (bB d.1) (bE d.2)).1,x_1)) (aX bA (bt x.2 (1:Int))))/\(bz (ids aB (Prod.fst (aM (bB d.1) (bE d.2)).1,x_1)) (ids (Ty.gs false b7) d.1.2)/\(bz (ids aB (Prod.fst (aM (bB d.1) (bE d.2)).1,x_1)) (ids (Ty.gs false ai) d.2.2.2.1)/\bz (ids aB (Prod.fst (aM (bB d.1) (bE d.2)).1,x_1)) (ids (Ty.gs false ai) d.2.2.2.2.1))/\bz (ids aB (Prod.fst (aM (bB d.1) (bE d.2)).1,x_1)) (ids (Ty.gs false b7) d.1.2)/\bz (ids aB (Prod.fst (aM (bB d.1) (bE d.2)).1,x_1)) (ids (Ty.gs false ai) d.2.2.2.1)/\bz (ids aB (Prod.fst (aM (bB d.1) (bE d.2)).1,x_1)) (ids (Ty.gs false ai) d.2.2.2.2.1))/\bz (ids aB (Prod.fst (aM (bB d.1) (bE d.2)).1,x_1)) (ids (Ty.gs false b7) d.1.2)/\bz (ids aB (Prod.fst (aM (bB d.1) (bE d.2)).1,x_1)) (ids (Ty.gs false ai) d.2.2.2.1)/\bz (ids aB (Prod.fst (aM (bB d.1) (bE d.2)).1,x_1)) (ids (Ty.gs false ai) d.2.2.2.2.1))/\True/\True/\(Ty.wf ai (gV (cH (bH bA (bt x_1 (1:Int))) (1:Int)))->(decide (gV (cH (bH bA (bt x_1 (1:Int))) (1:Int))<(0:Int))=true->false=true)/\(decide (gV (cH (bH bA (bt x_1 (1:Int))) (1:Int))<(0:Int))=false->True/\(Ty.wf ai (gM (Prod.fst (aM (bB d.1) (bE d.2)).2.1,(fp (aM (bB d.1) (bE d.2)).2.1 (cP x_1 (1:Int))).2) (gV (cH (bH bA (bt x_1 (1:Int))) (1:Int))))->(decide (gM (Prod.fst (aM (bB d.1) (bE d.2)).2.1,(fp (aM (bB d.1) (bE d.2)).2.1 (cP x_1 (1:Int))).2) (gV (cH (bH bA (bt x_1 (1:Int))) (1:Int)))<(0:Int))=true->false=true)/\(decide (gM (Prod.fst (aM (bB d.1) (bE d.2)).2.1,(fp (aM (bB d.1) (bE d.2)).2.1 (cP x_1 (1:Int))).2) (gV (cH (bH bA (bt x_1 (1:Int))) (1:Int)))<(0:Int))=false->(((!decide (gM (Prod.fst (aM (bB d.1) (bE d.2)).2.1,(fp (aM (bB d.1) (bE d.2)).2.1 (cP x_1 (1:Int))).2) (gV (cH (bH bA (bt x_1 (1:Int))) (1:Int)))=rb (aM (bB d.1) (bE d.2)).2.1 (cP x_1 (1:Int))))=true->false=true)/\((!decide (gM (Prod.fst (aM (bB d.1) (bE d.2)).2.1,(fp (aM (bB d.1) (bE d.2)).2.1 (cP x_1 (1:Int))).2) (gV (cH (bH bA (bt x_1 (1:Int))) (1:Int)))=rb (aM (bB d.1) (bE d.2)).2.1 (cP x_1 (1:Int))))=false->∃(x':Unit),(me (aM (bB d.1) (bE d.2)).1 d.1 d.2 x/\mf (aM (bB d.1) (bE d.2)).1 d.1 d.2 x x_1)/\((ae d.1.1/\ae d.1.2.1/\ae d.1.2.2)/\(ae d.2.1/\ae d.2.2.1/\(ae d.2.2.2.1.1/\ae d.2.2.2.1.2)/\(ae d.2.2.2.2.1.1/\ae d.2.2.2.2.1.2)/\ae d.2.2.2.2.2)/\ae (jF (d.2.1,d.2.2.1,d.2.2.2.1.2,d.2.2.2.2.1.2,d.2.2.2.2.2) (ik (d.1.1,bH b7 d.1.2.2) (1048576:Int)))/\ae ((aM (d.1.1,bH b7 d.1.2.2) (d.2.1,d.2.2.1,d.2.2.2.1.2,d.2.2.2.2.1.2,d.2.2.2.2.2)).2.2)/\ae ((aM (bB d.1) (bE d.2)).2.2)/\ae (rb (aM (bB d.1) (bE d.2)).2.1 (cP x_1 (1:Int))))/\(ae d.1.1/\ae d.1.2.1/\ae d.1.2.2)/\(ae d.2.1/\ae d.2.2.1/\(ae d.2.2.2.1.1/\ae d.2.2.2.1.2)/\(ae d.2.2.2.2.1.1/\ae d.2.2.2.2.1.2)/\ae d.2.2.2.2.2)/\x.1=x.1/\ae ((aM (bB d.1) (bE d.2)).2.1.2.1)/\ae ((aM (bB d.1) (bE d.2)).2.1.2.2)/\ae ((aM (bB d.1) (bE d.2)).1.1)/\ae ((aM (bB d.1) (bE d.2)).2.1.1)/\ae (bt x_1 (1:Int))/\ae ((fp (aM (bB d.1) (bE d.2)).2.1 (cP x_1 (1:Int))).2.1)/\ae ((fp (aM (bB d.1) (bE d.2)).2.1 (cP x_1 (1:Int))).2.2)/\ae ((aM (bB d.1) (bE d.2)).1.1)/\ae ((aM (bB d.1) (bE d.2)).2.1.1)))/\∀(x_2:Unit),me (aM (bB d.1) (bE d.2)).1 d.1 d.2 x/\mf (aM (bB d.1) (bE d.2)).1 d.1 d.2 x x_1->(bj (bH b7 d.1.2.2)/\(d.2.2.2.1.2.length<=(1048576:Nat)/\d.2.2.2.2.1.2.length<=(1048576:Nat))/\bj (bH b7 d.1.2.2)/\(Ty.wf bq (aM (d.1.1,bH b7 d.1.2.2) (d.2.1,d.2.2.1,d.2.2.2.1.2,d.2.2.2.2.1.2,d.2.2.2.2.2)).1/\Ty.wf bd (aM (d.1.1,bH b7 d.1.2.2) (d.2.1,d.2.2.1,d.2.2.2.1.2,d.2.2.2.2.1.2,d.2.2.2.2.2)).2.1/\Ty.wf Ty.bool (aM (d.1.1,bH b7 d.1.2.2) (d.2.1,d.2.2.1,d.2.2.2.1.2,d.2.2.2.2.1.2,d.2.2.2.2.2)).2.2->Ty.wf eF (d.2.1,d.2.2.1,d.2.2.2.1.2,d.2.2.2.2.1.2,d.2.2.2.2.2)->Ty.wf bq (d.1.1,bH b7 d.1.2.2)->∃(x':Unit),True/\((ae d.1.1/\ae d.1.2.1/\ae d.1.2.2)/\(ae d.2.1/\ae d.2.2.1/\(ae d.2.2.2.1.1/\ae d.2.2.2.1.2)/\(ae d.2.2.2.2.1.1/\ae d.2.2.2.2.1.2)/\ae d.2.2.2.2.2)/\ae (jF (d.2.1,d.2.2.1,d.2.2.2.1.2,d.2.2.2.2.1.2,d.2.2.2.2.2) (ik (d.1.1,bH b7 d.1.2.2) (1048576:Int)))/\ae ((aM (d.1.1,bH b7 d.1.2.2) (d.2.1,d.2.2.1,d.2.2.2.1.2,d.2.2.2.2.1.2,d.2.2.2.2.2)).2.2)/\ae ((aM (bB d.1) (bE d.2)).2.2)/\ae (rb (aM (bB d.1) (bE d.2)).2.1 (cP x_1 (1:Int)))/\(aM (d.1.1,bH b7 d.1.2.2) (d.2.1,d.2.2.1,d.2.2.2.1.2,d.2.2.2.2.1.2,d.2.2.2.2.2)).2.2=(aM (bB d.1) (bE d.2)).2.2/\(aM (d.1.1,bH b7 d.1.2.2) (d.2.1,d.2.2.1,d.2.2.2.1.2,d.2.2.2.2.1.2,d.2.2.2.2.2)).1.1=(aM (bB d.1) (bE d.2)).1.1/\(aM (d.1.1,bH b7 d.1.2.2) (d.2.1,d.2.2.1,d.2.2.2.1.2,d.2.2.2.2.1.2,d.2.2.2.2.2)).2.1.1=(aM (bB d.1) (bE d.2)).2.1.1)/\(ae d.1.1/\ae d.1.2.1/\ae d.1.2.2)/\(ae d.2.1/\ae d.2.2.1/\(ae d.2.2.2.1.1/\ae d.2.2.2.1.2)/\(ae d.2.2.2.2.1.1/\ae d.2.2.2.2.1.2)/\ae d.2.2.2.2.2)/\x.1=x.1/\ae ((aM (bB d.1) (bE d.2)).2.1.2.1)/\ae ((aM (bB d.1) (bE d.2)).2.1.2.2)/\ae ((aM (bB d.1) (bE d.2)).1.1)/\ae ((aM (bB d.1) (bE d.2)).2.1.1)/\ae (bt x_1 (1:Int))/\ae ((fp (aM (bB d.1) (bE d.2)).2.1 (cP x_1 (1:Int))).2.1)/\ae ((fp (aM (bB d.1) (bE d.2)).2.1 (cP x_1 (1:Int))).2.2)/\ae ((aM (bB d.1) (bE d.2)).1.1)/\ae ((aM (bB d.1) (bE d.2)).2.1.1)/\(aM (d.1.1,bH b7 d.1.2.2) (d.2.1,d.2.2.1,d.2.2.2.1.2,d.2.2.2.2.1.2,d.2.2.2.2.2)).1.2=(aM (bB d.1) (bE d.2)).1.2/\(aM (d.1.1,bH b7 d.1.2.2) (d.2.1,d.2.2.1,d.2.2.2.1.2,d.2.2.2.2.1.2,d.2.2.2.2.2)).2.1.2.1=(aM (bB d.1) (bE d.2)).2.1.2.1/\(aM (d.1.1,bH b7 d.1.2.2) (d.2.1,d.2.2.1,d.2.2.2.1.2,d.2.2.2.2.1.2,d.2.2.2.2.2)).2.1.2.2=(aM (bB d.1) (bE d.2)).2.1.2.2/\(aM (d.1.1,bH b7 d.1.2.2) (d.2.1,d.2.2.1,d.2.2.2.1.2,d.2.2.2.2.1.2,d.2.2.2.2.2)).1.1=(aM (bB d.1) (bE d.2)).1.1/\(aM (d.1.1,bH b7 d.1.2.2) (d.2.1,d.2.2.1,d.2.2.2.1.2,d.2.2.2.2.1.2,d.2.2.2.2.2)).2.1.1=(aM (bB d.1) (bE d.2)).2.1.1))/\∀(x_3:Unit),True->True/\((!jL (aM (bB d.1) (bE d.2)).1 (Prod.fst (aM (bB d.1) (bE d.2)).1,bH b7 x.1))=true->false=true)/\((!jL (aM (bB d.1) (bE d.2)).1 (Prod.fst (aM (bB d.1) (bE d.2)).1,bH b7 x.1))=false->True/\((!kQ (aM (bB d.1) (bE d.2)).2.1 (aM (bB d.1) (bE d.2)).2.1)=true->false=true)/\((!kQ (aM (bB d.1) (bE d.2)).2.1 (aM (bB d.1) (bE d.2)).2.1)=false->((!(aM (bB d.1) (bE d.2)).2.2 == (aM (d.1.1,bH b7 d.1.2.2) (d.2.1,d.2.2.1,d.2.2.2.1.2,d.2.2.2.2.1.2,d.2.2.2.2.2)).2.2)=true->false=true)/\((!(aM (bB d.1) (bE d.2)).2.2 == (aM (d.1.1,bH b7 d.1.2.2) (d.2.1,d.2.2.1,d.2.2.2.1.2,d.2.2.2.2.1.2,d.2.2.2.2.2)).2.2)=false->True/\(Ty.wf ai (gV (cH (bH bA (bt x_1 (1:Int))) (1:Int)))->(decide (gV (cH (bH bA (bt x_1 (1:Int))) (1:Int))<(0:Int))=true->false=true)/\(decide (gV (cH (bH bA (bt x_1 (1:Int))) (1:Int))<(0:Int))=false->True/\(Ty.wf ai (gM (Prod.fst (aM (bB d.1) (bE d.2)).2.1,(fp (aM (bB d.1) (bE d.2)).2.1 (cP x_1 (1:Int))).2) (gV (cH (bH bA (bt x_1 (1:Int))) (1:Int))))->(decide (gM (Prod.fst (aM (bB d.1) (bE d.2)).2.1,(fp (aM (bB d.1) (bE d.2)).2.1 (cP x_1 (1:Int))).2) (gV (cH (bH bA (bt x_1 (1:Int))) (1:Int)))<(0:Int))=true->false=true)/\(decide (gM (Prod.fst (aM (bB d.1) (bE d.2)).2.1,(fp (aM (bB d.1) (bE d.2)).2.1 (cP x_1 (1:Int))).2) (gV (cH (bH bA (bt x_1 (1:Int))) (1:Int)))<(0:Int))=false->((!decide (gM (Prod.fst (aM (bB d.1) (bE d.2)).2.1,(fp (aM (bB d.1) (bE d.2)).2.1 (cP x_1 (1:Int))).2) (gV (cH (bH bA (bt x_1 (1:Int))) (1:Int)))=rb (aM (bB d.1) (bE d.2)).2.1 (cP x_1 (1:Int))))=true->false=true)/\((!decide (gM (Prod.fst (aM (bB d.1) (bE d.2)).2.1,(fp (aM (bB d.1) (bE d.2)).2.1 (cP x_1 (1:Int))).2) (gV (cH (bH bA (bt x_1 (1:Int))) (1:Int)))=rb (aM (bB d.1) (bE d.2)).2.1 (cP x_1 (1:Int))))=false->ae true)))))))))))))))))))))))))))):=by
  intro d hw _
  simp only[exists_const,forall_const,decide_eq_true_eq,decide_eq_false_iff_not,beq_iff_eq,sxS]
  simp only[bB,bE,YW,acE,S5,YC,abT,ac5,ac6,H_,Zr,Z4,V5,QF,List.append_nil,List.nil_append,true_and,and_true]
  intro _ d1 _ d2
  have hT:dp (d.1.2.2.map bf)<=1048576:=XI (Fq hw.1) d1
  have hK:=XJ d2 (by omega) (ZX (Fq hw.1) d1) hw.2.2.2.1.1 hw.2.2.2.2.1.1
  replace hK:d.2.2.2.1.2.length<=1048576/\d.2.2.2.2.1.2.length<=1048576:=hK
  have hF:=Q8 hT
  obtain⟨hW,hR⟩:=acf (c:=(d.1.1,d.1.2.2.map bf)) (j:=(d.2.1,d.2.2.1,d.2.2.2.1.2,d.2.2.2.2.1.2,d.2.2.2.2.2)) hT hK
  repeat' (first
   | assumption
   | exact trivial
   | exact absurd trivial ‹¬True›
   | exact hF|exact hK
   | exact aeV ‹_› ‹_› ‹_›|exact adi ‹_› ‹_› ‹_›|exact aeW ‹_› ‹_›|exact aeX ‹_› ‹_›|exact lkR ‹_›|exact aeo ‹_›|exact rc8 ‹_› ‹_›|exact rc5 ‹_› hW ‹_›|exact rc6 ‹_› hW hR ‹_›|exact rc7 ‹_› hW hR ‹_›
   | exact aef (And.left ‹me _ _ _ _›)|exact aeg (And.left ‹me _ _ _ _›)|exact aeh (And.left ‹me _ _ _ _›)|exact aei (And.left ‹mf _ _ _ _ _›)|exact aej (And.left ‹mf _ _ _ _ _›)|exact aek (And.left ‹mf _ _ _ _ _›)|exact ael (And.left ‹mf _ _ _ _ _›)|exact aem (And.left ‹mf _ _ _ _ _›)
   | exact (‹me _ _ _ _›).2.2.1|exact (‹me _ _ _ _›).2.2.2|exact (‹mf _ _ _ _ _›).2.1|exact (‹mf _ _ _ _ _›).2.2
   | exact Ag.ens (And.left ‹me _ _ _ _›)
   | exact TZ (ce1 ‹_›).2 hF
   | exact TZ ‹_› hF
   | with_reducible apply And.intro
   | intro _)
  all_goals (first
   | (obtain⟨⟨_,⟨_,_⟩,_,_⟩,_,_,_⟩:=‹(_/\(_/\_)/\_/\_)/\_›
      have q:=ce1 ‹(_,List.map bf _)=_›
      refine⟨(_,_),?_,rfl,rfl,q.1⟩
      refine⟨⟨hT,by assumption,q.2,by assumption,?_,?_⟩,hK,?_,?_⟩<;>first|assumption|exact Hg ‹_›)
   | (obtain⟨⟨_,⟨_,_⟩,_,_⟩,_,_,_⟩:=‹(_/\(_/\_)/\_/\_)/\_›
      have q:=U1 ‹((_,List.map bf _),_,_)=_›
      rw[Ag.arg (And.left ‹me _ _ _ _›)] at q
      refine⟨_,?_,⟨q.2.2.2,q.2.1,by rw[q.2.2.1]⟩,rfl,by rw[q.2.2.1],by rw[q.2.2.1],q.2.1,by rw[q.2.2.1]⟩
      refine⟨⟨q.1,?_,?_,?_,?_⟩,?_,?_⟩<;>first|assumption|exact Hg ‹_›)
   | (have q:=ce5 (F:=fun c=>aM c (d.2.1,d.2.2.1,d.2.2.2.1.2,d.2.2.2.2.1.2,d.2.2.2.2.2)) ‹((_,List.map bf _),_,_)=aM (_,List.map bf _) _› ‹List.map bf _=List.map bf d.1.2.2›
      exact⟨_,q.1,⟨q.2.2.2,q.2.1,by rw[q.2.2.1]⟩,rfl,by rw[q.2.2.1],by rw[q.2.2.1],q.2.1,by rw[q.2.2.1]⟩)
   | (have q:=ce5 (F:=fun c=>aM c (d.2.1,d.2.2.1,d.2.2.2.1.2,d.2.2.2.2.1.2,d.2.2.2.2.2)) ‹((_,List.map bf _),_,_)=aM (_,List.map bf _) _› (ce1 ‹(_,List.map bf _)=(_,_)›).2
      exact⟨_,q.1,⟨q.2.2.2,q.2.1,by rw[q.2.2.1]⟩,rfl,by rw[q.2.2.1],by rw[q.2.2.1],q.2.1,by rw[q.2.2.1]⟩))
end Go.SF
