/- The law of the entry stored last. No condition. -/
import Derived.Test.YtbnplfhajafhmaaGreatSxC
import Derived.Test.YtbnplfhajafhmaaGreatSxM2
open Go.IntKind (i64 u8)
namespace Go.SF
open Go.SX Go
set_option linter.unusedVariables false
set_option linter.unusedSimpArgs false
theorem QK{es:List En}{n:Nat}(hn:n<=1000)(h:aO n es):bH es:=by
 obtain⟨h1,h2⟩:=h
 refine⟨by omega,fun e he=>?_⟩
 obtain⟨a,b,c⟩:=h2 e he
 unfold aj at a b c
 exact⟨by omega,by omega,by omega⟩
theorem Jl{c:Ca}{key:List Int}{r:Rs}(hc:bH c.2)(hk:key.length<=1048576)(hr:dF r)(h:(aQ c key r).2=true):bH (aQ c key r).1.2:=by
 have hB:bL c=true:=by
  unfold aQ at h
  split at h
  ·rename_i hh;exact hh.1
  ·cases h
 unfold aQ
 split
 ·exact EB (vR (e:=(key,r)) hc ⟨hk,hr⟩ (by have:=(dJ hB).2.2.1;omega)) _
 ·exact hc
theorem B7 :
 ∀(d:List Int),Ty.wf (Ty.sl (Ty.int u8)) d->True->True/\(I2 d=true->ah true)/\(I2 d=false->d.length<=(9223372036854775807:Nat)/\∀(r:(Int×List (List Int×Int×List Int×List Int))×List Int×Int×List Int×List Int),jU r->Ty.wf bE r.1/\Ty.wf aC r.2.1/\Ty.wf cA r.2.2->(bH r.1.2/\r.2.1.length<=(1048576:Nat)/\dF r.2.2)/\(Ty.wf bE (aQ r.1 r.2.1 r.2.2).1/\Ty.wf Ty.bool (aQ r.1 r.2.1 r.2.2).2->((!(aQ r.1 r.2.1 r.2.2).2)=true->ah true)/\((!(aQ r.1 r.2.1 r.2.2).2)=false->r.2.1.length<=(1048576:Nat)/\(bH r.1.2/\r.2.1.length<=(1048576:Nat)/\dF r.2.2)/\(Ty.wf bE (aQ r.1 r.2.1 r.2.2).1/\Ty.wf Ty.bool (aQ r.1 r.2.1 r.2.2).2->Ty.wf aC r.2.1->((!(aQ r.1 r.2.1 r.2.2).2)=true->false=true)/\((!(aQ r.1 r.2.1 r.2.2).2)=false->r.2.1.length<=(1048576:Nat)/\(bH (aQ r.1 r.2.1 r.2.2).1.2/\r.2.1.length<=(1048576:Nat))/\(Ty.wf bE (ea (aQ r.1 r.2.1 r.2.2).1 r.2.1).1/\Ty.wf cA (ea (aQ r.1 r.2.1 r.2.2).1 r.2.1).2.1/\Ty.wf Ty.bool (ea (aQ r.1 r.2.1 r.2.2).1 r.2.1).2.2->Ty.wf aC r.2.1->r.2.1.length<=(1048576:Nat)/\(bH (aQ r.1 r.2.1 r.2.2).1.2/\r.2.1.length<=(1048576:Nat)/\dF r.2.2)/\(Ty.wf bE (aQ (aQ r.1 r.2.1 r.2.2).1 r.2.1 r.2.2).1/\Ty.wf Ty.bool (aQ (aQ r.1 r.2.1 r.2.2).1 r.2.1 r.2.2).2->Ty.wf aC r.2.1->(Prod.snd (ea (aQ r.1 r.2.1 r.2.2).1 r.2.1).2=true->True/\(lF (ea (aQ r.1 r.2.1 r.2.2).1 r.2.1).2.1 r.2.2=true->(decide ((0:Int)<(↑(List.length (ea (aQ r.1 r.2.1 r.2.2).1 r.2.1).1.2):Int))=true->((0:Int)<=(0:Int)/\(0:Int)<(↑(List.length (ea (aQ r.1 r.2.1 r.2.2).1 r.2.1).1.2):Int))/\True/\(decide (Prod.fst (List.getD (ea (aQ r.1 r.2.1 r.2.2).1 r.2.1).1.2 ((0:Int).toNat) ([],(0:Int),[],[]))=r.2.1)=true->(Prod.snd (aQ (aQ r.1 r.2.1 r.2.2).1 r.2.1 r.2.2)=true->(decide ((↑(List.length (aQ (aQ r.1 r.2.1 r.2.2).1 r.2.1 r.2.2).1.2):Int)=(↑(List.length (aQ r.1 r.2.1 r.2.2).1.2):Int))=true->bH (aQ r.1 r.2.1 r.2.2).1.2/\bL (aQ r.1 r.2.1 r.2.2).1=true)/\(decide ((↑(List.length (aQ (aQ r.1 r.2.1 r.2.2).1 r.2.1 r.2.2).1.2):Int)=(↑(List.length (aQ r.1 r.2.1 r.2.2).1.2):Int))=false->false=true))/\(Prod.snd (aQ (aQ r.1 r.2.1 r.2.2).1 r.2.1 r.2.2)=false->false=true))/\(decide (Prod.fst (List.getD (ea (aQ r.1 r.2.1 r.2.2).1 r.2.1).1.2 ((0:Int).toNat) ([],(0:Int),[],[]))=r.2.1)=false->false=true))/\(decide ((0:Int)<(↑(List.length (ea (aQ r.1 r.2.1 r.2.2).1 r.2.1).1.2):Int))=false->false=true))/\(lF (ea (aQ r.1 r.2.1 r.2.2).1 r.2.1).2.1 r.2.2=false->false=true))/\(Prod.snd (ea (aQ r.1 r.2.1 r.2.2).1 r.2.1).2=false->false=true)))))))):=by
  intro d hd _
  have Ih:d.length<=9223372036854775807:=hd.1
  simp only[exists_const,forall_const,decide_eq_true_eq,decide_eq_false_iff_not,beq_iff_eq,sxS]
  refine fun _=>⟨Ih,fun r hr _=>?_⟩
  obtain⟨q1,q2,q3,q4⟩:=hr
  have Yh:r.2.1.length<=10000:=q2
  have Yi:r.2.2.2.1.length<=4000:=q3
  have Yl:r.2.2.2.2.length<=4000:=q4
  have hE:=QK (by omega) q1
  have hK:r.2.1.length<=1048576:=by omega
  have hR:dF r.2.2:=⟨by omega,by omega⟩
  refine⟨⟨hE,hK,hR⟩,fun _ hs=>?_⟩
  have ET:=Jl hE hK hR hs
  obtain⟨l,e1,e2,e3,e4⟩:=Hv hs
  rw[e1] at ET
  simp only[e1,hs,e3,e4,e2,hE,ET,hK,hR]
  have hq:lF r.2.2 r.2.2=true:=uc.2 rfl
  simp[hq]
end Go.SF
