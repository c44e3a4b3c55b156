/- General division, from the code of the other side. No condition. -/
import Derived.Test.YtobmiihdfklmaaaGreatSxM2
import Derived.Test.YtobmiihdfklmaaaGreatSxC
import Derived.Test.YtobmiihdfklmaaaGreatSxM1
set_option linter.unusedVariables false
set_option linter.unusedSimpArgs false
open Go.IntKind (i64 u8)
namespace Go.SF
open Go.SX Go
theorem TV{p:Int}(hp:au p){L:List Int}(hL:∀ t,El p (L.getD t 0))(b:List Int)(i:Nat)(c:Int)(j t:Nat):El p ((dr p b L i c j).getD t 0):=by
 rcases Nat.lt_or_ge t L.length with ht|ht
 ·rw[mY _ _ _ _ _ _ ht]
  split
  ·exact lC hp _ _
  ·exact hL t
 ·rw[xV (by rw[kP];exact ht)]
  exact gA hp
theorem WC{p r:Int}(hp:au p){a b:List Int}(ha:aq p a=true){k:Nat}(h:kc p r a b k=0):cJ p r a b k=cJ p r a b (k+1):=by
 show _=dr p b (cJ p r a b k) (a.length-b.length-k) (kc p r a b k) b.length
 rw[h]
 have lq:=Fw (r:=r) (b:=b) hp ha k
 generalize cJ p r a b k=L at *
 refine List.ext_getElem (by rw[kP]) fun t h1 h2=>?_
 have:=mY p b L (a.length-b.length-k) 0 b.length h1
 have e:(if a.length-b.length-k<=t/\t<a.length-b.length-k+b.length then bR p (L.getD t 0) (mulM p 0 (b.getD (t-(a.length-b.length-k)) 0)) else L.getD t 0)=L.getD t 0:=by
  split
  ·have hh:=lq t
   unfold El at hh
   unfold bR mulM
   rw[Int.zero_mul,Int.zero_emod,Int.sub_zero,Int.emod_eq_of_lt hh.1 hh.2]
  ·rfl
 rw[e,List.getD_eq_getElem?_getD,List.getD_eq_getElem?_getD,List.getElem?_eq_getElem h1,List.getElem?_eq_getElem h2] at this
 exact this.symm
theorem Pt :
 ∀(d:(Int×Int×Int)×List Int×List Int),Ty.wf bW d.1/\Ty.wf aj d.2.1/\Ty.wf aj d.2.2->Rj d.1.1 d.2.1 d.2.2->((0:Nat)+d.2.1.length)*(8:Nat)<=(140737488355328:Nat)/\(decide ((d.2.1.length:Int)<(d.2.2.length:Int))=true->([],[]++d.2.1)=hU d.1.1 d.2.1 d.2.2)/\(decide ((d.2.1.length:Int)<(d.2.2.length:Int))=false->((0:Int)<=i64.wrap (i64.wrap ((d.2.1.length:Int)-(d.2.2.length:Int))+(1:Int))/\i64.wrap (i64.wrap ((d.2.1.length:Int)-(d.2.2.length:Int))+(1:Int))<=i64.wrap (i64.wrap ((d.2.1.length:Int)-(d.2.2.length:Int))+(1:Int))/\i64.wrap (i64.wrap ((d.2.1.length:Int)-(d.2.2.length:Int))+(1:Int))*(↑(8:Nat):Int)<=(140737488355328:Int))/\((0:Int)<=i64.wrap ((d.2.2.length:Int)-(1:Int))/\i64.wrap ((d.2.2.length:Int)-(1:Int))<(d.2.2.length:Int))/\(au d.1.1/\El d.1.1 (d.2.2.getD (Int.toNat (i64.wrap ((d.2.2.length:Int)-(1:Int)))) (0:Int)))/\(Ty.wf ai (bk d.1.1 (d.2.2.getD (Int.toNat (i64.wrap ((d.2.2.length:Int)-(1:Int)))) (0:Int)))->(0:Nat)<=d.2.1.length-d.2.2.length+(1:Nat)/\(((ae d.1.1/\ae d.1.2.1/\ae d.1.2.2)/\ae d.2.1/\ae d.2.2/\aQ/\aQ/\ae (bk d.1.1 (d.2.2.getD (Int.toNat (i64.wrap ((d.2.2.length:Int)-(1:Int)))) (0:Int)))/\i64.wrap ((↑(List.length (List.replicate (Int.toNat (i64.wrap (i64.wrap ((d.2.1.length:Int)-(d.2.2.length:Int))+(1:Int)))) (0:Int))):Int)-(1:Int))=(d.2.1.length:Int)-(d.2.2.length:Int)-(↑(0:Nat):Int))/\(ae d.1.1/\ae d.1.2.1/\ae d.1.2.2)/\[]++d.2.1=cJ d.1.1 (bC d.1.1 d.2.2) d.2.1 d.2.2 (0:Nat)/\List.replicate (Int.toNat (i64.wrap (i64.wrap ((d.2.1.length:Int)-(d.2.2.length:Int))+(1:Int)))) (0:Int)=gb d.1.1 (bC d.1.1 d.2.2) d.2.1 d.2.2 (d.2.1.length-d.2.2.length+(1:Nat)) (0:Nat))/\∀(x:Nat),x<=d.2.1.length-d.2.2.length+(1:Nat)->(decide ((0:Int)<=(d.2.1.length:Int)-(d.2.2.length:Int)-(x:Int))=true->((0:Int)<=i64.wrap (i64.wrap ((d.2.1.length:Int)-(d.2.2.length:Int)-(x:Int)+(d.2.2.length:Int))-(1:Int))/\i64.wrap (i64.wrap ((d.2.1.length:Int)-(d.2.2.length:Int)-(x:Int)+(d.2.2.length:Int))-(1:Int))<(↑(List.length (cJ d.1.1 (bC d.1.1 d.2.2) d.2.1 d.2.2 x)):Int))/\(au d.1.1/\El d.1.1 (List.getD (cJ d.1.1 (bC d.1.1 d.2.2) d.2.1 d.2.2 x) (Int.toNat (i64.wrap (i64.wrap ((d.2.1.length:Int)-(d.2.2.length:Int)-(x:Int)+(d.2.2.length:Int))-(1:Int)))) (0:Int))/\El d.1.1 (bk d.1.1 (d.2.2.getD (Int.toNat (i64.wrap ((d.2.2.length:Int)-(1:Int)))) (0:Int))))/\(Ty.wf ai (mulM d.1.1 (List.getD (cJ d.1.1 (bC d.1.1 d.2.2) d.2.1 d.2.2 x) (Int.toNat (i64.wrap (i64.wrap ((d.2.1.length:Int)-(d.2.2.length:Int)-(x:Int)+(d.2.2.length:Int))-(1:Int)))) (0:Int)) (bk d.1.1 (d.2.2.getD (Int.toNat (i64.wrap ((d.2.2.length:Int)-(1:Int)))) (0:Int))))->((0:Int)<=(d.2.1.length:Int)-(d.2.2.length:Int)-(x:Int)/\(d.2.1.length:Int)-(d.2.2.length:Int)-(x:Int)<(↑(List.length (gb d.1.1 (bC d.1.1 d.2.2) d.2.1 d.2.2 (d.2.1.length-d.2.2.length+(1:Nat)) x)):Int))/\(decide (mulM d.1.1 (List.getD (cJ d.1.1 (bC d.1.1 d.2.2) d.2.1 d.2.2 x) (Int.toNat (i64.wrap (i64.wrap ((d.2.1.length:Int)-(d.2.2.length:Int)-(x:Int)+(d.2.2.length:Int))-(1:Int)))) (0:Int)) (bk d.1.1 (d.2.2.getD (Int.toNat (i64.wrap ((d.2.2.length:Int)-(1:Int)))) (0:Int)))=(0:Int))=true->∃(x':Nat),x'<=d.2.1.length-d.2.2.length+(1:Nat)/\d.2.1.length-d.2.2.length+(1:Nat)-x'<d.2.1.length-d.2.2.length+(1:Nat)-x/\((ae d.1.1/\ae d.1.2.1/\ae d.1.2.2)/\ae d.2.1/\ae d.2.2/\aQ/\aQ/\ae (bk d.1.1 (d.2.2.getD (Int.toNat (i64.wrap ((d.2.2.length:Int)-(1:Int)))) (0:Int)))/\i64.wrap ((d.2.1.length:Int)-(d.2.2.length:Int)-(x:Int)-(1:Int))=(d.2.1.length:Int)-(d.2.2.length:Int)-(x':Int))/\(ae d.1.1/\ae d.1.2.1/\ae d.1.2.2)/\cJ d.1.1 (bC d.1.1 d.2.2) d.2.1 d.2.2 x=cJ d.1.1 (bC d.1.1 d.2.2) d.2.1 d.2.2 x'/\List.set (gb d.1.1 (bC d.1.1 d.2.2) d.2.1 d.2.2 (d.2.1.length-d.2.2.length+(1:Nat)) x) (Int.toNat ((d.2.1.length:Int)-(d.2.2.length:Int)-(x:Int))) (mulM d.1.1 (List.getD (cJ d.1.1 (bC d.1.1 d.2.2) d.2.1 d.2.2 x) (Int.toNat (i64.wrap (i64.wrap ((d.2.1.length:Int)-(d.2.2.length:Int)-(x:Int)+(d.2.2.length:Int))-(1:Int)))) (0:Int)) (bk d.1.1 (d.2.2.getD (Int.toNat (i64.wrap ((d.2.2.length:Int)-(1:Int)))) (0:Int))))=gb d.1.1 (bC d.1.1 d.2.2) d.2.1 d.2.2 (d.2.1.length-d.2.2.length+(1:Nat)) x')/\(decide (mulM d.1.1 (List.getD (cJ d.1.1 (bC d.1.1 d.2.2) d.2.1 d.2.2 x) (Int.toNat (i64.wrap (i64.wrap ((d.2.1.length:Int)-(d.2.2.length:Int)-(x:Int)+(d.2.2.length:Int))-(1:Int)))) (0:Int)) (bk d.1.1 (d.2.2.getD (Int.toNat (i64.wrap ((d.2.2.length:Int)-(1:Int)))) (0:Int)))=(0:Int))=false->(0:Nat)<=d.2.2.length/\(((ae d.1.1/\ae d.1.2.1/\ae d.1.2.2)/\ae d.2.1/\ae d.2.2/\aQ/\aQ/\ae (bk d.1.1 (d.2.2.getD (Int.toNat (i64.wrap ((d.2.2.length:Int)-(1:Int)))) (0:Int)))/\ae ((d.2.1.length:Int)-(d.2.2.length:Int)-(x:Int))/\ae (mulM d.1.1 (List.getD (cJ d.1.1 (bC d.1.1 d.2.2) d.2.1 d.2.2 x) (Int.toNat (i64.wrap (i64.wrap ((d.2.1.length:Int)-(d.2.2.length:Int)-(x:Int)+(d.2.2.length:Int))-(1:Int)))) (0:Int)) (bk d.1.1 (d.2.2.getD (Int.toNat (i64.wrap ((d.2.2.length:Int)-(1:Int)))) (0:Int))))/\ae d.2.2/\ae (d.2.2.length:Int)/\(0:Int)=(↑(0:Nat):Int))/\(ae d.1.1/\ae d.1.2.1/\ae d.1.2.2)/\cJ d.1.1 (bC d.1.1 d.2.2) d.2.1 d.2.2 x=dr d.1.1 d.2.2 (cJ d.1.1 (bC d.1.1 d.2.2) d.2.1 d.2.2 x) (d.2.1.length-d.2.2.length-x) (kc d.1.1 (bC d.1.1 d.2.2) d.2.1 d.2.2 x) (0:Nat)/\List.set (gb d.1.1 (bC d.1.1 d.2.2) d.2.1 d.2.2 (d.2.1.length-d.2.2.length+(1:Nat)) x) (Int.toNat ((d.2.1.length:Int)-(d.2.2.length:Int)-(x:Int))) (mulM d.1.1 (List.getD (cJ d.1.1 (bC d.1.1 d.2.2) d.2.1 d.2.2 x) (Int.toNat (i64.wrap (i64.wrap ((d.2.1.length:Int)-(d.2.2.length:Int)-(x:Int)+(d.2.2.length:Int))-(1:Int)))) (0:Int)) (bk d.1.1 (d.2.2.getD (Int.toNat (i64.wrap ((d.2.2.length:Int)-(1:Int)))) (0:Int))))=gb d.1.1 (bC d.1.1 d.2.2) d.2.1 d.2.2 (d.2.1.length-d.2.2.length+(1:Nat)) (x+(1:Nat)))/\∀(x_1:Nat),x_1<=d.2.2.length->(decide ((x_1:Int)<(d.2.2.length:Int))=true->((0:Int)<=(x_1:Int)/\(x_1:Int)<(d.2.2.length:Int))/\((0:Int)<=i64.wrap ((d.2.1.length:Int)-(d.2.2.length:Int)-(x:Int)+(x_1:Int))/\i64.wrap ((d.2.1.length:Int)-(d.2.2.length:Int)-(x:Int)+(x_1:Int))<(↑(List.length (dr d.1.1 d.2.2 (cJ d.1.1 (bC d.1.1 d.2.2) d.2.1 d.2.2 x) (d.2.1.length-d.2.2.length-x) (kc d.1.1 (bC d.1.1 d.2.2) d.2.1 d.2.2 x) x_1)):Int))/\(au d.1.1/\El d.1.1 (mulM d.1.1 (List.getD (cJ d.1.1 (bC d.1.1 d.2.2) d.2.1 d.2.2 x) (Int.toNat (i64.wrap (i64.wrap ((d.2.1.length:Int)-(d.2.2.length:Int)-(x:Int)+(d.2.2.length:Int))-(1:Int)))) (0:Int)) (bk d.1.1 (d.2.2.getD (Int.toNat (i64.wrap ((d.2.2.length:Int)-(1:Int)))) (0:Int))))/\El d.1.1 (d.2.2.getD ((x_1:Int).toNat) (0:Int)))/\(au d.1.1/\El d.1.1 (List.getD (dr d.1.1 d.2.2 (cJ d.1.1 (bC d.1.1 d.2.2) d.2.1 d.2.2 x) (d.2.1.length-d.2.2.length-x) (kc d.1.1 (bC d.1.1 d.2.2) d.2.1 d.2.2 x) x_1) (Int.toNat (i64.wrap ((d.2.1.length:Int)-(d.2.2.length:Int)-(x:Int)+(x_1:Int)))) (0:Int))/\El d.1.1 (mulM d.1.1 (mulM d.1.1 (List.getD (cJ d.1.1 (bC d.1.1 d.2.2) d.2.1 d.2.2 x) (Int.toNat (i64.wrap (i64.wrap ((d.2.1.length:Int)-(d.2.2.length:Int)-(x:Int)+(d.2.2.length:Int))-(1:Int)))) (0:Int)) (bk d.1.1 (d.2.2.getD (Int.toNat (i64.wrap ((d.2.2.length:Int)-(1:Int)))) (0:Int)))) (d.2.2.getD ((x_1:Int).toNat) (0:Int))))/\((0:Int)<=i64.wrap ((d.2.1.length:Int)-(d.2.2.length:Int)-(x:Int)+(x_1:Int))/\i64.wrap ((d.2.1.length:Int)-(d.2.2.length:Int)-(x:Int)+(x_1:Int))<(↑(List.length (dr d.1.1 d.2.2 (cJ d.1.1 (bC d.1.1 d.2.2) d.2.1 d.2.2 x) (d.2.1.length-d.2.2.length-x) (kc d.1.1 (bC d.1.1 d.2.2) d.2.1 d.2.2 x) x_1)):Int))/\(Ty.wf ai (bR d.1.1 (List.getD (dr d.1.1 d.2.2 (cJ d.1.1 (bC d.1.1 d.2.2) d.2.1 d.2.2 x) (d.2.1.length-d.2.2.length-x) (kc d.1.1 (bC d.1.1 d.2.2) d.2.1 d.2.2 x) x_1) (Int.toNat (i64.wrap ((d.2.1.length:Int)-(d.2.2.length:Int)-(x:Int)+(x_1:Int)))) (0:Int)) (mulM d.1.1 (mulM d.1.1 (List.getD (cJ d.1.1 (bC d.1.1 d.2.2) d.2.1 d.2.2 x) (Int.toNat (i64.wrap (i64.wrap ((d.2.1.length:Int)-(d.2.2.length:Int)-(x:Int)+(d.2.2.length:Int))-(1:Int)))) (0:Int)) (bk d.1.1 (d.2.2.getD (Int.toNat (i64.wrap ((d.2.2.length:Int)-(1:Int)))) (0:Int)))) (d.2.2.getD ((x_1:Int).toNat) (0:Int))))->Ty.wf ai (mulM d.1.1 (mulM d.1.1 (List.getD (cJ d.1.1 (bC d.1.1 d.2.2) d.2.1 d.2.2 x) (Int.toNat (i64.wrap (i64.wrap ((d.2.1.length:Int)-(d.2.2.length:Int)-(x:Int)+(d.2.2.length:Int))-(1:Int)))) (0:Int)) (bk d.1.1 (d.2.2.getD (Int.toNat (i64.wrap ((d.2.2.length:Int)-(1:Int)))) (0:Int)))) (d.2.2.getD ((x_1:Int).toNat) (0:Int)))->∃(x':Nat),x'<=d.2.2.length/\d.2.2.length-x'<d.2.2.length-x_1/\((ae d.1.1/\ae d.1.2.1/\ae d.1.2.2)/\ae d.2.1/\ae d.2.2/\aQ/\aQ/\ae (bk d.1.1 (d.2.2.getD (Int.toNat (i64.wrap ((d.2.2.length:Int)-(1:Int)))) (0:Int)))/\ae ((d.2.1.length:Int)-(d.2.2.length:Int)-(x:Int))/\ae (mulM d.1.1 (List.getD (cJ d.1.1 (bC d.1.1 d.2.2) d.2.1 d.2.2 x) (Int.toNat (i64.wrap (i64.wrap ((d.2.1.length:Int)-(d.2.2.length:Int)-(x:Int)+(d.2.2.length:Int))-(1:Int)))) (0:Int)) (bk d.1.1 (d.2.2.getD (Int.toNat (i64.wrap ((d.2.2.length:Int)-(1:Int)))) (0:Int))))/\ae d.2.2/\ae (d.2.2.length:Int)/\i64.wrap ((x_1:Int)+(1:Int))=(x':Int))/\(ae d.1.1/\ae d.1.2.1/\ae d.1.2.2)/\List.set (dr d.1.1 d.2.2 (cJ d.1.1 (bC d.1.1 d.2.2) d.2.1 d.2.2 x) (d.2.1.length-d.2.2.length-x) (kc d.1.1 (bC d.1.1 d.2.2) d.2.1 d.2.2 x) x_1) (Int.toNat (i64.wrap ((d.2.1.length:Int)-(d.2.2.length:Int)-(x:Int)+(x_1:Int)))) (bR d.1.1 (List.getD (dr d.1.1 d.2.2 (cJ d.1.1 (bC d.1.1 d.2.2) d.2.1 d.2.2 x) (d.2.1.length-d.2.2.length-x) (kc d.1.1 (bC d.1.1 d.2.2) d.2.1 d.2.2 x) x_1) (Int.toNat (i64.wrap ((d.2.1.length:Int)-(d.2.2.length:Int)-(x:Int)+(x_1:Int)))) (0:Int)) (mulM d.1.1 (mulM d.1.1 (List.getD (cJ d.1.1 (bC d.1.1 d.2.2) d.2.1 d.2.2 x) (Int.toNat (i64.wrap (i64.wrap ((d.2.1.length:Int)-(d.2.2.length:Int)-(x:Int)+(d.2.2.length:Int))-(1:Int)))) (0:Int)) (bk d.1.1 (d.2.2.getD (Int.toNat (i64.wrap ((d.2.2.length:Int)-(1:Int)))) (0:Int)))) (d.2.2.getD ((x_1:Int).toNat) (0:Int))))=dr d.1.1 d.2.2 (cJ d.1.1 (bC d.1.1 d.2.2) d.2.1 d.2.2 x) (d.2.1.length-d.2.2.length-x) (kc d.1.1 (bC d.1.1 d.2.2) d.2.1 d.2.2 x) x'/\ae (gb d.1.1 (bC d.1.1 d.2.2) d.2.1 d.2.2 (d.2.1.length-d.2.2.length+(1:Nat)) (x+(1:Nat)))))/\(decide ((x_1:Int)<(d.2.2.length:Int))=false->∃(x':Nat),x'<=d.2.1.length-d.2.2.length+(1:Nat)/\d.2.1.length-d.2.2.length+(1:Nat)-x'<d.2.1.length-d.2.2.length+(1:Nat)-x/\((ae d.1.1/\ae d.1.2.1/\ae d.1.2.2)/\ae d.2.1/\ae d.2.2/\aQ/\aQ/\ae (bk d.1.1 (d.2.2.getD (Int.toNat (i64.wrap ((d.2.2.length:Int)-(1:Int)))) (0:Int)))/\i64.wrap ((d.2.1.length:Int)-(d.2.2.length:Int)-(x:Int)-(1:Int))=(d.2.1.length:Int)-(d.2.2.length:Int)-(x':Int))/\(ae d.1.1/\ae d.1.2.1/\ae d.1.2.2)/\dr d.1.1 d.2.2 (cJ d.1.1 (bC d.1.1 d.2.2) d.2.1 d.2.2 x) (d.2.1.length-d.2.2.length-x) (kc d.1.1 (bC d.1.1 d.2.2) d.2.1 d.2.2 x) x_1=cJ d.1.1 (bC d.1.1 d.2.2) d.2.1 d.2.2 x'/\gb d.1.1 (bC d.1.1 d.2.2) d.2.1 d.2.2 (d.2.1.length-d.2.2.length+(1:Nat)) (x+(1:Nat))=gb d.1.1 (bC d.1.1 d.2.2) d.2.1 d.2.2 (d.2.1.length-d.2.2.length+(1:Nat)) x'))))/\(decide ((0:Int)<=(d.2.1.length:Int)-(d.2.2.length:Int)-(x:Int))=false->((0:Int)<=i64.wrap ((d.2.2.length:Int)-(1:Int))/\i64.wrap ((d.2.2.length:Int)-(1:Int))<=(↑(List.length (cJ d.1.1 (bC d.1.1 d.2.2) d.2.1 d.2.2 x)):Int))/\(gb d.1.1 (bC d.1.1 d.2.2) d.2.1 d.2.2 (d.2.1.length-d.2.2.length+(1:Nat)) x,List.take (ka (List.take (Int.toNat (i64.wrap ((d.2.2.length:Int)-(1:Int)))) (cJ d.1.1 (bC d.1.1 d.2.2) d.2.1 d.2.2 x))) (List.take (Int.toNat (i64.wrap ((d.2.2.length:Int)-(1:Int)))) (cJ d.1.1 (bC d.1.1 d.2.2) d.2.1 d.2.2 x)))=hU d.1.1 d.2.1 d.2.2))):=by
  intro (d:Fd×List Int×List Int) hw hp
  obtain⟨⟨p,g,t⟩,a,b⟩:=d
  replace hp:Rj p a b:=hp
  simp only[exists_const,forall_const,decide_eq_true_eq,decide_eq_false_iff_not,beq_iff_eq,sxS]
  obtain⟨f,rfl,ha,hb,vd⟩:=hp
  obtain⟨hm,qv,hla,_⟩:=c6 ha
  obtain⟨_,lp,FX,_⟩:=c6 hb
  have hq:=(b9 hm).1
  have Yz:i64.wrap ((b.length:Int)-1)=((b.length-1:Nat):Int):=by rw[wrap_small (by omega)];omega
  simp only[Yz,Int.toNat_natCast,lB,ui,kP,List.length_replicate]
  refine⟨by omega,fun h=>?_,fun h=>?_⟩
  ·unfold hU
   rw[if_pos (by omega)];rfl
  have fW:i64.wrap (i64.wrap ((a.length:Int)-(b.length:Int))+1)=((a.length-b.length+1:Nat):Int):=by
   rw[wrap_small (n:=(a.length:Int)-(b.length:Int)) (by omega),wrap_small (by omega)];omega
  rw[fW,Int.toNat_natCast]
  refine⟨⟨by omega,by omega,by omega⟩,⟨by omega,by omega⟩,⟨hq,fc hq lp _⟩,fun _=>⟨by omega,⟨by rw[wrap_small (by omega)];omega,rfl,Ea _ _ _ _ _⟩,fun k hk=>⟨fun h2=>?_,fun h2=>?_⟩⟩⟩
  ·have nQ:i64.wrap (i64.wrap ((a.length:Int)-(b.length:Int)-(k:Int)+(b.length:Int))-1)=((a.length-1-k:Nat):Int):=by
    rw[wrap_small (n:=(a.length:Int)-(b.length:Int)-(k:Int)+(b.length:Int)) (by omega),wrap_small (by omega)];omega
   have hw4:(a.length:Int)-(b.length:Int)-(k:Int)=((a.length-b.length-k:Nat):Int):=by omega
   have hC:mulM (af f) ((cJ (af f) (bC (af f) b) a b k).getD (a.length-1-k) 0) (bk (af f) (b.getD (b.length-1) 0))=kc (af f) (bC (af f) b) a b k:=rfl
   have lq:=Fw (r:=bC (af f) b) (b:=b) hq qv k
   rw[nQ]
   simp only[Int.toNat_natCast]
   rw[hC]
   have mB:((a.length:Int)-(b.length:Int)-((k+1:Nat):Int))=i64.wrap ((a.length:Int)-(b.length:Int)-(k:Int)-1):=by rw[wrap_small (by omega)];omega
   have htn:((a.length:Int)-(b.length:Int)-(k:Int)).toNat=a.length-b.length-k:=by omega
   rw[htn]
   refine⟨⟨by omega,by omega⟩,⟨hq,lq _,uj hq _⟩,fun _=>⟨⟨by omega,by omega⟩,fun h5=>⟨k+1,by omega,by omega,mB.symm,WC hq qv h5,Hn (by omega)⟩,fun h5=>⟨by omega,⟨rfl,Dy _ _ _ _ _,Hn (by omega)⟩,fun y hy=>⟨fun h3=>?_,fun h3=>?_⟩⟩⟩⟩
   ·have YA:i64.wrap ((a.length:Int)-(b.length:Int)-(k:Int)+(y:Int))=((a.length-b.length-k+y:Nat):Int):=by rw[wrap_small (by omega)];omega
    rw[YA,Int.toNat_natCast]
    refine⟨⟨by omega,by omega⟩,⟨by omega,by omega⟩,⟨hq,f_ hq _ _,fc hq lp _⟩,⟨hq,TV hq lq _ _ _ _ _,f_ hq _ _⟩,⟨by omega,by omega⟩,fun _ _=>⟨y+1,by omega,by omega,aG (by omega),?_⟩⟩
    exact Fx (by rw[lB];omega)
   ·refine⟨k+1,by omega,by omega,mB.symm,?_,rfl⟩
    rw[show y=b.length by omega];rfl
  ·rw[show k=a.length-b.length+1 by omega]
   exact⟨⟨by omega,by omega⟩,WA hm ha (N9 hb (by omega)) (by omega) (by omega)⟩
theorem RB{u:Nat}(h:u<128):e7 u=[(u:Int)]:=by rw[e7,dif_pos h]
theorem X7{u:Nat}(h:128<=u):e7 u=((u%128+128:Nat):Int)::e7 (u/128):=by rw[e7,dif_neg (by omega)]
theorem TW:∀(k u:Nat),u<128^(k+1)->1<=(e7 u).length/\(e7 u).length<=k+1
 | 0,u,h=>by rw[RB (by omega)];simp
 | k+1,u,h=>by
   by_cases h1:u<128
   ·rw[RB h1];simp
   ·rw[X7 (by omega),List.length_cons]
    have:=TW k (u/128) (by rw[Nat.div_lt_iff_lt_mul (by omega)];rw[Nat.pow_succ] at h;omega)
    omega
theorem Qp{u:Nat}(h:u<=4398046511103):1<=(e7 u).length/\(e7 u).length<=6:=TW 5 u (by omega)
theorem TD{x:Int}(h:cM x):n7 x<=2199023255552:=by unfold n7;unfold cM at h;split<;>omega
theorem Rh{x:Int}(h:cM x):(n7 x:Int)=if x<0 then -2*x-1 else 2*x:=by unfold n7;unfold cM at h;split<;>omega
theorem ku(x:Int):(bw x).length<=6:=by
 unfold bw
 split
 ·rename_i h;exact (Qp (by have:=TD h;omega)).2
 ·simp
theorem y_:∀(l:List Int),(l.flatMap bw).length<=6*l.length
 | []=>by simp
 | x::l=>by rw[List.flatMap_cons,List.length_append,List.length_cons];have:=ku x;have:=y_ l;omega
theorem vz(l:List Int):(kZ l).length<=6+6*l.length:=by
 unfold kZ
 rw[List.length_append]
 have:=ku l.length;have:=y_ l;omega
theorem vJ{n:Int}(h:0<=n/\n<=255):u8.wrap n=n:=by
 unfold IntKind.wrap
 simp[IntKind.signed,IntKind.bits]
 omega
theorem EG{d:Int}{x:List Int×Nat}(h:iI d x)(hw:cM d):x.1.length<=6:=by
 have:=congrArg List.length h.1
 rw[List.length_append] at this
 have:=(Qp (u:=n7 d) (by have:=TD hw;omega)).2
 omega
theorem Gn{d:Int}(hw:cM d):iI d ([],n7 d):=⟨rfl,by have:=TD hw;show n7 d<=_;omega,by show 0<=100;omega⟩
theorem YN{n:Nat}:u8.wrap (i64.wrap (128+(n:Int).tmod 128))=((n%128+128:Nat):Int)/\u8.wrap (i64.wrap ((n:Int).tmod 128+128))=((n%128+128:Nat):Int):=by
 have:(n:Int).tmod 128=((n%128:Nat):Int):=by rw[Int.tmod_eq_emod_of_nonneg (by omega)];omega
 rw[this,wrap_small (by omega),wrap_small (by omega),vJ (by omega),vJ (by omega)]
 constructor<;>omega
theorem YM{n:Nat}(h:n<=4398046511104):i64.wrap ((n:Int).tdiv 128)=((n/128:Nat):Int):=by
 have:(n:Int).tdiv 128=((n/128:Nat):Int):=by rw[Int.tdiv_eq_ediv_of_nonneg (by omega)];omega
 rw[this,wrap_small (by omega)]
theorem Vo{d:Int}{x:List Int×Nat}(h:iI d x)(hw:cM d)(hx:128<=(x.2:Int)):iI d (x.1++[((x.2%128+128:Nat):Int)],x.2/128):=by
 refine⟨?_,?_,?_⟩
 ·show (x.1++[((x.2%128+128:Nat):Int)])++e7 (x.2/128)=_
  rw[List.append_assoc,List.singleton_append,<-X7 (by omega)];exact h.1
 ·have:=h.2.1;show x.2/128<=_;omega
 ·have:=EG h hw
  show (x.1++[_]).length<=100
  rw[List.length_append,List.length_singleton];omega
theorem Vn{d:Int}{x:List Int×Nat}(h:iI d x)(hw:cM d)(hx:¬128<=(x.2:Int)):x.1++[u8.wrap (x.2:Int)]=bw d:=by
 rw[vJ (by omega)]
 unfold bw
 rw[if_pos hw,<-h.1,RB (by omega)]
theorem QU{d:Int}(hw:cM d)(h:d<0):i64.wrap (i64.wrap (-2*d)-1)=(n7 d:Int):=by
 rw[Rh hw,if_pos h]
 unfold cM at hw
 have h1:i64.wrap (-2*d) = -2*d:=wrap_small (by omega)
 rw[h1,wrap_small (by omega)]
theorem QV{d:Int}(hw:cM d)(h:¬d<0):i64.wrap (2*d)=(n7 d:Int):=by
 rw[Rh hw,if_neg h]
 unfold cM at hw
 rw[wrap_small (by omega)]
theorem KN :
 ∀(d:List Int),Ty.wf bp d->d.length<=(1048576:Nat)->(0:Nat)<=d.length/\((d=d/\aQ/\(0:Int)=(↑(0:Nat):Int))/\[]=List.take (0:Nat) d)/\∀(x:Nat),x<=d.length->(decide ((x:Int)<(d.length:Int))=true->((0:Int)<=(x:Int)/\(x:Int)<(d.length:Int))/\(List.length (List.take x d)+List.length [d.getD ((x:Int).toNat) (0:Int)])*(1:Nat)<=(140737488355328:Nat)/\∃(x':Nat),x'<=d.length/\d.length-x'<d.length-x/\(d=d/\aQ/\i64.wrap ((x:Int)+(1:Int))=(x':Int))/\List.take x d++[d.getD ((x:Int).toNat) (0:Int)]=List.take x' d)/\(decide ((x:Int)<(d.length:Int))=false->List.take x d=d):=by
  intro d hw hp
  have hp:d.length<=1048576:=hp
  simp only[exists_const,forall_const,decide_eq_true_eq,decide_eq_false_iff_not,beq_iff_eq,sxS]
  refine⟨Nat.zero_le _,⟨rfl,rfl⟩,fun x hx=>⟨fun h=>?_,fun h=>?_⟩⟩
  ·have h1:x<d.length:=by omega
   have fW:i64.wrap ((x:Int)+1)=((x+1:Nat):Int):=by rw[wrap_small (by omega)];rfl
   refine⟨⟨by omega,h⟩,by rw[List.length_take,List.length_singleton];omega,x+1,by omega,by omega,fW,?_⟩
   rw[List.take_succ_eq_append_getElem h1];simp[h1]
  ·have h1:x=d.length:=by omega
   rw[h1,List.take_length]
theorem KJ :
 ∀(d:Int),Ty.wf ai d->True->True/\((!(decide ((-1099511627776:Int)<=d)&&decide (d<=(1099511627776:Int))))=true->[]=bw d)/\((!(decide ((-1099511627776:Int)<=d)&&decide (d<=(1099511627776:Int))))=false->(decide (d<(0:Int))=true->(iI d ([],n7 d)/\cM d)/\((d=d/\aQ/\i64.wrap (i64.wrap ((-2:Int)*d)-(1:Int))=(n7 d:Int))/\([]:List Int)=[])/\∀(x:List Int×Nat),iI d x/\cM d->(decide ((128:Int)<=(x.2:Int))=true->(128:Int)≠(0:Int)/\(x.1.length+List.length [u8.wrap (i64.wrap ((128:Int)+Int.tmod (x.2:Int) (128:Int)))])*(1:Nat)<=(140737488355328:Nat)/\(128:Int)≠(0:Int)/\∃(x':List Int×Nat),(iI d x'/\cM d)/\x'.2<x.2/\(d=d/\aQ/\i64.wrap (Int.tdiv (x.2:Int) (128:Int))=(x'.2:Int))/\x.1++[u8.wrap (i64.wrap ((128:Int)+Int.tmod (x.2:Int) (128:Int)))]=x'.1)/\(decide ((128:Int)<=(x.2:Int))=false->(x.1.length+List.length [u8.wrap (x.2:Int)])*(1:Nat)<=(140737488355328:Nat)/\x.1++[u8.wrap (x.2:Int)]=bw d))/\(decide (d<(0:Int))=false->(iI d ([],n7 d)/\cM d)/\((d=d/\aQ/\i64.wrap ((2:Int)*d)=(n7 d:Int))/\([]:List Int)=[])/\∀(x:List Int×Nat),iI d x/\cM d->(decide ((128:Int)<=(x.2:Int))=true->(128:Int)≠(0:Int)/\(x.1.length+List.length [u8.wrap (i64.wrap ((128:Int)+Int.tmod (x.2:Int) (128:Int)))])*(1:Nat)<=(140737488355328:Nat)/\(128:Int)≠(0:Int)/\∃(x':List Int×Nat),(iI d x'/\cM d)/\x'.2<x.2/\(d=d/\aQ/\i64.wrap (Int.tdiv (x.2:Int) (128:Int))=(x'.2:Int))/\x.1++[u8.wrap (i64.wrap ((128:Int)+Int.tmod (x.2:Int) (128:Int)))]=x'.1)/\(decide ((128:Int)<=(x.2:Int))=false->(x.1.length+List.length [u8.wrap (x.2:Int)])*(1:Nat)<=(140737488355328:Nat)/\x.1++[u8.wrap (x.2:Int)]=bw d))):=by
  intro d hw hp
  simp only[exists_const,forall_const,decide_eq_true_eq,decide_eq_false_iff_not,beq_iff_eq,sxS]
  have hW:(decide (-1099511627776<=d)&&decide (d<=1099511627776))=true↔cM d:=by unfold cM;simp
  refine⟨fun h=>?_,fun h=>?_⟩
  ·unfold bw
   rw[if_neg (fun h1=>by rw[hW.2 h1] at h;cases h)]
  ·have hd:=hW.1 h
   have body:∀(x:List Int×Nat),iI d x/\cM d->(128<=(x.2:Int)->(128:Int)≠0/\(x.1.length+[u8.wrap (i64.wrap (128+(x.2:Int).tmod 128))].length)*1<=140737488355328/\(128:Int)≠0 ∧
    ∃ x':List Int×Nat,(iI d x'/\cM d)/\x'.2<x.2/\i64.wrap ((x.2:Int).tdiv 128)=(x'.2:Int)/\x.1++[u8.wrap (i64.wrap (128+(x.2:Int).tmod 128))]=x'.1) ∧
    (¬128<=(x.2:Int)->(x.1.length+[u8.wrap (x.2:Int)].length)*1<=140737488355328/\x.1++[u8.wrap (x.2:Int)]=bw d):=by
    intro x ⟨hj,Mp⟩
    have hl:=EG hj hd
    refine⟨fun h1=>⟨by omega,by rw[List.length_singleton];omega,by omega,(x.1++[((x.2%128+128:Nat):Int)],x.2/128),⟨Vo hj hd h1,hd⟩,?_,YM hj.2.1,by rw[YN.1]⟩,fun h1=>⟨by rw[List.length_singleton];omega,Vn hj hd h1⟩⟩
    show x.2/128<x.2
    omega
   exact⟨fun h1=>⟨⟨Gn hd,hd⟩,QU hd h1,body⟩,fun h1=>⟨⟨Gn hd,hd⟩,QV hd h1,body⟩⟩
theorem Kx :
 ∀(d:Int),Ty.wf ai d->cM d->(decide (d<(0:Int))=true->(iI d ([],n7 d)/\cM d)/\((d=d/\aQ/\i64.wrap (i64.wrap ((-2:Int)*d)-(1:Int))=(n7 d:Int))/\([]:List Int)=[])/\∀(x:List Int×Nat),iI d x/\cM d->(decide ((128:Int)<=(x.2:Int))=true->(128:Int)≠(0:Int)/\(x.1.length+List.length [u8.wrap (i64.wrap (Int.tmod (x.2:Int) (128:Int)+(128:Int)))])*(1:Nat)<=(140737488355328:Nat)/\(128:Int)≠(0:Int)/\∃(x':List Int×Nat),(iI d x'/\cM d)/\x'.2<x.2/\(d=d/\aQ/\i64.wrap (Int.tdiv (x.2:Int) (128:Int))=(x'.2:Int))/\x.1++[u8.wrap (i64.wrap (Int.tmod (x.2:Int) (128:Int)+(128:Int)))]=x'.1)/\(decide ((128:Int)<=(x.2:Int))=false->(x.1.length+List.length [u8.wrap (x.2:Int)])*(1:Nat)<=(140737488355328:Nat)/\x.1++[u8.wrap (x.2:Int)]=bw d))/\(decide (d<(0:Int))=false->(iI d ([],n7 d)/\cM d)/\((d=d/\aQ/\i64.wrap ((2:Int)*d)=(n7 d:Int))/\([]:List Int)=[])/\∀(x:List Int×Nat),iI d x/\cM d->(decide ((128:Int)<=(x.2:Int))=true->(128:Int)≠(0:Int)/\(x.1.length+List.length [u8.wrap (i64.wrap (Int.tmod (x.2:Int) (128:Int)+(128:Int)))])*(1:Nat)<=(140737488355328:Nat)/\(128:Int)≠(0:Int)/\∃(x':List Int×Nat),(iI d x'/\cM d)/\x'.2<x.2/\(d=d/\aQ/\i64.wrap (Int.tdiv (x.2:Int) (128:Int))=(x'.2:Int))/\x.1++[u8.wrap (i64.wrap (Int.tmod (x.2:Int) (128:Int)+(128:Int)))]=x'.1)/\(decide ((128:Int)<=(x.2:Int))=false->(x.1.length+List.length [u8.wrap (x.2:Int)])*(1:Nat)<=(140737488355328:Nat)/\x.1++[u8.wrap (x.2:Int)]=bw d)):=by
  intro d hw hd
  have hd:cM d:=hd
  simp only[exists_const,forall_const,decide_eq_true_eq,decide_eq_false_iff_not,beq_iff_eq,sxS]
  have body:∀(x:List Int×Nat),iI d x/\cM d->(128<=(x.2:Int)->(128:Int)≠0/\(x.1.length+[u8.wrap (i64.wrap ((x.2:Int).tmod 128+128))].length)*1<=140737488355328/\(128:Int)≠0 ∧
   ∃ x':List Int×Nat,(iI d x'/\cM d)/\x'.2<x.2/\i64.wrap ((x.2:Int).tdiv 128)=(x'.2:Int)/\x.1++[u8.wrap (i64.wrap ((x.2:Int).tmod 128+128))]=x'.1) ∧
   (¬128<=(x.2:Int)->(x.1.length+[u8.wrap (x.2:Int)].length)*1<=140737488355328/\x.1++[u8.wrap (x.2:Int)]=bw d):=by
   intro x ⟨hj,Mp⟩
   have hl:=EG hj hd
   refine⟨fun h1=>⟨by omega,by rw[List.length_singleton];omega,by omega,(x.1++[((x.2%128+128:Nat):Int)],x.2/128),⟨Vo hj hd h1,hd⟩,?_,YM hj.2.1,by rw[YN.2]⟩,fun h1=>⟨by rw[List.length_singleton];omega,Vn hj hd h1⟩⟩
   show x.2/128<x.2
   omega
  exact⟨fun h1=>⟨⟨Gn hd,hd⟩,QU hd h1,body⟩,fun h1=>⟨⟨Gn hd,hd⟩,QV hd h1,body⟩⟩
theorem P1 :
 ∀(d:List Int×List Int),Ty.wf bp d.1/\Ty.wf bp d.2->d.1.length<=(1048576:Nat)/\d.2.length<=(1048576:Nat)->d.1.length<=(1048576:Nat)/\(Ty.wf bp d.1->(0:Nat)<=d.2.length/\((d.1=d.1/\d.2=d.2/\aQ/\(0:Int)=(↑(0:Nat):Int))/\d.1=d.1++List.take (0:Nat) d.2)/\∀(x:Nat),x<=d.2.length->(decide ((x:Int)<(d.2.length:Int))=true->((0:Int)<=(x:Int)/\(x:Int)<(d.2.length:Int))/\(List.length (d.1++List.take x d.2)+List.length [d.2.getD ((x:Int).toNat) (0:Int)])*(1:Nat)<=(140737488355328:Nat)/\∃(x':Nat),x'<=d.2.length/\d.2.length-x'<d.2.length-x/\(d.1=d.1/\d.2=d.2/\aQ/\i64.wrap ((x:Int)+(1:Int))=(x':Int))/\d.1++List.take x d.2++[d.2.getD ((x:Int).toNat) (0:Int)]=d.1++List.take x' d.2)/\(decide ((x:Int)<(d.2.length:Int))=false->d.1++List.take x d.2=d.1++d.2)):=by
  intro d hw hp
  have et:d.1.length<=1048576:=hp.1
  have je:d.2.length<=1048576:=hp.2
  simp only[exists_const,forall_const,decide_eq_true_eq,decide_eq_false_iff_not,beq_iff_eq,sxS]
  refine⟨et,fun _=>⟨Nat.zero_le _,by simp,fun x hx=>⟨fun h=>?_,fun h=>?_⟩⟩⟩
  ·have h1:x<d.2.length:=by omega
   have fW:i64.wrap ((x:Int)+1)=((x+1:Nat):Int):=by rw[wrap_small (by omega)];rfl
   refine⟨⟨by omega,h⟩,by rw[List.length_append,List.length_take,List.length_singleton];omega,x+1,by omega,by omega,fW,?_⟩
   rw[List.take_succ_eq_append_getElem h1,List.append_assoc];simp[h1]
  ·have h1:x=d.2.length:=by omega
   rw[h1,List.take_length]
theorem ade{f:Int}(h:af f≠0):0<=f/\f<=255:=by
 have:=fU.1 (u7.2 h)
 omega
theorem OO{l:List Int}(h:cn l=true):l.length<=400/\∀ x∈l,cM x:=by
 unfold cn at h
 simp only[Bool.and_eq_true,decide_eq_true_eq] at h
 exact h
theorem F8{d:Jb}(h:aK d=true):u8.wrap d.1=d.1/\u8.wrap d.2.1=d.2.1/\(d.2.2.1.length<=400/\∀ x∈d.2.2.1,cM x)/\(d.2.2.2.1.length<=400/\∀ x∈d.2.2.2.1,cM x)/\cM d.2.2.2.2:=by
 obtain⟨k,f,a,b,c⟩:=d
 obtain⟨⟨h1,h2,h3⟩,h4,h5,h6,h7,h8⟩:=vn.1 h
 exact⟨vJ (by omega),vJ (ade h2),OO h4,OO h5,by show -1099511627776<=c/\c<=1099511627776;omega⟩
theorem ZE(d:List Int×List Int)(k:Nat):(qV d k).length<=d.1.length+6+6*d.2.length:=by
 unfold qV
 rw[List.length_append,List.length_append]
 have:=ku d.2.length;have:=y_ (d.2.take k)
 rw[List.length_take] at this
 omega
theorem K_{α:Type}{l:List α}{z:α}{k:Nat}(h:k<l.length):l.take (k+1)=l.take k++[l.getD k z]:=by
 rw[List.take_succ_eq_append_getElem h];simp[h]
theorem adg{d:List Int×List Int}{k:Nat}(h:k<d.2.length):qV d (k+1)=qV d k++bw (d.2.getD k 0):=by
 unfold qV
 rw[K_ (z:=0) h,List.flatMap_append,List.flatMap_singleton]
 simp only[List.append_assoc]
theorem Iu :
 ∀(d:List Int×List Int),Ty.wf bp d.1/\Ty.wf aj d.2->d.1.length<=(524288:Nat)/\d.2.length<=(400:Nat)->True/\(Ty.wf bp (bw (d.2.length:Int))->(d.1.length<=(1048576:Nat)/\List.length (bw (d.2.length:Int))<=(1048576:Nat))/\(Ty.wf bp (d.1++bw (d.2.length:Int))->(0:Nat)<=d.2.length/\((d.2=d.2/\aQ/\(0:Int)=(↑(0:Nat):Int))/\ae (bw (d.2.length:Int))/\d.1++bw (d.2.length:Int)=qV d (0:Nat))/\∀(x:Nat),x<=d.2.length->(decide ((x:Int)<(d.2.length:Int))=true->((0:Int)<=(x:Int)/\(x:Int)<(d.2.length:Int))/\True/\(Ty.wf bp (bw (d.2.getD ((x:Int).toNat) (0:Int)))->(0:Nat)<=List.length (bw (d.2.getD x (0:Int)))/\((d.2=d.2/\aQ/\ae (x:Int)/\ae (x:Int)/\d.2=d.2/\ae (d.2.length:Int)/\ae (decide ((x:Int)<(d.2.length:Int)))/\d.2=d.2/\ae (x:Int)/\ae (d.2.getD ((x:Int).toNat) (0:Int))/\ae (d.2.getD ((x:Int).toNat) (0:Int))/\ae (↑(List.length (bw (d.2.getD ((x:Int).toNat) (0:Int)))):Int)/\(0:Int)=(↑(0:Nat):Int))/\ae (bw (d.2.length:Int))/\qV d x=qV d x++List.take (0:Nat) (bw (d.2.getD x (0:Int)))/\ae (bw (d.2.getD ((x:Int).toNat) (0:Int))))/\∀(x_1:Nat),x_1<=List.length (bw (d.2.getD x (0:Int)))->(decide ((x_1:Int)<(↑(List.length (bw (d.2.getD ((x:Int).toNat) (0:Int)))):Int))=true->((0:Int)<=(x_1:Int)/\(x_1:Int)<(↑(List.length (bw (d.2.getD ((x:Int).toNat) (0:Int)))):Int))/\(List.length (qV d x++List.take x_1 (bw (d.2.getD x (0:Int))))+List.length [List.getD (bw (d.2.getD ((x:Int).toNat) (0:Int))) ((x_1:Int).toNat) (0:Int)])*(1:Nat)<=(140737488355328:Nat)/\∃(x':Nat),x'<=List.length (bw (d.2.getD x (0:Int)))/\List.length (bw (d.2.getD x (0:Int)))-x'<List.length (bw (d.2.getD x (0:Int)))-x_1/\(d.2=d.2/\aQ/\ae (x:Int)/\ae (x:Int)/\d.2=d.2/\ae (d.2.length:Int)/\ae (decide ((x:Int)<(d.2.length:Int)))/\d.2=d.2/\ae (x:Int)/\ae (d.2.getD ((x:Int).toNat) (0:Int))/\ae (d.2.getD ((x:Int).toNat) (0:Int))/\ae (↑(List.length (bw (d.2.getD ((x:Int).toNat) (0:Int)))):Int)/\i64.wrap ((x_1:Int)+(1:Int))=(x':Int))/\ae (bw (d.2.length:Int))/\qV d x++List.take x_1 (bw (d.2.getD x (0:Int)))++[List.getD (bw (d.2.getD ((x:Int).toNat) (0:Int))) ((x_1:Int).toNat) (0:Int)]=qV d x++List.take x' (bw (d.2.getD x (0:Int)))/\ae (bw (d.2.getD ((x:Int).toNat) (0:Int))))/\(decide ((x_1:Int)<(↑(List.length (bw (d.2.getD ((x:Int).toNat) (0:Int)))):Int))=false->∃(x':Nat),x'<=d.2.length/\d.2.length-x'<d.2.length-x/\(d.2=d.2/\aQ/\i64.wrap ((x:Int)+(1:Int))=(x':Int))/\ae (bw (d.2.length:Int))/\qV d x++List.take x_1 (bw (d.2.getD x (0:Int)))=qV d x')))/\(decide ((x:Int)<(d.2.length:Int))=false->qV d x=d.1++kZ d.2))):=by
  intro d hw hp
  have et:d.1.length<=524288:=hp.1
  have je:d.2.length<=400:=hp.2
  simp only[exists_const,forall_const,decide_eq_true_eq,decide_eq_false_iff_not,beq_iff_eq,sxS]
  have h0:=ku d.2.length
  refine fun _=>⟨⟨by omega,by omega⟩,fun _=>⟨Nat.zero_le _,⟨rfl,by unfold qV;simp⟩,fun x hx=>⟨fun h=>?_,fun h=>?_⟩⟩⟩
  ·have h1:x<d.2.length:=by omega
   have hl:=ZE d x
   generalize hq:bw (d.2.getD x 0)=q
   have hql:q.length<=6:=by rw[<-hq];exact ku _
   refine⟨⟨by omega,h⟩,fun _=>⟨Nat.zero_le _,⟨rfl,by simp⟩,fun y hy=>⟨fun h2=>?_,fun h2=>?_⟩⟩⟩
   ·have h3:y<q.length:=by omega
    refine⟨⟨by omega,h2⟩,by rw[List.length_append,List.length_take,List.length_singleton];omega,y+1,by omega,by omega,by rw[wrap_small (by omega)];rfl,?_⟩
    rw[K_ (z:=0) h3,List.append_assoc]
   ·refine⟨x+1,by omega,by omega,by rw[wrap_small (by omega)];rfl,?_⟩
    rw[adg h1,hq,show y=q.length from by omega,List.take_length]
  ·have h1:x=d.2.length:=by omega
   rw[h1];unfold qV kZ
   rw[List.take_length,List.append_assoc]
theorem KH :
 ∀(d:Int×Int×List Int×List Int×Int),Ty.wf eF d->True->True/\((!aK d)=true->[]=fm d)/\((!aK d)=false->True/\(List.length [IntKind.wrap u8 d.1,IntKind.wrap u8 d.2.1]<=(1048576:Nat)/\List.length (bw d.2.2.2.2)<=(1048576:Nat))/\(Ty.wf bp ([IntKind.wrap u8 d.1,IntKind.wrap u8 d.2.1]++bw d.2.2.2.2)->Ty.wf bp (bw d.2.2.2.2)->(List.length ([IntKind.wrap u8 d.1,IntKind.wrap u8 d.2.1]++bw d.2.2.2.2)<=(524288:Nat)/\d.2.2.1.length<=(400:Nat))/\(List.length ([IntKind.wrap u8 d.1,IntKind.wrap u8 d.2.1]++bw d.2.2.2.2++kZ d.2.2.1)<=(524288:Nat)/\d.2.2.2.1.length<=(400:Nat))/\(Ty.wf bp ([IntKind.wrap u8 d.1,IntKind.wrap u8 d.2.1]++bw d.2.2.2.2++kZ d.2.2.1++kZ d.2.2.2.1)->Ty.wf bp ([IntKind.wrap u8 d.1,IntKind.wrap u8 d.2.1]++bw d.2.2.2.2++kZ d.2.2.1)->[IntKind.wrap u8 d.1,IntKind.wrap u8 d.2.1]++bw d.2.2.2.2++kZ d.2.2.1++kZ d.2.2.2.1=fm d))):=by
  intro d hw hp
  simp only[exists_const,forall_const,decide_eq_true_eq,decide_eq_false_iff_not,beq_iff_eq,sxS]
  refine⟨fun h=>?_,fun h=>?_⟩
  ·unfold fm;rw[if_neg (by rw[h];decide)]
  ·obtain⟨e1,e2,⟨l1,_⟩,⟨l2,_⟩,_⟩:=F8 h
   have h0:=ku d.2.2.2.2
   have h1:=vz d.2.2.1
   rw[e1,e2]
   refine⟨⟨by simp,by omega⟩,fun _ _=>⟨⟨by simp only[List.length_append,List.length_cons,List.length_nil];omega,l1⟩,⟨by simp only[List.length_append,List.length_cons,List.length_nil];omega,l2⟩,fun _ _=>?_⟩⟩
   unfold fm gB
   rw[if_pos h]
theorem WJ{q:List Int}{y:Nat}(h:y<q.length):q.getD y 0∈q:=by
 rw[show q.getD y 0=q[y] from by simp[h]];exact List.getElem_mem h
theorem acN(d:Jb):[d.1,d.2.1]++bw d.2.2.2.2=oV d 0:=by unfold oV;simp
theorem TX(d:Jb){x:Nat}(h:x<2):[d.2.2.1,d.2.2.2.1].getD x []=kd d x:=by
 unfold kd
 rcases x with _|_|x
 ·rfl
 ·rfl
 ·omega
theorem Zj(d:Jb){x:Nat}(h:x<=2)(h1:d.2.2.1.length<=400)(h2:d.2.2.2.1.length<=400):(oV d x).length<=6000:=by
 unfold oV
 have h0:=ku d.2.2.2.2
 have h3:=vz d.2.2.1
 have h4:=vz d.2.2.2.1
 rcases x with _|_|_|x
 ·simp only[List.take_zero,List.flatMap_nil,List.length_append,List.length_cons,List.length_nil];omega
 ·simp only[List.take_succ_cons,List.take_zero,List.flatMap_cons,List.flatMap_nil,List.length_append,List.length_cons,List.length_nil];omega
 ·simp only[List.take_succ_cons,List.take_zero,List.flatMap_cons,List.flatMap_nil,List.length_append,List.length_cons,List.length_nil];omega
 ·omega
theorem acO(d:Jb){x:Nat}(h:x<2):oV d (x+1)=oV d x++bw (kd d x).length++(kd d x).flatMap bw:=by
 unfold oV
 rw[K_ (z:=[]) (by simpa using h),List.flatMap_append,List.flatMap_singleton,TX d h]
 unfold kZ
 simp only[List.append_assoc]
theorem Ku :
 ∀(d:Int×Int×List Int×List Int×Int),Ty.wf eF d->aK d=true->cM d.2.2.2.2/\(Ty.wf bp (bw d.2.2.2.2)->(List.length [IntKind.wrap u8 d.1,IntKind.wrap u8 d.2.1]+List.length (bw d.2.2.2.2))*(1:Nat)<=(140737488355328:Nat)/\(0:Nat)<=(2:Nat)/\(((d.1=d.1/\ae d.2.1/\ae d.2.2.1/\ae d.2.2.2.1/\ae d.2.2.2.2)/\aQ/\ae (↑(List.length [d.2.2.1,d.2.2.2.1]):Int)/\(0:Int)=(↑(0:Nat):Int))/\(d.1=d.1/\ae d.2.1/\ae d.2.2.1/\ae d.2.2.2.1/\ae d.2.2.2.2)/\[IntKind.wrap u8 d.1,IntKind.wrap u8 d.2.1]++bw d.2.2.2.2=oV d (0:Nat)/\ae (bw d.2.2.2.2)/\ae ([d.2.2.1,d.2.2.2.1]))/\∀(x:Nat),x<=(2:Nat)->(decide ((x:Int)<(↑(List.length [d.2.2.1,d.2.2.2.1]):Int))=true->((0:Int)<=(x:Int)/\(x:Int)<(↑(List.length [d.2.2.1,d.2.2.2.1]):Int))/\cM (↑(List.length (List.getD [d.2.2.1,d.2.2.2.1] ((x:Int).toNat) [])):Int)/\(Ty.wf bp (bw (↑(List.length (List.getD [d.2.2.1,d.2.2.2.1] ((x:Int).toNat) [])):Int))->(List.length (oV d x)+List.length (bw (↑(List.length (List.getD [d.2.2.1,d.2.2.2.1] ((x:Int).toNat) [])):Int)))*(1:Nat)<=(140737488355328:Nat)/\(0:Nat)<=List.length (kd d x)/\(((d.1=d.1/\ae d.2.1/\ae d.2.2.1/\ae d.2.2.2.1/\ae d.2.2.2.2)/\aQ/\ae (List.getD [d.2.2.1,d.2.2.2.1] ((x:Int).toNat) [])/\ae (↑(List.length [d.2.2.1,d.2.2.2.1]):Int)/\ae (x:Int)/\ae (List.getD [d.2.2.1,d.2.2.2.1] ((x:Int).toNat) [])/\ae (↑(List.length (List.getD [d.2.2.1,d.2.2.2.1] ((x:Int).toNat) [])):Int)/\(0:Int)=(↑(0:Nat):Int))/\(d.1=d.1/\ae d.2.1/\ae d.2.2.1/\ae d.2.2.2.1/\ae d.2.2.2.2)/\oV d x++bw (↑(List.length (List.getD [d.2.2.1,d.2.2.2.1] ((x:Int).toNat) [])):Int)=oV d x++bw (↑(List.length (kd d x)):Int)++List.flatMap bw (List.take (0:Nat) (kd d x))/\ae (bw d.2.2.2.2)/\ae ([d.2.2.1,d.2.2.2.1])/\ae (bw (↑(List.length (List.getD [d.2.2.1,d.2.2.2.1] ((x:Int).toNat) [])):Int)))/\∀(x_1:Nat),x_1<=List.length (kd d x)->(decide ((x_1:Int)<(↑(List.length (List.getD [d.2.2.1,d.2.2.2.1] ((x:Int).toNat) [])):Int))=true->((0:Int)<=(x_1:Int)/\(x_1:Int)<(↑(List.length (List.getD [d.2.2.1,d.2.2.2.1] ((x:Int).toNat) [])):Int))/\cM (List.getD (List.getD [d.2.2.1,d.2.2.2.1] ((x:Int).toNat) []) ((x_1:Int).toNat) (0:Int))/\(Ty.wf bp (bw (List.getD (List.getD [d.2.2.1,d.2.2.2.1] ((x:Int).toNat) []) ((x_1:Int).toNat) (0:Int)))->(List.length (oV d x++bw (↑(List.length (kd d x)):Int)++List.flatMap bw (List.take x_1 (kd d x)))+List.length (bw (List.getD (List.getD [d.2.2.1,d.2.2.2.1] ((x:Int).toNat) []) ((x_1:Int).toNat) (0:Int))))*(1:Nat)<=(140737488355328:Nat)/\∃(x':Nat),x'<=List.length (kd d x)/\List.length (kd d x)-x'<List.length (kd d x)-x_1/\((d.1=d.1/\ae d.2.1/\ae d.2.2.1/\ae d.2.2.2.1/\ae d.2.2.2.2)/\aQ/\ae (List.getD [d.2.2.1,d.2.2.2.1] ((x:Int).toNat) [])/\ae (↑(List.length [d.2.2.1,d.2.2.2.1]):Int)/\ae (x:Int)/\ae (List.getD [d.2.2.1,d.2.2.2.1] ((x:Int).toNat) [])/\ae (↑(List.length (List.getD [d.2.2.1,d.2.2.2.1] ((x:Int).toNat) [])):Int)/\i64.wrap ((x_1:Int)+(1:Int))=(x':Int))/\(d.1=d.1/\ae d.2.1/\ae d.2.2.1/\ae d.2.2.2.1/\ae d.2.2.2.2)/\oV d x++bw (↑(List.length (kd d x)):Int)++List.flatMap bw (List.take x_1 (kd d x))++bw (List.getD (List.getD [d.2.2.1,d.2.2.2.1] ((x:Int).toNat) []) ((x_1:Int).toNat) (0:Int))=oV d x++bw (↑(List.length (kd d x)):Int)++List.flatMap bw (List.take x' (kd d x))/\ae (bw d.2.2.2.2)/\ae ([d.2.2.1,d.2.2.2.1])/\ae (bw (↑(List.length (List.getD [d.2.2.1,d.2.2.2.1] ((x:Int).toNat) [])):Int))))/\(decide ((x_1:Int)<(↑(List.length (List.getD [d.2.2.1,d.2.2.2.1] ((x:Int).toNat) [])):Int))=false->∃(x':Nat),x'<=(2:Nat)/\(2:Nat)-x'<(2:Nat)-x/\((d.1=d.1/\ae d.2.1/\ae d.2.2.1/\ae d.2.2.2.1/\ae d.2.2.2.2)/\aQ/\ae (↑(List.length [d.2.2.1,d.2.2.2.1]):Int)/\i64.wrap ((x:Int)+(1:Int))=(x':Int))/\(d.1=d.1/\ae d.2.1/\ae d.2.2.1/\ae d.2.2.2.1/\ae d.2.2.2.2)/\oV d x++bw (↑(List.length (kd d x)):Int)++List.flatMap bw (List.take x_1 (kd d x))=oV d x'/\ae (bw d.2.2.2.2)/\ae ([d.2.2.1,d.2.2.2.1]))))/\(decide ((x:Int)<(↑(List.length [d.2.2.1,d.2.2.2.1]):Int))=false->oV d x=gB d)):=by
  intro d hw hp
  simp only[exists_const,forall_const,decide_eq_true_eq,decide_eq_false_iff_not,beq_iff_eq,sxS]
  obtain⟨e1,e2,⟨l1,w1⟩,⟨l2,w2⟩,w3⟩:=F8 hp
  have h0:=ku d.2.2.2.2
  rw[e1,e2]
  refine⟨w3,fun _=>⟨by simp only[List.length_cons,List.length_nil];omega,by omega,⟨rfl,acN d⟩,fun x hx=>⟨fun h=>?_,fun h=>?_⟩⟩⟩
  ·have nR:x<2:=by simp only[List.length_cons,List.length_nil] at h;omega
   rw[TX d nR]
   have lq:=Zj d hx l1 l2
   have hL:(kd d x).length<=400/\∀ y∈kd d x,cM y:=by
    unfold kd;split
    ·exact⟨l1,w1⟩
    ·exact⟨l2,w2⟩
   have hs:=acO d nR
   generalize kd d x=q at hL hs ⊢
   obtain⟨hq,wq⟩:=hL
   have hql:=ku q.length
   refine⟨⟨by omega,h⟩,by show _/\_;omega,fun _=>⟨by omega,by omega,⟨rfl,by simp⟩,fun y hy=>⟨fun h2=>?_,fun h2=>?_⟩⟩⟩
   ·have h3:y<q.length:=by omega
    have hf:=y_ (q.take y)
    rw[List.length_take] at hf
    have et:=ku (q.getD y 0)
    refine⟨⟨by omega,h2⟩,wq _ (WJ h3),fun _=>⟨by rw[List.length_append,List.length_append];omega,y+1,by omega,by omega,by rw[wrap_small (by omega)];rfl,?_⟩⟩
    rw[K_ (z:=0) h3,List.flatMap_append,List.flatMap_singleton]
    simp only[List.append_assoc]
   ·refine⟨x+1,by omega,by omega,by rw[wrap_small (by omega)];rfl,?_⟩
    rw[hs,show y=q.length from by omega,List.take_length]
  ·have nR:x=2:=by simp only[List.length_cons,List.length_nil] at h;omega
   rw[nR]
   unfold oV gB
   simp
set_option maxRecDepth 10000
theorem Zf(f:Int)(xs ys:List Int)(k:Int):(dI f xs ys k).1.length<=10:=by
 by_cases h:(dI f xs ys k).2.2=true
 ·obtain⟨h1,h2,h3,s,h4,h5,h6⟩:=Ze h
  obtain⟨o7,hl,vf,oZ⟩:=oT h1
  obtain⟨m1,m2⟩:=MX o7 h2 s
  unfold kT at h5
  rw[Bool.and_eq_true,decide_eq_true_eq] at h5
  rw[h6]
  unfold Sk
  rw[List.length_append,List.length_replicate]
  omega
 ·unfold dI at h ⊢
  split
  ·rename_i hc
   rw[if_pos hc] at h
   cases hf:findF (kT (af f) xs ys k.toNat) (2^xs.length) with
   | none=>simp[Wx]
   | some s=>rw[hf] at h;exact absurd rfl h
  ·simp
theorem UL(f:Int)(xs ys:List Int):(cK f xs ys).1.length<=41:=by
 by_cases h:(cK f xs ys).2=true
 ·obtain⟨h1,h2,h3,h4⟩:=UK h
  obtain⟨hm,_,hl,_,_⟩:=kY h1
  rw[h4]
  exact (yB (nU hm).mod ys hl _).2.1
 ·unfold cK at h ⊢
  split
  ·rename_i hc;rw[if_pos hc] at h;exact absurd rfl h
  ·simp
theorem GO(l:List Int):(cf l).length<=l.length:=by rw[oP];exact xO l
theorem aaa(f:Int)(v:List Int):(kR f v).length<=v.length/\(gY f v).length<=v.length:=by
 unfold kR gY
 constructor
 ·split
  ·simp[bD]
  ·simp
 ·split
  ·simp[vN]
  ·simp
theorem Zc(f:Int)(a b:List Int):(lO f a b).length<=a.length/\(i_ f a b).length<=a.length:=by
 unfold lO i_
 constructor
 ·split<;>simp
 ·split<;>simp
theorem Vc(f:Int)(a b:List Int):(ef f a b).1.length<=a.length+b.length:=by
 unfold ef
 split
 ·show (ee _ a b).length<=_
  unfold ee
  split
  ·simp
  ·have:=GO (fq (af f) a b (a.length+b.length-1))
   rw[wu] at this
   omega
 ·simp
theorem Wt(a b:List Int):(cW a b).1.length<=a.length+b.length:=by
 unfold cW
 split
 ·show (if _ then _ else _:List Int).length<=_
  split
  ·simp
  ·rw[Qj];omega
 ·simp
theorem ZT(f:Int)(a:List Int):(c_ f a).1.length<=a.length:=by
 unfold c_
 split
 ·show (ck _ a _).length<=_
  rw[C4];exact Nat.le_refl _
 ·simp
theorem aaF(f:Int)(a b:List Int):(ez f a b).length<=b.length:=by
 unfold ez
 split
 ·rw[mZ];exact Nat.le_refl _
 ·simp
theorem Zh(f:Int)(a b:List Int):(cy f a b).1.length<=a.length+1/\(cy f a b).2.1.length<=a.length:=by
 unfold cy
 split
 ·show (hU _ a b).1.length<=_/\(hU _ a b).2.length<=_
  unfold hU
  split
  ·simp
  ·refine⟨?_,?_⟩
   ·show (gb _ _ _ _ _ _).length<=_
    rw[ui];omega
   ·have:=GO (cJ (af f) (bC (af f) b) a b (a.length-b.length+1))
    rw[lB] at this
    exact this
 ·simp
theorem mI{k:Bool}{o m:List Int}{n:Nat}(h1:o.length<=n)(h2:m.length<=n):(kq k o m).2.1.length<=n/\(kq k o m).2.2.length<=n:=by
 unfold kq
 split
 ·exact⟨h1,h2⟩
 ·simp
theorem VK(j:Jb):(aA j).2.1.length<=j.2.2.1.length+j.2.2.2.1.length+100/\(aA j).2.2.length<=j.2.2.1.length+j.2.2.2.1.length+100:=by
 obtain⟨k,f,a,b,c⟩:=j
 show _<=a.length+b.length+100/\_<=a.length+b.length+100
 have h1:=aaa f a
 have h2:=Zc f a b
 have h3:=Vc f a b
 have h4:=Wt a b
 have h5:=ZT f a
 have h6:=aaF f a b
 have h7:=Zh f a b
 have h8:=UL f a b
 have h9:=Zf f a b c
 cases h:aK (k,f,a,b,c)
 ·rw[<-SR h];simp
 ·have hk:=(vn.1 h).1.1
  rcases (show k=1\/k=2\/k=3\/k=4\/k=5\/k=6\/k=7\/k=8\/k=9\/k=10\/k=11 by omega) with rfl|rfl|rfl|rfl|rfl|rfl|rfl|rfl|rfl|rfl|rfl
  ·rw[rj1 h];exact mI (by omega) (by simp)
  ·rw[rj2 h];exact mI (by omega) (by simp)
  ·rw[rj3 h];exact mI (by omega) (by simp)
  ·rw[rj4 h];exact mI (by omega) (by simp)
  ·rw[rj5 h];exact mI (by omega) (by simp)
  ·rw[rj6 h];exact mI (by omega) (by simp)
  ·rw[rj7 h];exact mI (by omega) (by simp)
  ·rw[rj8 h];exact mI (by omega) (by simp)
  ·rw[rj9 h];exact mI (by omega) (by simp)
  ·rw[XA h];exact mI (by omega) (by omega)
  ·rw[XB h];exact mI (by omega) (by simp)
set_option maxRecDepth 10000
theorem acD(l:List Int):l.map (aU dV)=l:=by
 have:aU dV=id:=rfl
 rw[this];exact List.map_id l
theorem Ia(l:List Int):l.map (aU ai)=l:=by
 have:aU ai=id:=rfl
 rw[this];exact List.map_id l
theorem ae4(e:aN):aU bA e=bf e:=by
 show (List.map (aU dV) e.1.2,e.2.1,List.map (aU ai) e.2.2.1.2,List.map (aU ai) e.2.2.2.2)=_
 rw[acD,Ia,Ia]
 rfl
theorem S5(L:List aN):bH bA L=L.map bf:=by
 show L.map (aU bA)=_
 congr 1
 funext f
 exact ae4 f
theorem S6(L:List aN):aU (.sl bA) L=L.map bf:=S5 L
theorem H_(r:Int×List aN):aU aB r=(r.1,r.2.map bf):=by
 show (r.1,aU (.sl bA) r.2)=_
 rw[S6];rfl
theorem YV(e:aN):aU b7 e=bf e:=by
 show (List.map (aU dV) e.1.2,e.2.1,List.map (aU ai) e.2.2.1.2,List.map (aU ai) e.2.2.2.2)=_
 rw[acD,Ia,Ia]
 rfl
theorem YX(r:Int×List aN):aU fN r=(r.1,r.2.map bf):=by
 show (r.1,r.2.map (aU b7))=_
 congr 2
 funext f
 exact YV f
theorem vh(wh:Bool)(k:IntKind)(p:PG):ids (.gs wh (.int k)) p=jW p:=by
 obtain⟨i,l⟩:=p
 rw[Mx,show aX (.int k) l=[] from lI (.sl (.int k)) rfl l]
 cases l<;>simp[jW]
theorem aeS(e:aN):ids bA e=cg e:=by
 obtain⟨a,b,c,d⟩:=e
 show ids (.gs true dV) a++([]++(ids (.gs true ai) c++ids (.gs true ai) d))=_
 rw[vh,vh,vh]
 rfl
theorem Ev(L:List aN):aX bA L=L.flatMap cg:=by
 unfold aX
 congr 1
 funext f
 exact aeS f
theorem Mw(L:List aN):ids (.sl bA) L=L.flatMap cg:=Ev L
theorem zn(r:Int×List aN):ids aB r=r.2.flatMap cg:=by
 show[]++ids (.sl bA) r.2=_
 rw[Mw];simp
theorem VJ(n:Nat):List.replicate n cq=List.map (gq bA) (List.replicate n (show bA.cO.den from ([],(0:Int),[],[]))):=by
 rw[List.map_replicate];rfl
theorem Zs(n:Nat):(List.replicate n cq).flatMap cg=[]:=by
 induction n with
 | zero=>rfl
 | succ n ih=>rw[List.replicate_succ,List.flatMap_cons,ih];rfl
theorem rq{i:Nat}{p:PG}(h:i∈jW p):i=p.1:=by
 unfold jW at h
 split at h
 ·cases h
 ·exact List.mem_singleton.1 h
theorem BH(p:PG):(jW p).Nodup:=by unfold jW;split<;>simp
theorem QE{b b1 b2:Nat}(h1:b1≠b)(h2:b2≠b1)(h3:b2≠b)(l:List Int)(c:Int)(o m:List Int):(cg ((b,l),c,(b1,o),(b2,m))).Nodup:=by
 unfold cg
 rw[List.nodup_append,List.nodup_append]
 refine⟨BH _,⟨BH _,BH _,fun x hx y hy e=>?_⟩,fun x hx y hy e=>?_⟩
 ·have:=rq hx;have:=rq hy;simp_all
 ·have:=rq hx
  rcases List.mem_append.1 hy with hy|hy<;>(have:=rq hy;simp_all)
theorem UD{b b1 b2:Nat}{l:List Int}{c:Int}{o m:List Int}{i:Nat}(h:i∈cg ((b,l),c,(b1,o),(b2,m))):i=b\/i=b1\/i=b2:=by
 unfold cg at h
 rcases List.mem_append.1 h with h|h
 ·exact .inl (rq h)
 ·rcases List.mem_append.1 h with h|h
  ·exact .inr (.inl (rq h))
  ·exact .inr (.inr (rq h))
theorem Xk{L:List aN}{e:aN}(h:(L.flatMap cg).Nodup)(he:(cg e).Nodup)(hx:∀ b∈cg e,b ∉ L.flatMap cg):((L++[e]).flatMap cg).Nodup:=by
 rw[List.flatMap_append,List.nodup_append]
 refine⟨h,by simpa using he,fun a ha b hb e=>?_⟩
 subst e
 exact hx a (by simpa using hb) ha
theorem QO{L:List aN}(h:(L.flatMap cg).Nodup){b b1 b2:Nat}(hb:b ∉ L.flatMap cg)(fe:b1 ∉ L.flatMap cg/\b1≠b)(jx:b2 ∉ L.flatMap cg/\b2≠b1/\b2≠b)(l:List Int)(c:Int)(o m:List Int) :
 ((L++[((b,l),c,(b1,o),(b2,m))]).flatMap cg).Nodup:=by
 refine Xk h (QE fe.2 jx.2.1 jx.2.2 l c o m) (fun i hi=>?_)
 rcases UD hi with rfl|rfl|rfl
 ·exact hb
 ·exact fe.1
 ·exact jx.1
theorem N6{L:List aN}{xs:List En}{k:Nat}(h:L.map bf=xs.take k)(hk:k<xs.length)(b b1 b2:Nat) :
 (L++[((b,(xs.getD k gQ).1),(xs.getD k gQ).2.1,(b1,(xs.getD k gQ).2.2.1),(b2,(xs.getD k gQ).2.2.2))]).map bf=xs.take (k+1):=by
 have h2:xs.getD k gQ=xs[k]:=by simp[hk]
 rw[List.map_append,h,h2,List.take_succ_eq_append_getElem hk]
 rfl
theorem QI{L:List aN}{xs:List En}(h:L.map bf=xs):L.length=xs.length:=by rw[<-h,List.length_map]
theorem KF :
 ∀(d:List (List Int×Int×List Int×List Int)),Ty.wf (Ty.sl dj) d->bj d->((0:Int)<=(d.length:Int)/\(d.length:Int)<=(d.length:Int)/\(d.length:Int)*(↑(80:Nat):Int)<=(140737488355328:Int))/\((0:Nat)<=d.length/\ae (0:Nat)/\List.map bf []=List.take (0:Nat) d/\List.Nodup (List.flatMap cg []))/\((d=d/\aQ/\(0:Int)=(↑(0:Nat):Int))/\(∀(y:List Int×Int×List Int×List Int),y∈List.replicate ((d.length:Int).toNat) ([],(0:Int),[],[])->zB bA y)/\[]++List.replicate (d.length-(0:Nat)) cq=List.map (gq bA) (List.replicate ((d.length:Int).toNat) ([],(0:Int),[],[])))/\∀(x:Nat×List ((Nat×List Int)×Int×(Nat×List Int)×Nat×List Int)),x.1<=d.length/\x.2.length=x.1/\List.map bf x.2=List.take x.1 d/\List.Nodup (List.flatMap cg x.2)->(decide ((x.1:Int)<(d.length:Int))=true->((0:Int)<=(x.1:Int)/\(x.1:Int)<(d.length:Int))/\mr (d.getD ((x.1:Int).toNat) ([],(0:Int),[],[]))/\(Ty.wf dj (d.getD ((x.1:Int).toNat) ([],(0:Int),[],[]))->((0:Int)<=(x.1:Int)/\(x.1:Int)<(↑(List.length (x.2++List.replicate (d.length-x.1) cq)):Int))/\∀(b:Nat),¬b∈aX bA (x.2++List.replicate (d.length-x.1) cq)->∀(gH:Nat),¬gH∈aX bA (x.2++List.replicate (d.length-x.1) cq)/\gH≠b->∀(gI:Nat),¬gI∈aX bA (x.2++List.replicate (d.length-x.1) cq)/\gI≠gH/\gI≠b->∃(x':Nat×List ((Nat×List Int)×Int×(Nat×List Int)×Nat×List Int)),(x'.1<=d.length/\x'.2.length=x'.1/\List.map bf x'.2=List.take x'.1 d/\List.Nodup (List.flatMap cg x'.2))/\d.length-x'.1<d.length-x.1/\(d=d/\aQ/\i64.wrap ((x.1:Int)+(1:Int))=(x'.1:Int))/\List.set (x.2++List.replicate (d.length-x.1) cq) ((x.1:Int).toNat) ((b,(d.getD ((x.1:Int).toNat) ([],(0:Int),[],[])).1),(d.getD ((x.1:Int).toNat) ([],(0:Int),[],[])).2.1,(gH,(d.getD ((x.1:Int).toNat) ([],(0:Int),[],[])).2.2.1),gI,(d.getD ((x.1:Int).toNat) ([],(0:Int),[],[])).2.2.2)=x'.2++List.replicate (d.length-x'.1) cq))/\(decide ((x.1:Int)<(d.length:Int))=false->aU (Ty.sl bA) (x.2++List.replicate (d.length-x.1) cq)=d/\List.Nodup (ids (Ty.sl bA) (x.2++List.replicate (d.length-x.1) cq))):=by
  intro d hw hp
  have hl:d.length<=9223372036854775807:=hw.1
  have hlen:=hp.1
  simp only[exists_const,forall_const,decide_eq_true_eq,decide_eq_false_iff_not,beq_iff_eq,sxS]
  refine⟨⟨by omega,by omega,by omega⟩,⟨Nat.zero_le _,rfl,List.nodup_nil⟩,⟨rfl,fun y hy=>?_,?_⟩,fun x ⟨h1,h2,h3,h4⟩=>⟨fun h5=>?_,fun h5=>?_⟩⟩
  ·rw[List.eq_of_mem_replicate hy]
   exact⟨rfl,trivial,rfl,rfl⟩
  ·rw[List.nil_append,Nat.sub_zero];exact VJ _
  ·have h6:x.1<d.length:=by omega
   rw[aG (by omega)]
   refine⟨⟨by omega,h5⟩,nF hp h6,fun _=>⟨⟨by omega,by simp;omega⟩,fun b hb b1 fe b2 jx=>?_⟩⟩
   rw[Ev,List.flatMap_append,Zs,List.append_nil] at hb fe jx
   refine⟨(x.1+1,x.2++[((b,(d.getD x.1 gQ).1),(d.getD x.1 gQ).2.1,(b1,(d.getD x.1 gQ).2.2.1),(b2,(d.getD x.1 gQ).2.2.2))]),⟨by simp only;omega,by simp[h2],N6 h3 h6 b b1 b2,QO h4 hb fe jx _ _ _ _⟩,by simp only;omega,by simp,?_⟩
   have h7:List.replicate (d.length-x.1) cq=cq::List.replicate (d.length-(x.1+1)) cq:=by
    rw[show d.length-x.1=(d.length-(x.1+1))+1 by omega,List.replicate_succ]
   rw[h7,<-h2,List.set_append_right _ _ (Nat.le_refl _)]
   simp[gQ]
  ·have h6:x.1=d.length:=by omega
   rw[h6,Nat.sub_self,List.replicate_zero,List.append_nil,S6,Mw,h3,h6,List.take_length]
   exact⟨rfl,h4⟩
theorem Ow :
 ∀(d:Int×List (List Int×Int×List Int×List Int)),Ty.wf bq d->bj d.2->bj d.2/\∀(r:List ((Nat×List Int)×Int×(Nat×List Int)×Nat×List Int)),aU (Ty.sl bA) r=d.2->List.Nodup (ids (Ty.sl bA) r)->Ty.wf (Ty.sl bA) r->True->aU aB (d.1,r)=d/\List.Nodup (ids aB (d.1,r)):=by
  intro d hw hp
  refine⟨hp,fun r h1 h2 _ _=>?_⟩
  rw[S6] at h1
  rw[Mw] at h2
  rw[H_,zn]
  exact⟨by simp only;rw[h1],h2⟩
theorem Kt :
 ∀(d:List Int×Int×List Int×List Int),Ty.wf dj d->mr d->(((((0:Nat)+d.1.length)*(1:Nat)<=(140737488355328:Nat)/\eP d.2/\(Ty.wf bd d.2->([]++d.1,d.2)=d))/\((0:Nat)+d.1.length)*(1:Nat)<=(140737488355328:Nat)/\eP d.2/\(Ty.wf bd d.2->([]++d.1,d.2)=d))/\((0:Nat)+d.1.length)*(1:Nat)<=(140737488355328:Nat)/\eP d.2/\(Ty.wf bd d.2->([]++d.1,d.2)=d))/\(((((0:Nat)+d.1.length)*(1:Nat)<=(140737488355328:Nat)/\eP d.2/\(Ty.wf bd d.2->([]++d.1,d.2)=d))/\((0:Nat)+d.1.length)*(1:Nat)<=(140737488355328:Nat)/\eP d.2/\(Ty.wf bd d.2->([]++d.1,d.2)=d))/\((0:Nat)+d.1.length)*(1:Nat)<=(140737488355328:Nat)/\eP d.2/\(Ty.wf bd d.2->([]++d.1,d.2)=d))/\(((0:Nat)+d.1.length)*(1:Nat)<=(140737488355328:Nat)/\eP d.2/\(Ty.wf bd d.2->([]++d.1,d.2)=d))/\((0:Nat)+d.1.length)*(1:Nat)<=(140737488355328:Nat)/\eP d.2/\(Ty.wf bd d.2->([]++d.1,d.2)=d):=by
  intro d hw hp
  have h1:(0+d.1.length)*1<=140737488355328:=by have:=hp.1;omega
  have h2:eP d.2:=hp.2
  have h3:bd.wf d.2->([]++d.1,d.2)=d:=fun _=>rfl
  repeat' (first|assumption|apply And.intro)
def kU(d:Int×List Int×List Int):Prop :=
 (((0:Nat)+List.length (Prod.fst (Prod.snd d)))*(8:Nat)<=(140737488355328:Nat)/\((0:Nat)+List.length (Prod.snd (Prod.snd d)))*(8:Nat)<=(140737488355328:Nat)/\(Prod.fst d,[]++Prod.fst (Prod.snd
 d),[]++Prod.snd (Prod.snd d))=d)
def RZ(d:Int×List Int×List Int):Prop :=
 ((kU d)/\(kU d)/\((0:Nat)+List.length (Prod.fst (Prod.snd d)))*(8:Nat)<=(140737488355328:Nat)/\(((0:Nat)+List.length (Prod.snd (Prod.snd d)))*(8:Nat)<=(140737488355328:Nat)/\(Prod.fst d,
 []++Prod.fst (Prod.snd d),[]++Prod.snd (Prod.snd d))=d)/\((0:Nat)+List.length (Prod.snd (Prod.snd d)))*(8:Nat)<=(140737488355328:Nat)/\(Prod.fst d,[]++Prod.fst (Prod.snd d),[]++Prod.snd
 (Prod.snd d))=d)
def xm(d:Int×List Int×List Int):Prop :=
 ((kU d)/\((0:Nat)+List.length (Prod.fst (Prod.snd d)))*(8:Nat)<=(140737488355328:Nat)/\((0:Nat)+List.length (Prod.snd (Prod.snd d)))*(8:Nat)<=(140737488355328:Nat)/\(Prod.fst d,[] ++
 Prod.fst (Prod.snd d),[]++Prod.snd (Prod.snd d))=d)
def Ms(d:Int×List Int×List Int):Prop :=
 ((xm d)/\(((0:Nat)+List.length (Prod.fst (Prod.snd d)))*(8:Nat)<=(140737488355328:Nat)/\(((0:Nat)+List.length (Prod.snd (Prod.snd d)))*(8:Nat)<=(140737488355328:Nat)/\(Prod.fst d,[] ++
 Prod.fst (Prod.snd d),[]++Prod.snd (Prod.snd d))=d)/\(((0:Nat)+List.length (Prod.snd (Prod.snd d)))*(8:Nat)<=(140737488355328:Nat)/\(Prod.fst d,[]++Prod.fst (Prod.snd d),[]++Prod.snd (Prod.snd
 d))=d)/\((0:Nat)+List.length (Prod.snd (Prod.snd d)))*(8:Nat)<=(140737488355328:Nat)/\(Prod.fst d,[]++Prod.fst (Prod.snd d),[]++Prod.snd (Prod.snd d))=d)/\(kU d)/\((0:Nat)+List.length
 (Prod.fst (Prod.snd d)))*(8:Nat)<=(140737488355328:Nat)/\(((0:Nat)+List.length (Prod.snd (Prod.snd d)))*(8:Nat)<=(140737488355328:Nat)/\(Prod.fst d,[]++Prod.fst (Prod.snd d),[]++Prod.snd
 (Prod.snd d))=d)/\((0:Nat)+List.length (Prod.snd (Prod.snd d)))*(8:Nat)<=(140737488355328:Nat)/\(Prod.fst d,[]++Prod.fst (Prod.snd d),[]++Prod.snd (Prod.snd d))=d)
def zm(d:Int×List Int×List Int):Prop :=
 ((xm d)/\((0:Nat)+List.length (Prod.fst (Prod.snd d)))*(8:Nat)<=(140737488355328:Nat)/\((0:Nat)+List.length (Prod.snd (Prod.snd d)))*(8:Nat)<=(140737488355328:Nat)/\(Prod.fst d,[] ++
 Prod.fst (Prod.snd d),[]++Prod.snd (Prod.snd d))=d)
def Mt(d:Int×List Int×List Int):Prop :=
 (((((0:Nat)+List.length (Prod.fst (Prod.snd d)))*(8:Nat)<=(140737488355328:Nat)/\(((0:Nat)+List.length (Prod.snd (Prod.snd d)))*(8:Nat)<=(140737488355328:Nat)/\(Prod.fst d,[]++Prod.fst
 (Prod.snd d),[]++Prod.snd (Prod.snd d))=d)/\((0:Nat)+List.length (Prod.snd (Prod.snd d)))*(8:Nat)<=(140737488355328:Nat)/\(Prod.fst d,[]++Prod.fst (Prod.snd d),[]++Prod.snd (Prod.snd d))=d) ∧
 (xm d)/\(kU d)/\((0:Nat)+List.length (Prod.fst (Prod.snd d)))*(8:Nat)<=(140737488355328:Nat)/\((0:Nat)+List.length (Prod.snd (Prod.snd d)))*(8:Nat)<=(140737488355328:Nat)/\(Prod.fst d,[]
 ++ Prod.fst (Prod.snd d),[]++Prod.snd (Prod.snd d))=d)/\(zm d)/\(xm d)/\((0:Nat)+List.length (Prod.fst (Prod.snd d)))*(8:Nat)<=(140737488355328:Nat)/\((0:Nat)+List.length (Prod.snd (Prod.snd
 d)))*(8:Nat)<=(140737488355328:Nat)/\(Prod.fst d,[]++Prod.fst (Prod.snd d),[]++Prod.snd (Prod.snd d))=d)
def Eu(d:Int×List Int×List Int):Prop :=
 ((zm d)/\(Ms d)/\(kU d)/\(kU d)/\((0:Nat)+List.length (Prod.fst (Prod.snd d)))*(8:Nat)<=(140737488355328:Nat)/\(((0:Nat)+List.length (Prod.snd (Prod.snd d)))*(8:Nat)<=(140737488355328 :
 Nat)/\(Prod.fst d,[]++Prod.fst (Prod.snd d),[]++Prod.snd (Prod.snd d))=d)/\((0:Nat)+List.length (Prod.snd (Prod.snd d)))*(8:Nat)<=(140737488355328:Nat)/\(Prod.fst d,[]++Prod.fst (Prod.snd d),
 []++Prod.snd (Prod.snd d))=d)
def RY(d:Int×List Int×List Int):Prop :=
 ((Mt d)/\(((((0:Nat)+List.length (Prod.fst (Prod.snd d)))*(8:Nat)<=(140737488355328:Nat)/\(((0:Nat)+List.length (Prod.snd (Prod.snd d)))*(8:Nat)<=(140737488355328:Nat)/\(Prod.fst d,[] ++
 Prod.fst (Prod.snd d),[]++Prod.snd (Prod.snd d))=d)/\((0:Nat)+List.length (Prod.snd (Prod.snd d)))*(8:Nat)<=(140737488355328:Nat)/\(Prod.fst d,[]++Prod.fst (Prod.snd d),[]++Prod.snd (Prod.snd
 d))=d)/\(xm d)/\(kU d)/\((0:Nat)+List.length (Prod.fst (Prod.snd d)))*(8:Nat)<=(140737488355328:Nat)/\((0:Nat)+List.length (Prod.snd (Prod.snd d)))*(8:Nat)<=(140737488355328:Nat) ∧
 (Prod.fst d,[]++Prod.fst (Prod.snd d),[]++Prod.snd (Prod.snd d))=d)/\(((0:Nat)+List.length (Prod.fst (Prod.snd d)))*(8:Nat)<=(140737488355328:Nat)/\((((0:Nat)+List.length (Prod.snd (Prod.snd
 d)))*(8:Nat)<=(140737488355328:Nat)/\(Prod.fst d,[]++Prod.fst (Prod.snd d),[]++Prod.snd (Prod.snd d))=d)/\((0:Nat)+List.length (Prod.snd (Prod.snd d)))*(8:Nat)<=(140737488355328:Nat) ∧
 (Prod.fst d,[]++Prod.fst (Prod.snd d),[]++Prod.snd (Prod.snd d))=d)/\((((0:Nat)+List.length (Prod.snd (Prod.snd d)))*(8:Nat)<=(140737488355328:Nat)/\(Prod.fst d,[]++Prod.fst (Prod.snd d),[] ++
 Prod.snd (Prod.snd d))=d)/\(((0:Nat)+List.length (Prod.snd (Prod.snd d)))*(8:Nat)<=(140737488355328:Nat)/\(Prod.fst d,[]++Prod.fst (Prod.snd d),[]++Prod.snd (Prod.snd d))=d)/\((0:Nat) +
 List.length (Prod.snd (Prod.snd d)))*(8:Nat)<=(140737488355328:Nat)/\(Prod.fst d,[]++Prod.fst (Prod.snd d),[]++Prod.snd (Prod.snd d))=d)/\(((0:Nat)+List.length (Prod.snd (Prod.snd d)))*(8:Nat)
 ≤ (140737488355328:Nat)/\(Prod.fst d,[]++Prod.fst (Prod.snd d),[]++Prod.snd (Prod.snd d))=d)/\(((0:Nat)+List.length (Prod.snd (Prod.snd d)))*(8:Nat)<=(140737488355328:Nat)/\(Prod.fst d,[] ++
 Prod.fst (Prod.snd d),[]++Prod.snd (Prod.snd d))=d)/\((0:Nat)+List.length (Prod.snd (Prod.snd d)))*(8:Nat)<=(140737488355328:Nat)/\(Prod.fst d,[]++Prod.fst (Prod.snd d),[]++Prod.snd (Prod.snd
 d))=d)/\(Ms d)/\(xm d)/\(((0:Nat)+List.length (Prod.fst (Prod.snd d)))*(8:Nat)<=(140737488355328:Nat)/\(((0:Nat)+List.length (Prod.snd (Prod.snd d)))*(8:Nat)<=(140737488355328:Nat) ∧
 (Prod.fst d,[]++Prod.fst (Prod.snd d),[]++Prod.snd (Prod.snd d))=d)/\(((0:Nat)+List.length (Prod.snd (Prod.snd d)))*(8:Nat)<=(140737488355328:Nat)/\(Prod.fst d,[]++Prod.fst (Prod.snd d),[] ++
 Prod.snd (Prod.snd d))=d)/\((0:Nat)+List.length (Prod.snd (Prod.snd d)))*(8:Nat)<=(140737488355328:Nat)/\(Prod.fst d,[]++Prod.fst (Prod.snd d),[]++Prod.snd (Prod.snd d))=d)/\(kU d)/\((0 :
 Nat)+List.length (Prod.fst (Prod.snd d)))*(8:Nat)<=(140737488355328:Nat)/\(((0:Nat)+List.length (Prod.snd (Prod.snd d)))*(8:Nat)<=(140737488355328:Nat)/\(Prod.fst d,[]++Prod.fst (Prod.snd d),
 []++Prod.snd (Prod.snd d))=d)/\((0:Nat)+List.length (Prod.snd (Prod.snd d)))*(8:Nat)<=(140737488355328:Nat)/\(Prod.fst d,[]++Prod.fst (Prod.snd d),[]++Prod.snd (Prod.snd d))=d)/\(Eu d) ∧
 (zm d)/\(Ms d)/\(kU d)/\(kU d)/\((0:Nat)+List.length (Prod.fst (Prod.snd d)))*(8:Nat)<=(140737488355328:Nat)/\(((0:Nat)+List.length (Prod.snd (Prod.snd d)))*(8:Nat)<=(140737488355328 :
 Nat)/\(Prod.fst d,[]++Prod.fst (Prod.snd d),[]++Prod.snd (Prod.snd d))=d)/\((0:Nat)+List.length (Prod.snd (Prod.snd d)))*(8:Nat)<=(140737488355328:Nat)/\(Prod.fst d,[]++Prod.fst (Prod.snd d),
 []++Prod.snd (Prod.snd d))=d)
def Mu(d:Int×List Int×List Int):Prop :=
 ((zm d)/\(zm d)/\(kU d)/\((0:Nat)+List.length (Prod.fst (Prod.snd d)))*(8:Nat)<=(140737488355328:Nat)/\((0:Nat)+List.length (Prod.snd (Prod.snd d)))*(8:Nat)<=(140737488355328:Nat) ∧
 (Prod.fst d,[]++Prod.fst (Prod.snd d),[]++Prod.snd (Prod.snd d))=d)
theorem Ig :
 ∀(d:Int×List Int×List Int),Ty.wf bd d->eP d->((Mt d)/\(Mt d)/\(Mu d)/\(zm d)/\(zm d)/\(kU d)/\((0:Nat)+d.2.1.length)*(8:Nat)<=(140737488355328:Nat)/\((0:Nat)+d.2.2.length)*(8:Nat)<=(140737488355328:Nat)/\(d.1,[]++d.2.1,[]++d.2.2)=d)/\(RY d)/\(RY d)/\((Mu d)/\(Eu d)/\(Eu d)/\(xm d)/\(RZ d)/\(kU d)/\(kU d)/\((0:Nat)+d.2.1.length)*(8:Nat)<=(140737488355328:Nat)/\(((0:Nat)+d.2.2.length)*(8:Nat)<=(140737488355328:Nat)/\(d.1,[]++d.2.1,[]++d.2.2)=d)/\((0:Nat)+d.2.2.length)*(8:Nat)<=(140737488355328:Nat)/\(d.1,[]++d.2.1,[]++d.2.2)=d)/\(Mu d)/\(Eu d)/\(Eu d)/\(xm d)/\(RZ d)/\(kU d)/\(kU d)/\((0:Nat)+d.2.1.length)*(8:Nat)<=(140737488355328:Nat)/\(((0:Nat)+d.2.2.length)*(8:Nat)<=(140737488355328:Nat)/\(d.1,[]++d.2.1,[]++d.2.2)=d)/\((0:Nat)+d.2.2.length)*(8:Nat)<=(140737488355328:Nat)/\(d.1,[]++d.2.1,[]++d.2.2)=d:=by
  intro d hw hp
  have h1:(0+d.2.1.length)*8<=140737488355328:=by have:=hp.1;omega
  have h2:(0+d.2.2.length)*8<=140737488355328:=by have:=hp.2;omega
  have h3:(d.1,[]++d.2.1,[]++d.2.2)=d:=rfl
  have afr:kU d:=by
   unfold kU
   repeat' (first|assumption|apply And.intro)
  have afz:RZ d:=by
   unfold RZ
   repeat' (first|assumption|apply And.intro)
  have afA:xm d:=by
   unfold xm
   repeat' (first|assumption|apply And.intro)
  have afs:Ms d:=by
   unfold Ms
   repeat' (first|assumption|apply And.intro)
  have afu:zm d:=by
   unfold zm
   repeat' (first|assumption|apply And.intro)
  have afw:Mt d:=by
   unfold Mt
   repeat' (first|assumption|apply And.intro)
  have afx:Eu d:=by
   unfold Eu
   repeat' (first|assumption|apply And.intro)
  have afv:RY d:=by
   unfold RY
   repeat' (first|assumption|apply And.intro)
  have afy:Mu d:=by
   unfold Mu
   repeat' (first|assumption|apply And.intro)
  repeat' (first|assumption|apply And.intro)
theorem Iv :
 ∀(d:Int×List Int×List Int),Ty.wf bd d->eP d->d.2.1.length<=(1048576:Nat)/\d.2.2.length<=(1048576:Nat)/\(Ty.wf aj d.2.2->Ty.wf aj d.2.1->d=d):=by
  intro d hw hp
  simp only[exists_const,forall_const,decide_eq_true_eq,decide_eq_false_iff_not,beq_iff_eq,sxS]
  exact hp
theorem OG :
 ∀(d:List Int),Ty.wf bp d->d.length<=(1048576:Nat)->(0:Nat)<=d.length/\((d=d/\aQ/\(0:Int)=(↑(0:Nat):Int))/\[]=List.take (0:Nat) d)/\∀(x:Nat),x<=d.length->(decide ((x:Int)<(d.length:Int))=true->((0:Int)<=(x:Int)/\(x:Int)<(d.length:Int))/\(List.length (List.take x d)+List.length [d.getD ((x:Int).toNat) (0:Int)])*(1:Nat)<=(140737488355328:Nat)/\∃(x':Nat),x'<=d.length/\d.length-x'<d.length-x/\(d=d/\aQ/\i64.wrap ((x:Int)+(1:Int))=(x':Int))/\List.take x d++[d.getD ((x:Int).toNat) (0:Int)]=List.take x' d)/\(decide ((x:Int)<(d.length:Int))=false->List.take x d=d):=by
  intro d hw hp
  have hp:d.length<=1048576:=hp
  simp only[exists_const,forall_const,decide_eq_true_eq,decide_eq_false_iff_not,beq_iff_eq,sxS]
  refine⟨Nat.zero_le _,⟨rfl,rfl⟩,fun x hx=>⟨fun h=>?_,fun h=>?_⟩⟩
  ·have h1:x<d.length:=by omega
   have fW:i64.wrap ((x:Int)+1)=((x+1:Nat):Int):=by rw[wrap_small (by omega)];rfl
   refine⟨⟨by omega,h⟩,by rw[List.length_take,List.length_singleton];omega,x+1,by omega,by omega,fW,?_⟩
   rw[List.take_succ_eq_append_getElem h1];simp[h1]
  ·have h1:x=d.length:=by omega
   rw[h1,List.take_length]
def RX(d:Int×List (List Int×Int×List Int×List Int))(x:Nat×List ((Nat×List Int)×Int×(Nat×List Int)×Nat×List Int))(x':Nat×List ((Nat×List Int)×Int×(Nat×List Int)×Nat×List
 Int)):Prop :=
 ((Prod.fst d=Prod.fst d/\Prod.snd d=Prod.snd d)/\Prod.fst d=Prod.fst d/\(Prod.fst d=Prod.fst d/\Value.slice none (0:Nat) (0:Nat)=Value.slice none (0:Nat) (0:Nat))/\Prod.snd d=Prod.snd d ∧
 (↑(List.length (Prod.snd d)):Int)=(↑(List.length (Prod.snd d)):Int)/\IntKind.wrap i64 ((↑(Prod.fst x):Int)+(1:Int))=(↑(Prod.fst x'):Int))
def RW(d:Int×List (List Int×Int×List Int×List Int))(x:Nat×List ((Nat×List Int)×Int×(Nat×List Int)×Nat×List Int)):Prop :=
 (mr (List.getD (Prod.snd d) (Int.toNat (↑(Prod.fst x):Int)) ([],(0:Int),[],[]))/\(Ty.wf dj (List.getD (Prod.snd d) (Int.toNat (↑(Prod.fst x):Int)) ([],(0:Int),[],[]))->∀(b:Nat),¬b∈aX bA
 (Prod.snd x)->∀(gH:Nat),¬gH∈aX bA (Prod.snd x)/\gH≠b->∀(gI:Nat),¬gI∈aX bA (Prod.snd x)/\gI≠gH/\gI≠b->(List.length (Prod.snd x)+List.length [((b,Prod.fst (List.getD (Prod.snd d)
 (Int.toNat (↑(Prod.fst x):Int)) ([],(0:Int),[],[]))),Prod.fst (Prod.snd (List.getD (Prod.snd d) (Int.toNat (↑(Prod.fst x):Int)) ([],(0:Int),[],[]))),(gH,Prod.fst (Prod.snd (Prod.snd (List.getD
 (Prod.snd d) (Int.toNat (↑(Prod.fst x):Int)) ([],(0:Int),[],[]))))),gI,Prod.snd (Prod.snd (Prod.snd (List.getD (Prod.snd d) (Int.toNat (↑(Prod.fst x):Int)) ([],(0:Int),[],[])))))])*(80:Nat) ≤
 (140737488355328:Nat)/\∃(x':Nat×List ((Nat×List Int)×Int×(Nat×List Int)×Nat×List Int)),(Prod.fst x'<=List.length (Prod.snd d)/\List.map bf (Prod.snd x')=List.take (Prod.fst x') (Prod.snd d) ∧
 List.Nodup (List.flatMap cg (Prod.snd x')))/\List.length (Prod.snd d)-Prod.fst x'<List.length (Prod.snd d)-Prod.fst x/\(RX d x x')/\(Prod.fst d=Prod.fst d/\Prod.snd d=Prod.snd d)/\((0:Int)=(0 :
 Int)/\Value.slice none (0:Nat) (0:Nat)=Value.slice none (0:Nat) (0:Nat))/\Prod.fst d=Prod.fst d/\Prod.snd x++[((b,Prod.fst (List.getD (Prod.snd d) (Int.toNat (↑(Prod.fst x):Int)) ([],(0:Int),[],
 []))),Prod.fst (Prod.snd (List.getD (Prod.snd d) (Int.toNat (↑(Prod.fst x):Int)) ([],(0:Int),[],[]))),(gH,Prod.fst (Prod.snd (Prod.snd (List.getD (Prod.snd d) (Int.toNat (↑(Prod.fst x):Int)) ([],(0 :
 Int),[],[]))))),gI,Prod.snd (Prod.snd (Prod.snd (List.getD (Prod.snd d) (Int.toNat (↑(Prod.fst x):Int)) ([],(0:Int),[],[])))))]=Prod.snd x'))
theorem Ie :
 ∀(d:Int×List (List Int×Int×List Int×List Int)),Ty.wf bq d->bj d.2->((0:Nat)<=d.2.length/\List.map bf []=List.take (0:Nat) d.2/\List.Nodup (List.flatMap cg []))/\(((d.1=d.1/\d.2=d.2)/\d.1=d.1/\(d.1=d.1/\aQ)/\d.2=d.2/\ae (d.2.length:Int)/\(0:Int)=(↑(0:Nat):Int))/\(d.1=d.1/\d.2=d.2)/\(ae (0:Int)/\aQ)/\d.1=d.1/\([]:List aN)=[])/\∀(x:Nat×List ((Nat×List Int)×Int×(Nat×List Int)×Nat×List Int)),x.1<=d.2.length/\List.map bf x.2=List.take x.1 d.2/\List.Nodup (List.flatMap cg x.2)->(decide ((x.1:Int)<(d.2.length:Int))=true->((0:Int)<=(x.1:Int)/\(x.1:Int)<(d.2.length:Int))/\(RW d x)/\(RW d x)/\mr (d.2.getD ((x.1:Int).toNat) ([],(0:Int),[],[]))/\(Ty.wf dj (d.2.getD ((x.1:Int).toNat) ([],(0:Int),[],[]))->(∀(b:Nat),¬b∈aX bA x.2->∀(gH:Nat),¬gH∈aX bA x.2/\gH≠b->∀(gI:Nat),¬gI∈aX bA x.2/\gI≠gH/\gI≠b->(x.2.length+List.length [((b,(d.2.getD ((x.1:Int).toNat) ([],(0:Int),[],[])).1),(d.2.getD ((x.1:Int).toNat) ([],(0:Int),[],[])).2.1,(gH,(d.2.getD ((x.1:Int).toNat) ([],(0:Int),[],[])).2.2.1),gI,(d.2.getD ((x.1:Int).toNat) ([],(0:Int),[],[])).2.2.2)])*(80:Nat)<=(140737488355328:Nat)/\∃(x':Nat×List ((Nat×List Int)×Int×(Nat×List Int)×Nat×List Int)),(x'.1<=d.2.length/\List.map bf x'.2=List.take x'.1 d.2/\List.Nodup (List.flatMap cg x'.2))/\d.2.length-x'.1<d.2.length-x.1/\(RX d x x')/\(d.1=d.1/\d.2=d.2)/\(ae (0:Int)/\aQ)/\d.1=d.1/\x.2++[((b,(d.2.getD ((x.1:Int).toNat) ([],(0:Int),[],[])).1),(d.2.getD ((x.1:Int).toNat) ([],(0:Int),[],[])).2.1,(gH,(d.2.getD ((x.1:Int).toNat) ([],(0:Int),[],[])).2.2.1),gI,(d.2.getD ((x.1:Int).toNat) ([],(0:Int),[],[])).2.2.2)]=x'.2)/\∀(b:Nat),¬b∈aX bA x.2->∀(gH:Nat),¬gH∈aX bA x.2/\gH≠b->∀(gI:Nat),¬gI∈aX bA x.2/\gI≠gH/\gI≠b->(x.2.length+List.length [((b,(d.2.getD ((x.1:Int).toNat) ([],(0:Int),[],[])).1),(d.2.getD ((x.1:Int).toNat) ([],(0:Int),[],[])).2.1,(gH,(d.2.getD ((x.1:Int).toNat) ([],(0:Int),[],[])).2.2.1),gI,(d.2.getD ((x.1:Int).toNat) ([],(0:Int),[],[])).2.2.2)])*(80:Nat)<=(140737488355328:Nat)/\∃(x':Nat×List ((Nat×List Int)×Int×(Nat×List Int)×Nat×List Int)),(x'.1<=d.2.length/\List.map bf x'.2=List.take x'.1 d.2/\List.Nodup (List.flatMap cg x'.2))/\d.2.length-x'.1<d.2.length-x.1/\(RX d x x')/\(d.1=d.1/\d.2=d.2)/\(ae (0:Int)/\aQ)/\d.1=d.1/\x.2++[((b,(d.2.getD ((x.1:Int).toNat) ([],(0:Int),[],[])).1),(d.2.getD ((x.1:Int).toNat) ([],(0:Int),[],[])).2.1,(gH,(d.2.getD ((x.1:Int).toNat) ([],(0:Int),[],[])).2.2.1),gI,(d.2.getD ((x.1:Int).toNat) ([],(0:Int),[],[])).2.2.2)]=x'.2))/\(decide ((x.1:Int)<(d.2.length:Int))=false->aU aB (d.1,x.2)=d/\List.Nodup (ids aB (d.1,x.2))):=by
  intro d hw hp
  have hlen:=hp.1
  refine⟨⟨Nat.zero_le _,rfl,List.nodup_nil⟩,?_,fun x ⟨h1,h2,h3⟩=>⟨fun h5=>?_,fun h5=>?_⟩⟩
  ·repeat' (first|exact rfl|apply And.intro)
  ·have h5:(x.1:Int)<(d.2.length:Int):=of_decide_eq_true h5
   have h6:x.1<d.2.length:=by omega
   have h7:(0:Int)<=(x.1:Int)/\(x.1:Int)<(d.2.length:Int):=⟨by omega,h5⟩
   have fW:i64.wrap ((x.1:Int)+1)=((x.1+1:Nat):Int):=by rw[wrap_small (by omega)];rfl
   have hE:=nF hp h6
   have Yd:=hE.1
   have Ye:=hE.2
   have hlx:=QI h2
   rw[List.length_take] at hlx
   have leaf:∀(b:Nat),¬b∈aX bA x.2->∀(gH:Nat),¬gH∈aX bA x.2/\gH≠b->∀(gI:Nat),¬gI∈aX bA x.2/\gI≠gH/\gI≠b →
    (List.length x.2+List.length [((b,(d.2.getD x.1 gQ).1),(d.2.getD x.1 gQ).2.1,(gH,(d.2.getD x.1 gQ).2.2.1),(gI,(d.2.getD x.1 gQ).2.2.2))])*80<=140737488355328/\∃ x':Nat×List aN,(x'.1<=d.2.length/\x'.2.map bf=d.2.take x'.1/\(x'.2.flatMap cg).Nodup) ∧
      d.2.length-x'.1<d.2.length-x.1/\RX d x x'/\(d.1=d.1/\d.2=d.2)/\((0:Int)=0/\Value.slice none 0 0=Value.slice none 0 0)/\d.1=d.1/\x.2++[((b,(d.2.getD x.1 gQ).1),(d.2.getD x.1 gQ).2.1,(gH,(d.2.getD x.1 gQ).2.2.1),(gI,(d.2.getD x.1 gQ).2.2.2))]=x'.2:=by
    intro b hb b1 fe b2 jx
    rw[Ev] at hb fe jx
    refine⟨by simp only[List.length_singleton];omega,(x.1+1,_),⟨by simp only;omega,N6 h2 h6 b b1 b2,QO h3 hb fe jx _ _ _ _⟩,by simp only;omega,by repeat' (first|exact rfl|exact fW|apply And.intro),⟨rfl,rfl⟩,⟨rfl,rfl⟩,rfl,rfl⟩
   have afq:RW d x:=by
    unfold RW
    repeat' (first|assumption|exact hE|exact Yd|exact Ye|exact leaf|apply And.intro|intro _)
   repeat' (first|assumption|exact hE|exact Yd|exact Ye|exact leaf|apply And.intro|intro _)
  ·have h5:¬(x.1:Int)<(d.2.length:Int):=of_decide_eq_false h5
   have h6:x.1=d.2.length:=by omega
   rw[H_,zn,h2,h6,List.take_length]
   exact⟨rfl,h3⟩
theorem P4 :
 ∀(d:Int×List (List Int×Int×List Int×List Int)),Ty.wf bq d->bj d.2->(0:Nat)<=d.2.length/\(((d.1=d.1/\d.2=d.2)/\(0:Int)=(↑(0:Nat):Int))/\(d.1=d.1/\d.2=d.2)/\(ae (0:Int)/\aQ)/\d.1=d.1/\List.take (0:Nat) d.2=[])/\∀(x:Nat),x<=d.2.length->(decide ((x:Int)<(d.2.length:Int))=true->((0:Int)<=(x:Int)/\(x:Int)<(d.2.length:Int))/\List.length (d.2.getD ((x:Int).toNat) ([],(0:Int),[],[])).1<=(1048576:Nat)/\((0:Int)<=(x:Int)/\(x:Int)<(d.2.length:Int))/\eP (d.2.getD ((x:Int).toNat) ([],(0:Int),[],[])).2/\(Ty.wf bd (d.2.getD ((x:Int).toNat) ([],(0:Int),[],[])).2->Ty.wf bp (d.2.getD ((x:Int).toNat) ([],(0:Int),[],[])).1->(List.length (List.take x d.2)+List.length [d.2.getD ((x:Int).toNat) ([],(0:Int),[],[])])*(80:Nat)<=(140737488355328:Nat)/\∃(x':Nat),x'<=d.2.length/\d.2.length-x'<d.2.length-x/\((d.1=d.1/\d.2=d.2)/\i64.wrap ((x:Int)+(1:Int))=(x':Int))/\(d.1=d.1/\d.2=d.2)/\(ae (0:Int)/\aQ)/\d.1=d.1/\List.take x d.2++[d.2.getD ((x:Int).toNat) ([],(0:Int),[],[])]=List.take x' d.2))/\(decide ((x:Int)<(d.2.length:Int))=false->(d.1,List.take x d.2)=d):=by
  intro d hw hp
  have hlen:=hp.1
  simp only[exists_const,forall_const,decide_eq_true_eq,decide_eq_false_iff_not,beq_iff_eq,sxS]
  refine⟨Nat.zero_le _,?_,fun x hx=>⟨fun h=>?_,fun h=>?_⟩⟩
  ·repeat' (first|exact rfl|apply And.intro)
  ·have h6:x<d.2.length:=by omega
   have hE:=nF hp h6
   have fW:i64.wrap ((x:Int)+1)=((x+1:Nat):Int):=by rw[wrap_small (by omega)];rfl
   refine⟨⟨by omega,h⟩,hE.1,⟨by omega,h⟩,hE.2,fun _ _=>⟨by rw[List.length_take,List.length_singleton];omega,x+1,by omega,by omega,fW,?_⟩⟩
   rw[List.take_succ_eq_append_getElem h6];simp[h6]
  ·have h6:x=d.2.length:=by omega
   rw[h6,List.take_length]
theorem iR(xs:List Int)(k:Int):(eQ xs k).length=xs.length:=r7 _ _ xs k
theorem KC :
 ∀(d:List Int) (k:Int),Ty.wf (Ty.sl dV) d->IntKind.min i64<=k/\k<=IntKind.max i64->True->List.length (eQ d k)=d.length/\((0:Nat)<=d.length/\k=nB (List.take (0:Nat) d) k)/\((k=k/\(0:Int)=(↑(0:Nat):Int))/\d=eQ (List.take (0:Nat) d) k++List.drop (0:Nat) d)/\∀(x:Nat×Int),x.1<=d.length/\x.2=nB (List.take x.1 d) k->(decide ((x.1:Int)<(↑(List.length (eQ (List.take x.1 d) k++List.drop x.1 d)):Int))=true->((0:Int)<=(x.1:Int)/\(x.1:Int)<(↑(List.length (eQ (List.take x.1 d) k++List.drop x.1 d)):Int))/\∃(x':Nat×Int),(x'.1<=d.length/\x'.2=nB (List.take x'.1 d) k)/\d.length-x'.1<d.length-x.1/\(i64.wrap (x.2+(1:Int))=x'.2/\i64.wrap ((x.1:Int)+(1:Int))=(x'.1:Int))/\List.set (eQ (List.take x.1 d) k++List.drop x.1 d) ((x.1:Int).toNat) (IntKind.wrap u8 x.2)=eQ (List.take x'.1 d) k++List.drop x'.1 d)/\(decide ((x.1:Int)<(↑(List.length (eQ (List.take x.1 d) k++List.drop x.1 d)):Int))=false->x.2=nB d k/\eQ (List.take x.1 d) k++List.drop x.1 d=eQ d k):=by
  intro (d:List (Int)) k hw hk _
  have hl:d.length<=9223372036854775807:=hw.1
  refine⟨iR d k,⟨Nat.zero_le _,by simp[nB,jA]⟩,⟨⟨rfl,rfl⟩,by simp[eQ,rz]⟩,fun x ⟨h1,h2⟩=>?_⟩
  obtain⟨j,kk⟩:=x
  simp only at h1 h2
  have hlen:(eQ (d.take j) k++d.drop j).length=d.length:=by rw[List.length_append,iR,List.length_take,List.length_drop];omega
  have oe:j<d.length->(eQ (d.take j) k++d.drop j).set j (w8 (nB (d.take j) k))=eQ (d.take (j+1)) k++d.drop (j+1):=fun h=>HC w8 n1 d k j h
  have Em:j<d.length->nB (d.take (j+1)) k=n1 (nB (d.take j) k):=fun h=>zy n1 d k j h
  refine⟨fun h3=>?_,fun h3=>?_⟩
  ·have h3:j<d.length:=by rw[hlen] at h3;simpa using h3
   replace oe:=oe h3
   replace Em:=Em h3
   simp only[Int.toNat_natCast]
   generalize eQ (d.take j) k++d.drop j=ys at *
   have h4:j<ys.length:=by omega
   rw[aG (by omega),hlen]
   refine⟨⟨by omega,by omega⟩,(j+1,n1 kk),⟨by simp only;omega,by simp only;rw[Em,h2]⟩,by simp only;omega,⟨rfl,rfl⟩,?_⟩
   rw[<-oe,h2];rfl
  ·have h4:j=d.length:=by rw[hlen] at h3;simp at h3;omega
   subst h4
   rw[List.take_length] at h2 ⊢
   rw[List.drop_length,List.append_nil]
   exact⟨h2,rfl⟩
theorem Io :
 ∀(d:List Int×Int),Ty.wf (Ty.sl dV) d.1/\Ty.wf (Ty.int i64) d.2->d.1=[]/\True->True/\(d.1=d.1/\d.2=d.2/\ae (0:Int))/\∀(x:Unit),True->(decide ((0:Int)<(d.1.length:Int))=true->((0:Int)<=(0:Int)/\(0:Int)<(d.1.length:Int))/\False)/\(decide ((0:Int)<(d.1.length:Int))=false->d.2=nB d.1 d.2):=by
  intro d hw hp
  obtain⟨xs,k⟩:=d
  obtain⟨h1,_⟩:=hp
  have h1:xs=[]:=h1
  subst h1
  refine⟨trivial,by simp,fun x _=>⟨fun h=>?_,fun _=>rfl⟩⟩
  simp at h
theorem KE :
 ∀(d:List Int×Int),Ty.wf (Ty.sl ai) d.1/\Ty.wf (Ty.int i64) d.2->d.1=[]/\True->True/\(d.1=d.1/\d.2=d.2/\ae (0:Int))/\∀(x:Unit),True->(decide ((0:Int)<(d.1.length:Int))=true->((0:Int)<=(0:Int)/\(0:Int)<(d.1.length:Int))/\False)/\(decide ((0:Int)<(d.1.length:Int))=false->d.2=dJ d.1 d.2):=by
  intro d hw hp
  obtain⟨xs,k⟩:=d
  obtain⟨h1,_⟩:=hp
  have h1:xs=[]:=h1
  subst h1
  refine⟨trivial,by simp,fun x _=>⟨fun h=>?_,fun _=>rfl⟩⟩
  simp at h
theorem KA :
 ∀(d:List Int×Int),Ty.wf (Ty.sl dV) d.1/\Ty.wf ai d.2->True->((0:Nat)<=d.1.length/\dM (List.drop (0:Nat) d.1) d.2=dM d.1 d.2)/\(d.1=d.1/\d.2=d.2/\(0:Int)=(↑(0:Nat):Int))/\∀(x:Nat×Int),x.1<=d.1.length/\dM (List.drop x.1 d.1) x.2=dM d.1 d.2->(decide ((x.1:Int)<(d.1.length:Int))=true->((0:Int)<=(x.1:Int)/\(x.1:Int)<(d.1.length:Int))/\((!decide (d.1.getD ((x.1:Int).toNat) (0:Int)=IntKind.wrap u8 x.2))=true->(-1:Int)=dM d.1 d.2)/\((!decide (d.1.getD ((x.1:Int).toNat) (0:Int)=IntKind.wrap u8 x.2))=false->∃(x':Nat×Int),(x'.1<=d.1.length/\dM (List.drop x'.1 d.1) x'.2=dM d.1 d.2)/\d.1.length-x'.1<d.1.length-x.1/\d.1=d.1/\i64.wrap (x.2+(1:Int))=x'.2/\i64.wrap ((x.1:Int)+(1:Int))=(x'.1:Int)))/\(decide ((x.1:Int)<(d.1.length:Int))=false->x.2=dM d.1 d.2):=by
  intro (d:List Int×Int) hw _
  obtain⟨xs,k⟩:=d
  have hl:xs.length<=9223372036854775807:=hw.1.1
  simp only[exists_const,forall_const,decide_eq_true_eq,decide_eq_false_iff_not,beq_iff_eq,sxS]
  refine⟨⟨Nat.zero_le _,by simp⟩,rfl,fun x ⟨h1,h2⟩=>⟨fun h3=>?_,fun h3=>?_⟩⟩
  ·have h4:x.1<xs.length:=by omega
   rw[gD (x:=(0:Int)) h4] at h2
   generalize dM xs k=r at h2 ⊢
   unfold dM ve at h2
   rw[aG (by omega)]
   refine⟨⟨by omega,by omega⟩,?_⟩
   generalize xs.getD x.1 0=y at *
   by_cases a1:y=u8.wrap x.2
   ·refine⟨fun h=>absurd a1 (by simpa using h),fun _=>⟨(x.1+1,n1 x.2),⟨by simp only;omega,?_⟩,by simp only;omega,rfl,rfl⟩⟩
    rw[if_pos (by simp[YJ,w8,a1])] at h2
    exact h2
   ·refine⟨fun _=>?_,fun h=>absurd (by simpa using h) a1⟩
    rw[if_neg (by simp[YJ,w8,a1])] at h2
    exact h2
  ·have h4:x.1=xs.length:=by omega
   rw[h4,List.drop_length] at h2
   exact h2
theorem VY{c:Int}{es:List En}{n:Nat}(h:30<n+1\/c<(c9 (es.take (n+1)):Int)):cB c es (n+1)=cB c es n:=by
 conv=>lhs;unfold cB
 rw[if_pos h]
theorem VZ{c:Int}{es:List En}:∀ {n:Nat},¬30<n->¬c<(c9 (es.take n):Int)->cB c es n=n
 | 0,_,_=>rfl
 | n+1,h1,h2=>by
   unfold cB
   rw[if_neg (by omega)]
theorem WD{es:List En}(h:bj es)(n:Nat):bj (es.take n):=⟨by rw[List.length_take];have:=h.1;omega,fun e he=>h.2 e (List.mem_of_mem_take he)⟩
theorem XP(L:List aN)(n:Nat):bH bA (L.take n)=(L.map bf).take n:=by rw[S5,List.map_take]
theorem AP :
 ∀(c:Int) (xs:List ((Nat×List Int)×Int×(Nat×List Int)×Nat×List Int)),IntKind.min i64<=c/\c<=IntKind.max i64->Ty.wf (Ty.sl bA) xs->bj (List.map bf xs)/\(0:Int)<=c->(xs.length<=xs.length/\ae (cB c (List.map bf xs) xs.length))/\((c=c/\ae (xs.length))/\xs=xs/\(c=c/\ae (xs.length))/\ae (0:Int)/\aQ)/\∀(x:Nat),x<=xs.length/\cB c (List.map bf xs) x=cB c (List.map bf xs) xs.length->(decide ((30:Int)<(x:Int))=true->((0:Int)<=i64.wrap ((x:Int)-(1:Int))/\i64.wrap ((x:Int)-(1:Int))<=(x:Int))/\∃(x':Nat),(x'<=xs.length/\cB c (List.map bf xs) x'=cB c (List.map bf xs) xs.length)/\x'<x/\(c=c/\ae (xs.length))/\xs=xs/\(c=c/\Int.toNat (i64.wrap ((x:Int)-(1:Int)))=x')/\ae (0:Int)/\aQ)/\(decide ((30:Int)<(x:Int))=false->bj (bH bA (List.take x xs))/\(Ty.wf ai (↑(c9 (bH bA (List.take x xs))):Int)->(decide (c<(↑(c9 (bH bA (List.take x xs))):Int))=true->((0:Int)<=i64.wrap ((x:Int)-(1:Int))/\i64.wrap ((x:Int)-(1:Int))<=(x:Int))/\∃(x':Nat),(x'<=xs.length/\cB c (List.map bf xs) x'=cB c (List.map bf xs) xs.length)/\x'<x/\(c=c/\ae (xs.length))/\xs=xs/\(c=c/\Int.toNat (i64.wrap ((x:Int)-(1:Int)))=x')/\ae (0:Int)/\aQ)/\(decide (c<(↑(c9 (bH bA (List.take x xs))):Int))=false->c=c/\x=cB c (List.map bf xs) xs.length/\xs=xs))):=by
  intro c xs hc hw hp
  have Us:(0:Int)<=c:=hp.2
  have hpe:bj (xs.map bf):=hp.1
  have we:xs.length<=1048576:=by have:=hpe.1;rw[List.length_map] at this;exact this
  simp only[exists_const,forall_const,decide_eq_true_eq,decide_eq_false_iff_not,beq_iff_eq,sxS]
  refine⟨Nat.le_refl _,fun x ⟨h1,h2⟩=>?_⟩
  have step:(30<x\/c<(c9 ((xs.map bf).take x):Int))->((0:Int)<=i64.wrap ((x:Int)-1)/\i64.wrap ((x:Int)-1)<=(x:Int))/\∃ x':Nat,(x'<=xs.length/\cB c (xs.map bf) x'=cB c (xs.map bf) xs.length)/\x'<x/\(i64.wrap ((x:Int)-1)).toNat=x':=by
   intro h
   cases x with
   | zero=>simp[c9] at h;omega
   | succ n =>
     have fW:i64.wrap (((n+1:Nat):Int)-1)=(n:Int):=by rw[wrap_small (by omega)];omega
     rw[fW]
     refine⟨by omega,n,⟨by omega,?_⟩,by omega,by omega⟩
     rw[<-h2,VY h]
  rw[XP]
  refine⟨fun h3=>step (.inl (by omega)),fun h3=>⟨WD hpe x,fun _=>⟨fun h4=>step (.inr h4),fun h4=>?_⟩⟩⟩
  rw[<-h2,VZ (by omega) h4]
theorem P5 :
 ∀(c:Int) (xs:List ((Nat×List Int)×Int×(Nat×List Int)×Nat×List Int)),IntKind.min i64<=c/\c<=IntKind.max i64->Ty.wf (Ty.sl b7) xs->bj (List.map bf xs)/\(0:Int)<=c->(xs.length<=xs.length/\ae (cB c (List.map bf xs) xs.length))/\((c=c/\ae (xs.length))/\xs=xs/\(c=c/\ae (xs.length))/\ae (0:Int)/\aQ)/\∀(x:Nat),x<=xs.length/\cB c (List.map bf xs) x=cB c (List.map bf xs) xs.length->(decide ((30:Int)<(x:Int))=true->((0:Int)<=i64.wrap ((x:Int)-(1:Int))/\i64.wrap ((x:Int)-(1:Int))<=(x:Int))/\∃(x':Nat),(x'<=xs.length/\cB c (List.map bf xs) x'=cB c (List.map bf xs) xs.length)/\x'<x/\(c=c/\ae (xs.length))/\xs=xs/\(c=c/\Int.toNat (i64.wrap ((x:Int)-(1:Int)))=x')/\ae (0:Int)/\aQ)/\(decide ((30:Int)<(x:Int))=false->bj (bH b7 (List.take x xs))/\(Ty.wf ai (↑(c9 (bH b7 (List.take x xs))):Int)->(decide (c<(↑(c9 (bH b7 (List.take x xs))):Int))=true->((0:Int)<=i64.wrap ((x:Int)-(1:Int))/\i64.wrap ((x:Int)-(1:Int))<=(x:Int))/\∃(x':Nat),(x'<=xs.length/\cB c (List.map bf xs) x'=cB c (List.map bf xs) xs.length)/\x'<x/\(c=c/\ae (xs.length))/\xs=xs/\(c=c/\Int.toNat (i64.wrap ((x:Int)-(1:Int)))=x')/\ae (0:Int)/\aQ)/\(decide (c<(↑(c9 (bH b7 (List.take x xs))):Int))=false->c=c/\x=cB c (List.map bf xs) xs.length/\xs=xs))):=by
  exact AP
theorem ado{c:Ca}{r:List aN}{room:Int}(h:r.map bf=c.2):(room,(r.take (cB room (r.map bf) r.length)).map bf)=Oa (room,c.2):=by
 unfold Oa
 have hl:r.length=c.2.length:=QI h
 rw[List.map_take,h,hl]
theorem W8{L:List aN}(h:(L.flatMap cg).Nodup)(n:Nat):((L.take n).flatMap cg).Nodup:=by
 have h1:L.flatMap cg=(L.take n).flatMap cg++(L.drop n).flatMap cg:=by rw[<-List.flatMap_append,List.take_append_drop]
 rw[h1,List.nodup_append] at h
 exact h.1
theorem D7{r:Int×List aN}{c:Ca}(h:aU aB r=c):r.1=c.1/\r.2.map bf=c.2:=by
 rw[H_] at h
 rw[<-h]
 exact⟨rfl,rfl⟩
def u1(b:Nat)(new:List Int)(q:PG):PG:=if q.1=b/\q.2.length=new.length then (q.1,new) else q
theorem C7(b:Nat)(new:List Int)(y:aN):kE b dV new bA y=(u1 b new y.1,y.2.1,y.2.2.1,y.2.2.2):=by
 have h:¬(ai=dV):=by decide
 show ((if h:dV=dV then (if y.1.1=b/\y.1.2.length=new.length then (y.1.1,cA h.symm new) else y.1) else y.1),y.2.1,(if h:ai=dV then (if y.2.2.1.1=b/\y.2.2.1.2.length=new.length then (y.2.2.1.1,cA h.symm new) else y.2.2.1) else y.2.2.1),(if h:ai=dV then (if y.2.2.2.1=b/\y.2.2.2.2.length=new.length then (y.2.2.2.1,cA h.symm new) else y.2.2.2) else y.2.2.2))=_
 rw[dif_pos rfl,dif_neg h,dif_neg h]
 rfl
theorem pg(b:Nat)(new:List Int)(y:aN):kE b ai new bA y=(y.1,y.2.1,u1 b new y.2.2.1,u1 b new y.2.2.2):=by
 have h:¬(dV=ai):=by decide
 show ((if h:dV=ai then (if y.1.1=b/\y.1.2.length=new.length then (y.1.1,cA h.symm new) else y.1) else y.1),y.2.1,(if h:ai=ai then (if y.2.2.1.1=b/\y.2.2.1.2.length=new.length then (y.2.2.1.1,cA h.symm new) else y.2.2.1) else y.2.2.1),(if h:ai=ai then (if y.2.2.2.1=b/\y.2.2.2.2.length=new.length then (y.2.2.2.1,cA h.symm new) else y.2.2.2) else y.2.2.2))=_
 rw[dif_neg h,dif_pos rfl,dif_pos rfl]
 rfl
theorem ML{b n:Nat}{y:aN}(h1:y.1.1=b->y.1.2≠[]->y.1.2.length=n)(h2:y.2.2.1.1=b->y.2.2.1.2=[])(h3:y.2.2.2.1=b->y.2.2.2.2=[]):p_ b dV n bA y:=by
 have h:¬(ai=dV/\true=true):=by decide
 refine⟨?_,trivial,?_,?_⟩
 ·show if dV=dV/\true=true then (y.1.1=b->y.1.2≠[]->y.1.2.length=n) else (y.1.1=b->y.1.2=[])
  rw[if_pos ⟨rfl,rfl⟩];exact h1
 ·show if ai=dV/\true=true then (y.2.2.1.1=b->y.2.2.1.2≠[]->y.2.2.1.2.length=n) else (y.2.2.1.1=b->y.2.2.1.2=[])
  rw[if_neg h];exact h2
 ·show if ai=dV/\true=true then (y.2.2.2.1=b->y.2.2.2.2≠[]->y.2.2.2.2.length=n) else (y.2.2.2.1=b->y.2.2.2.2=[])
  rw[if_neg h];exact h3
theorem zp{b n:Nat}{y:aN}(h1:y.1.1=b->y.1.2=[])(h2:y.2.2.1.1=b->y.2.2.1.2≠[]->y.2.2.1.2.length=n)(h3:y.2.2.2.1=b->y.2.2.2.2≠[]->y.2.2.2.2.length=n):p_ b ai n bA y:=by
 have h:¬(dV=ai/\true=true):=by decide
 refine⟨?_,trivial,?_,?_⟩
 ·show if dV=ai/\true=true then (y.1.1=b->y.1.2≠[]->y.1.2.length=n) else (y.1.1=b->y.1.2=[])
  rw[if_neg h];exact h1
 ·show if ai=ai/\true=true then (y.2.2.1.1=b->y.2.2.1.2≠[]->y.2.2.1.2.length=n) else (y.2.2.1.1=b->y.2.2.1.2=[])
  rw[if_pos ⟨rfl,rfl⟩];exact h2
 ·show if ai=ai/\true=true then (y.2.2.2.1=b->y.2.2.2.2≠[]->y.2.2.2.2.length=n) else (y.2.2.2.1=b->y.2.2.2.2=[])
  rw[if_pos ⟨rfl,rfl⟩];exact h3
theorem nf{b:Nat}{q:PG}(h:b ∉ jW q):q.1=b->q.2=[]:=by
 intro e
 refine Classical.byContradiction fun hn=>h ?_
 unfold jW
 rw[if_neg hn,e]
 exact List.mem_singleton.2 rfl
theorem Mv{q:PG}(h:q.2≠[]):jW q=[q.1]:=by unfold jW;rw[if_neg h]
theorem vI{b:Nat}{new:List Int}{q:PG}(h:q.1=b->q.2=[]):u1 b new q=q:=by
 unfold u1
 split
 ·rename_i hx
  obtain⟨h1,h2⟩:=hx
  have h3:=h h1
  rw[h3] at h2
  have:new=[]:=List.length_eq_zero_iff.1 h2.symm
  rw[this]
  obtain⟨a,c⟩:=q
  simp only at h3
  rw[h3]
 ·rfl
theorem S4{new:List Int}{q:PG}(h:q.2.length=new.length):u1 q.1 new q=(q.1,new):=by unfold u1;rw[if_pos ⟨rfl,h⟩]
theorem n5{b:Nat}{q:PG}:u1 b [] q=q:=by
 unfold u1
 split
 ·rename_i hx
  have h3:q.2=[]:=List.length_eq_zero_iff.1 hx.2
  obtain⟨a,c⟩:=q
  simp only at h3
  rw[h3]
 ·rfl
theorem kI{A C:List aN}{f:aN}(cR:(A.flatMap cg++(cg f++C.flatMap cg)).Nodup){b:Nat}(hb:b∈cg f){y:aN}(hy:y∈A\/y∈C):b ∉ cg y:=by
 rw[List.nodup_append,List.nodup_append] at cR
 intro h
 rcases hy with hy|hy
 ·exact cR.2.2 b (List.mem_flatMap.2 ⟨y,hy,h⟩) b (List.mem_append_left _ hb) rfl
 ·exact cR.2.1.2.2 b hb b (List.mem_flatMap.2 ⟨y,hy,h⟩) rfl
theorem kL{b:Nat}{y:aN}(h:b ∉ cg y):(y.1.1=b->y.1.2=[])/\(y.2.2.1.1=b->y.2.2.1.2=[])/\(y.2.2.2.1=b->y.2.2.2.2=[]):=by
 unfold cg at h
 rw[List.mem_append,List.mem_append] at h
 exact⟨nf (fun q=>h (.inl q)),nf (fun q=>h (.inr (.inl q))),nf (fun q=>h (.inr (.inr q)))⟩
theorem BI{A C:List aN}{f:aN}(cR:(A.flatMap cg++(cg f++C.flatMap cg)).Nodup):(cg f).Nodup:=by
 rw[List.nodup_append,List.nodup_append] at cR
 exact cR.2.1.1
theorem MH{f:aN}(hn:(cg f).Nodup)(h:f.1.2≠[]):f.1.1∈cg f/\(f.2.2.1.1=f.1.1->f.2.2.1.2=[])/\(f.2.2.2.1=f.1.1->f.2.2.2.2=[]):=by
 unfold cg at hn ⊢
 rw[Mv h] at hn ⊢
 rw[List.nodup_append] at hn
 refine⟨List.mem_append_left _ (List.mem_singleton.2 rfl),nf (fun q=>?_),nf (fun q=>?_)⟩
 ·exact hn.2.2 _ (List.mem_singleton.2 rfl) _ (List.mem_append_left _ q) rfl
 ·exact hn.2.2 _ (List.mem_singleton.2 rfl) _ (List.mem_append_right _ q) rfl
theorem M_{f:aN}(hn:(cg f).Nodup)(h:f.2.2.1.2≠[]):f.2.2.1.1∈cg f/\(f.1.1=f.2.2.1.1->f.1.2=[])/\(f.2.2.2.1=f.2.2.1.1->f.2.2.2.2=[]):=by
 unfold cg at hn ⊢
 rw[Mv h] at hn ⊢
 rw[List.nodup_append,List.nodup_append] at hn
 refine⟨List.mem_append_right _ (List.mem_append_left _ (List.mem_singleton.2 rfl)),nf (fun q=>?_),nf (fun q=>?_)⟩
 ·exact hn.2.2 _ q _ (List.mem_append_left _ (List.mem_singleton.2 rfl)) rfl
 ·exact hn.2.1.2.2 _ (List.mem_singleton.2 rfl) _ q rfl
theorem HD{f:aN}(hn:(cg f).Nodup)(h:f.2.2.2.2≠[]):f.2.2.2.1∈cg f/\(f.1.1=f.2.2.2.1->f.1.2=[])/\(f.2.2.1.1=f.2.2.2.1->f.2.2.1.2=[]):=by
 unfold cg at hn ⊢
 rw[Mv h] at hn ⊢
 rw[List.nodup_append,List.nodup_append] at hn
 refine⟨List.mem_append_right _ (List.mem_append_right _ (List.mem_singleton.2 rfl)),nf (fun q=>?_),nf (fun q=>?_)⟩
 ·exact hn.2.2 _ q _ (List.mem_append_right _ (List.mem_singleton.2 rfl)) rfl
 ·exact hn.2.1.2.2 _ q _ (List.mem_singleton.2 rfl) rfl
theorem mem_row{A C:List aN}{f:aN}{b:Nat}(h:b∈cg f):b∈(A++f::C).flatMap cg:=by
 rw[List.flatMap_append,List.flatMap_cons]
 exact List.mem_append_right _ (List.mem_append_left _ h)
theorem Ck{A C:List aN}{f y:aN}(h:y∈A++f::C):y=f\/y∈A\/y∈C:=by
 rcases List.mem_append.1 h with h|h
 ·exact .inr (.inl h)
 ·rcases List.mem_cons.1 h with h|h
  ·exact .inl h
  ·exact .inr (.inr h)
def Rl(A C:List aN)(f f':aN)(p:PG)(e:Ty)(new:List e.den):Prop :=
 (p.2≠[]->p.1∈(A++f::C).flatMap cg/\∀ y,y∈A++f::C->p_ p.1 e p.2.length bA y)/\(A++f::C).map (kE p.1 e new bA)=A++f'::C
theorem ur{A C:List aN}{f f':aN}{g:aN->aN}(h:∀ y,y∈A\/y∈C->g y=y)(hf:g f=f'):(A++f::C).map g=A++f'::C:=by
 rw[List.map_append,List.map_cons,hf,List.map_congr_left (g:=id) (fun y hy=>h y (.inl hy)),List.map_congr_left (l:=C) (g:=id) (fun y hy=>h y (.inr hy)),List.map_id,List.map_id]
theorem XG{A C:List aN}{f:aN}(cR:(A.flatMap cg++(cg f++C.flatMap cg)).Nodup){new:List Int}(hl:new.length=f.1.2.length):Rl A C f ((f.1.1,new),f.2) f.1 dV new:=by
 have hn:=BI cR
 refine⟨fun h=>⟨mem_row (MH hn h).1,fun y hy=>?_⟩,?_⟩
 ·obtain⟨k1,k2,k3⟩:=MH hn h
  rcases Ck hy with rfl|hy
  ·exact ML (fun _ _=>rfl) k2 k3
  ·obtain⟨o1,o2,o3⟩:=kL (kI cR k1 hy)
   exact ML (fun q1 q2=>absurd (o1 q1) q2) o2 o3
 ·by_cases h:f.1.2=[]
  ·have iN:new=[]:=List.length_eq_zero_iff.1 (by rw[hl,h];rfl)
   subst iN
   refine ur (fun y _=>by rw[C7,n5]) ?_
   rw[C7,n5,<-h]
  ·obtain⟨k1,k2,k3⟩:=MH hn h
   refine ur (fun y hy=>?_) ?_
   ·rw[C7,vI (kL (kI cR k1 hy)).1]
   ·rw[C7,S4 hl.symm]
theorem XH{A C:List aN}{f:aN}(cR:(A.flatMap cg++(cg f++C.flatMap cg)).Nodup){new:List Int}(hl:new.length=f.2.2.1.2.length):Rl A C f (f.1,f.2.1,(f.2.2.1.1,new),f.2.2.2) f.2.2.1 ai new:=by
 have hn:=BI cR
 refine⟨fun h=>⟨mem_row (M_ hn h).1,fun y hy=>?_⟩,?_⟩
 ·obtain⟨k1,k2,k3⟩:=M_ hn h
  rcases Ck hy with rfl|hy
  ·exact zp k2 (fun _ _=>rfl) (fun q1 q2=>absurd (k3 q1) q2)
  ·obtain⟨o1,o2,o3⟩:=kL (kI cR k1 hy)
   exact zp o1 (fun q1 q2=>absurd (o2 q1) q2) (fun q1 q2=>absurd (o3 q1) q2)
 ·by_cases h:f.2.2.1.2=[]
  ·have iN:new=[]:=List.length_eq_zero_iff.1 (by rw[hl,h];rfl)
   subst iN
   refine ur (fun y _=>by rw[pg,n5,n5]) ?_
   rw[pg,n5,n5,<-h]
  ·obtain⟨k1,k2,k3⟩:=M_ hn h
   refine ur (fun y hy=>?_) ?_
   ·rw[pg,vI (kL (kI cR k1 hy)).2.1,vI (kL (kI cR k1 hy)).2.2]
   ·rw[pg,S4 hl.symm,vI k3]
theorem VR{A C:List aN}{f:aN}(cR:(A.flatMap cg++(cg f++C.flatMap cg)).Nodup){new:List Int}(hl:new.length=f.2.2.2.2.length):Rl A C f (f.1,f.2.1,f.2.2.1,(f.2.2.2.1,new)) f.2.2.2 ai new:=by
 have hn:=BI cR
 refine⟨fun h=>⟨mem_row (HD hn h).1,fun y hy=>?_⟩,?_⟩
 ·obtain⟨k1,k2,k3⟩:=HD hn h
  rcases Ck hy with rfl|hy
  ·exact zp k2 (fun q1 q2=>absurd (k3 q1) q2) (fun _ _=>rfl)
  ·obtain⟨o1,o2,o3⟩:=kL (kI cR k1 hy)
   exact zp o1 (fun q1 q2=>absurd (o2 q1) q2) (fun q1 q2=>absurd (o3 q1) q2)
 ·by_cases h:f.2.2.2.2=[]
  ·have iN:new=[]:=List.length_eq_zero_iff.1 (by rw[hl,h];rfl)
   subst iN
   refine ur (fun y _=>by rw[pg,n5,n5]) ?_
   rw[pg,n5,n5,<-h]
  ·obtain⟨k1,k2,k3⟩:=HD hn h
   refine ur (fun y hy=>?_) ?_
   ·rw[pg,vI (kL (kI cR k1 hy)).2.1,vI (kL (kI cR k1 hy)).2.2]
   ·rw[pg,S4 hl.symm,vI k3]
theorem fD(xs:List Int)(k:Int):(c7 xs k).length=xs.length:=r7 _ _ xs k
theorem uq{a:Nat}{l l':List Int}(h:l'.length=l.length):jW (a,l')=jW (a,l):=by
 unfold jW
 cases l with
 | nil=>rw[List.length_eq_zero_iff.1 h]
 | cons x r =>
   cases l' with
   | nil=>cases h
   | cons y s=>simp
theorem abV(f:aN)(k:Int):cg (MR f k)=cg f:=by
 obtain⟨⟨a,l⟩,c,⟨b,o⟩,⟨b2,m⟩⟩:=f
 show jW (a,eQ l k)++_=jW (a,l)++_
 rw[uq (iR l k)];rfl
theorem abW(f:aN)(k:Int):cg (qB f k)=cg f:=abV f k
theorem abX(f:aN)(k:Int):cg (qC f k)=cg f:=by
 obtain⟨⟨a,l⟩,c,⟨b,o⟩,⟨b2,m⟩⟩:=f
 show jW (a,eQ l k)++(jW (b,c7 o (Fy ((a,l),c,(b,o),(b2,m)) k))++_)=jW (a,l)++(jW (b,o)++_)
 rw[uq (iR l k),uq (fD o _)];rfl
theorem abU(f:aN)(k:Int):cg (xQ f k)=cg f:=by
 obtain⟨⟨a,l⟩,c,⟨b,o⟩,⟨b2,m⟩⟩:=f
 show jW (a,eQ l k)++(jW (b,c7 o (Fy ((a,l),c,(b,o),(b2,m)) k))++jW (b2,c7 m (vQ ((a,l),c,(b,o),(b2,m)) k)))=jW (a,l)++(jW (b,o)++jW (b2,m))
 rw[uq (iR l k),uq (fD o _),uq (fD m _)]
theorem sC:∀(L:List aN) (k:Int),(bt L k).length=L.length
 | [],_=>rfl
 | f::L,k=>by show (xQ f k::bt L (qD f k)).length=_;simp[sC L]
theorem sB:∀(L:List aN) (k:Int),(bt L k).flatMap cg=L.flatMap cg
 | [],_=>rfl
 | f::L,k=>by show (xQ f k::bt L (qD f k)).flatMap cg=_;rw[List.flatMap_cons,List.flatMap_cons,abU,sB L]
theorem Gb:∀(L:List aN) (f:aN) (k:Int),bt (L++[f]) k=bt L k++[xQ f (cP L k)]
 | [],f,k=>rfl
 | g::L,f,k=>by show xQ g k::bt (L++[f]) (qD g k)=xQ g k::(bt L (qD g k)++_);rw[Gb L];rfl
theorem I0:∀(L:List aN) (f:aN) (k:Int),cP (L++[f]) k=qD f (cP L k)
 | [],f,k=>rfl
 | g::L,f,k=>I0 L f (qD g k)
theorem T6{α:Type}{A C:List α}{y z:α}{j:Nat}(h:A.length=j):(A++y::C).getD j z=y:=by
 subst h
 simp[List.getD_eq_getElem?_getD]
theorem XF{α:Type}{A C:List α}{y y':α}{j:Nat}(h:A.length=j):(A++y::C).set j y'=A++y'::C:=by
 subst h
 rw[List.set_append_right _ _ (Nat.le_refl _)]
 simp
theorem Ip :
 ∀(d:List ((Nat×List Int)×Int×(Nat×List Int)×Nat×List Int)) (k:Int),Ty.wf (Ty.sl bA) d->IntKind.min i64<=k/\k<=IntKind.max i64->List.Nodup (ids (Ty.sl bA) d)->True->(List.length (bt d k)=d.length/\aX bA (bt d k)=aX bA d)/\((0:Nat)<=d.length/\k=cP (List.take (0:Nat) d) k)/\((k=k/\(0:Int)=(↑(0:Nat):Int))/\d=bt (List.take (0:Nat) d) k++List.drop (0:Nat) d)/\∀(x:Nat×Int),x.1<=d.length/\x.2=cP (List.take x.1 d) k->(decide ((x.1:Int)<(↑(List.length (bt (List.take x.1 d) k++List.drop x.1 d)):Int))=true->(((0:Int)<=(x.1:Int)/\(x.1:Int)<(↑(List.length (bt (List.take x.1 d) k++List.drop x.1 d)):Int))/\True/\List.length (eQ (List.getD (bt (List.take x.1 d) k++List.drop x.1 d) ((x.1:Int).toNat) (((0:Nat),[]),(0:Int),((0:Nat),[]),(0:Nat),[])).1.2 x.2)=List.length (List.getD (bt (List.take x.1 d) k++List.drop x.1 d) ((x.1:Int).toNat) (((0:Nat),[]),(0:Int),((0:Nat),[]),(0:Nat),[])).1.2/\(Prod.snd (List.getD (bt (List.take x.1 d) k++List.drop x.1 d) ((x.1:Int).toNat) (((0:Nat),[]),(0:Int),((0:Nat),[]),(0:Nat),[])).1≠[]->(List.getD (bt (List.take x.1 d) k++List.drop x.1 d) ((x.1:Int).toNat) (((0:Nat),[]),(0:Int),((0:Nat),[]),(0:Nat),[])).1.1∈aX bA (bt (List.take x.1 d) k++List.drop x.1 d)/\(∀(x_1:(Nat×List Int)×Int×(Nat×List Int)×Nat×List Int),x_1∈bt (List.take x.1 d) k++List.drop x.1 d->p_ (List.getD (bt (List.take x.1 d) k++List.drop x.1 d) ((x.1:Int).toNat) (((0:Nat),[]),(0:Int),((0:Nat),[]),(0:Nat),[])).1.1 dV (List.length (List.getD (bt (List.take x.1 d) k++List.drop x.1 d) ((x.1:Int).toNat) (((0:Nat),[]),(0:Int),((0:Nat),[]),(0:Nat),[])).1.2) bA x_1)/\True)/\(Prod.snd (List.getD (bt (List.take x.1 d) k++List.drop x.1 d) ((x.1:Int).toNat) (((0:Nat),[]),(0:Int),((0:Nat),[]),(0:Nat),[])).1=[]->True)/\∃(x':Unit),True/\(nB (List.getD (bt (List.take x.1 d) k++List.drop x.1 d) ((x.1:Int).toNat) (((0:Nat),[]),(0:Int),((0:Nat),[]),(0:Nat),[])).1.2 x.2=sk (d.getD x.1 cq) x.2/\ae (x.1:Int))/\List.map (kE (List.getD (bt (List.take x.1 d) k++List.drop x.1 d) ((x.1:Int).toNat) (((0:Nat),[]),(0:Int),((0:Nat),[]),(0:Nat),[])).1.1 dV (MC.G dU (cA (Eq.refl dV) (List.getD (bt (List.take x.1 d) k++List.drop x.1 d) ((x.1:Int).toNat) (((0:Nat),[]),(0:Int),((0:Nat),[]),(0:Nat),[])).1.2) x.2) bA) (bt (List.take x.1 d) k++List.drop x.1 d)=eg d k x.1 (MR (d.getD x.1 cq) x.2))/\∀(x_1:Unit),True->(((0:Int)<=(x.1:Int)/\(x.1:Int)<(↑(List.length (eg d k x.1 (MR (d.getD x.1 cq) x.2))):Int))/\∃(x':Unit),True/\(ae (sk (d.getD x.1 cq) x.2)/\ae (x.1:Int))/\List.set (eg d k x.1 (MR (d.getD x.1 cq) x.2)) ((x.1:Int).toNat) (Prod.fst (List.getD (eg d k x.1 (MR (d.getD x.1 cq) x.2)) ((x.1:Int).toNat) (((0:Nat),[]),(0:Int),((0:Nat),[]),(0:Nat),[])),sk (d.getD x.1 cq) x.2,(List.getD (eg d k x.1 (MR (d.getD x.1 cq) x.2)) ((x.1:Int).toNat) (((0:Nat),[]),(0:Int),((0:Nat),[]),(0:Nat),[])).2.2)=eg d k x.1 (qB (d.getD x.1 cq) x.2))/\∀(x_2:Unit),True->(((0:Int)<=(x.1:Int)/\(x.1:Int)<(↑(List.length (eg d k x.1 (qB (d.getD x.1 cq) x.2))):Int))/\True/\List.length (c7 (List.getD (eg d k x.1 (qB (d.getD x.1 cq) x.2)) ((x.1:Int).toNat) (((0:Nat),[]),(0:Int),((0:Nat),[]),(0:Nat),[])).2.2.1.2 (i64.wrap (sk (d.getD x.1 cq) x.2+(1:Int))))=List.length (List.getD (eg d k x.1 (qB (d.getD x.1 cq) x.2)) ((x.1:Int).toNat) (((0:Nat),[]),(0:Int),((0:Nat),[]),(0:Nat),[])).2.2.1.2/\(Prod.snd (List.getD (eg d k x.1 (qB (d.getD x.1 cq) x.2)) ((x.1:Int).toNat) (((0:Nat),[]),(0:Int),((0:Nat),[]),(0:Nat),[])).2.2.1≠[]->(List.getD (eg d k x.1 (qB (d.getD x.1 cq) x.2)) ((x.1:Int).toNat) (((0:Nat),[]),(0:Int),((0:Nat),[]),(0:Nat),[])).2.2.1.1∈aX bA (eg d k x.1 (qB (d.getD x.1 cq) x.2))/\(∀(x_3:(Nat×List Int)×Int×(Nat×List Int)×Nat×List Int),x_3∈eg d k x.1 (qB (d.getD x.1 cq) x.2)->p_ (List.getD (eg d k x.1 (qB (d.getD x.1 cq) x.2)) ((x.1:Int).toNat) (((0:Nat),[]),(0:Int),((0:Nat),[]),(0:Nat),[])).2.2.1.1 ai (List.length (List.getD (eg d k x.1 (qB (d.getD x.1 cq) x.2)) ((x.1:Int).toNat) (((0:Nat),[]),(0:Int),((0:Nat),[]),(0:Nat),[])).2.2.1.2) bA x_3)/\True)/\(Prod.snd (List.getD (eg d k x.1 (qB (d.getD x.1 cq) x.2)) ((x.1:Int).toNat) (((0:Nat),[]),(0:Int),((0:Nat),[]),(0:Nat),[])).2.2.1=[]->True)/\∃(x':Unit),True/\(dJ (List.getD (eg d k x.1 (qB (d.getD x.1 cq) x.2)) ((x.1:Int).toNat) (((0:Nat),[]),(0:Int),((0:Nat),[]),(0:Nat),[])).2.2.1.2 (i64.wrap (sk (d.getD x.1 cq) x.2+(1:Int)))=vQ (d.getD x.1 cq) x.2/\ae (x.1:Int))/\List.map (kE (List.getD (eg d k x.1 (qB (d.getD x.1 cq) x.2)) ((x.1:Int).toNat) (((0:Nat),[]),(0:Int),((0:Nat),[]),(0:Nat),[])).2.2.1.1 ai (MC.G dn (cA (Eq.refl ai) (List.getD (eg d k x.1 (qB (d.getD x.1 cq) x.2)) ((x.1:Int).toNat) (((0:Nat),[]),(0:Int),((0:Nat),[]),(0:Nat),[])).2.2.1.2) (i64.wrap (sk (d.getD x.1 cq) x.2+(1:Int)))) bA) (eg d k x.1 (qB (d.getD x.1 cq) x.2))=eg d k x.1 (qC (d.getD x.1 cq) x.2))/\∀(x_3:Unit),True->((0:Int)<=(x.1:Int)/\(x.1:Int)<(↑(List.length (eg d k x.1 (qC (d.getD x.1 cq) x.2))):Int))/\True/\List.length (c7 (List.getD (eg d k x.1 (qC (d.getD x.1 cq) x.2)) ((x.1:Int).toNat) (((0:Nat),[]),(0:Int),((0:Nat),[]),(0:Nat),[])).2.2.2.2 (vQ (d.getD x.1 cq) x.2))=List.length (List.getD (eg d k x.1 (qC (d.getD x.1 cq) x.2)) ((x.1:Int).toNat) (((0:Nat),[]),(0:Int),((0:Nat),[]),(0:Nat),[])).2.2.2.2/\(Prod.snd (List.getD (eg d k x.1 (qC (d.getD x.1 cq) x.2)) ((x.1:Int).toNat) (((0:Nat),[]),(0:Int),((0:Nat),[]),(0:Nat),[])).2.2.2≠[]->(List.getD (eg d k x.1 (qC (d.getD x.1 cq) x.2)) ((x.1:Int).toNat) (((0:Nat),[]),(0:Int),((0:Nat),[]),(0:Nat),[])).2.2.2.1∈aX bA (eg d k x.1 (qC (d.getD x.1 cq) x.2))/\(∀(x_4:(Nat×List Int)×Int×(Nat×List Int)×Nat×List Int),x_4∈eg d k x.1 (qC (d.getD x.1 cq) x.2)->p_ (List.getD (eg d k x.1 (qC (d.getD x.1 cq) x.2)) ((x.1:Int).toNat) (((0:Nat),[]),(0:Int),((0:Nat),[]),(0:Nat),[])).2.2.2.1 ai (List.length (List.getD (eg d k x.1 (qC (d.getD x.1 cq) x.2)) ((x.1:Int).toNat) (((0:Nat),[]),(0:Int),((0:Nat),[]),(0:Nat),[])).2.2.2.2) bA x_4)/\True)/\(Prod.snd (List.getD (eg d k x.1 (qC (d.getD x.1 cq) x.2)) ((x.1:Int).toNat) (((0:Nat),[]),(0:Int),((0:Nat),[]),(0:Nat),[])).2.2.2=[]->True)/\∃(x':Nat×Int),(x'.1<=d.length/\x'.2=cP (List.take x'.1 d) k)/\d.length-x'.1<d.length-x.1/\(dJ (List.getD (eg d k x.1 (qC (d.getD x.1 cq) x.2)) ((x.1:Int).toNat) (((0:Nat),[]),(0:Int),((0:Nat),[]),(0:Nat),[])).2.2.2.2 (vQ (d.getD x.1 cq) x.2)=x'.2/\i64.wrap ((x.1:Int)+(1:Int))=(x'.1:Int))/\List.map (kE (List.getD (eg d k x.1 (qC (d.getD x.1 cq) x.2)) ((x.1:Int).toNat) (((0:Nat),[]),(0:Int),((0:Nat),[]),(0:Nat),[])).2.2.2.1 ai (MC.G dn (cA (Eq.refl ai) (List.getD (eg d k x.1 (qC (d.getD x.1 cq) x.2)) ((x.1:Int).toNat) (((0:Nat),[]),(0:Int),((0:Nat),[]),(0:Nat),[])).2.2.2.2) (vQ (d.getD x.1 cq) x.2)) bA) (eg d k x.1 (qC (d.getD x.1 cq) x.2))=bt (List.take x'.1 d) k++List.drop x'.1 d)/\(decide ((x.1:Int)<(↑(List.length (bt (List.take x.1 d) k++List.drop x.1 d)):Int))=false->x.2=cP d k/\bt (List.take x.1 d) k++List.drop x.1 d=bt d k):=by
  intro d k hw hk cR _
  have hl:d.length<=9223372036854775807:=hw.1
  rw[Mw] at cR
  have hG8:∀(l:List Int) (k:Int),MC.G dU (cA (Eq.refl dV) l) k=eQ l k:=fun _ _=>rfl
  have hG1:∀(l:List Int) (k:Int),MC.G dn (cA (Eq.refl ai) l) k=c7 l k:=fun _ _=>rfl
  simp only[Int.toNat_natCast,Ev,hG8,hG1] at *
  refine⟨⟨sC d k,sB d k⟩,⟨Nat.zero_le _,rfl⟩,⟨⟨trivial,rfl⟩,rfl⟩,fun x ⟨h1,h2⟩=>⟨fun h5=>?_,fun h5=>?_⟩⟩
  ·obtain⟨j,kk⟩:=x
   simp only at h1 h2 h5 ⊢
   have hA:(bt (d.take j) k).length=j:=by rw[sC];simp[Nat.min_eq_left h1]
   have h6:j<d.length:=by simp[hA] at h5;omega
   have hd:d.drop j=d.getD j cq::d.drop (j+1):=gD h6
   have Qw:(d.drop (j+1)).length=d.length-(j+1):=List.length_drop
   have abE:d=d.take j++d.getD j cq::d.drop (j+1):=by rw[<-hd,List.take_append_drop]
   have DI:d.take (j+1)=d.take j++[d.getD j cq]:=by rw[List.take_succ_eq_append_getElem h6];simp[h6]
   have hro:∀ e,eg d k j e=bt (d.take j) k++e::d.drop (j+1):=fun e=>rfl
   have hen:cP (d.take (j+1)) k=qD (d.getD j cq) kk:=by rw[DI,I0,<-h2]
   have hma:bt (d.take (j+1)) k=bt (d.take j) k++[xQ (d.getD j cq) kk]:=by rw[DI,Gb,<-h2]
   have acQ:(bt (d.take j) k).flatMap cg=(d.take j).flatMap cg:=sB _ _
   have WY:((bt (d.take j) k).flatMap cg++(cg (d.getD j cq)++(d.drop (j+1)).flatMap cg)).Nodup:=by
    rw[acQ,<-List.flatMap_cons,<-List.flatMap_append,<-abE];exact cR
   simp only[hro,hd]
   rw[aG (by omega)]
   generalize bt (d.take j) k=A at *
   generalize hC0:d.drop (j+1)=C at *
   generalize d.getD j cq=f at *
   have hg:∀(y:aN),(A++y::C).getD j (((0:Nat),([]:List Int)),(0:Int),((0:Nat),([]:List Int)),(0:Nat),([]:List Int))=y:=fun y=>T6 hA
   have hlen:∀ y:aN,(A++y::C).length=d.length:=fun y=>by rw[List.length_append,List.length_cons,hA,Qw];omega
   simp only[hg,XF hA,hlen]
   have hb:(0:Int)<=(j:Int)/\(j:Int)<(d.length:Int):=by omega
   have S1:=XG WY (new:=eQ f.1.2 kk) (iR _ _)
   have S2:=XH (f:=qB f kk) (by rw[abW];exact WY) (new:=c7 f.2.2.1.2 (Fy f kk)) (fD _ _)
   have S3:=VR (f:=qC f kk) (by rw[abX];exact WY) (new:=c7 f.2.2.2.2 (vQ f kk)) (fD _ _)
   refine⟨⟨hb,trivial,iR _ _,fun h=>⟨(S1.1 h).1,(S1.1 h).2,trivial⟩,fun _=>trivial,(),trivial,⟨rfl,trivial⟩,S1.2⟩,fun _ _=>⟨⟨hb,(),trivial,⟨trivial,trivial⟩,rfl⟩,fun _ _=>⟨⟨hb,trivial,fD _ _,fun h=>⟨(S2.1 h).1,(S2.1 h).2,trivial⟩,fun _=>trivial,(),trivial,⟨rfl,trivial⟩,S2.2⟩,
    fun _ _=>⟨hb,trivial,fD _ _,fun h=>⟨(S3.1 h).1,(S3.1 h).2,trivial⟩,fun _=>trivial,(j+1,qD f kk),⟨by simp only;omega,hen.symm⟩,by simp only;omega,⟨rfl,rfl⟩,?_⟩⟩⟩⟩
   show List.map _ _=bt (d.take (j+1)) k++d.drop (j+1)
   rw[hma,hC0,List.append_assoc]
   exact S3.2
  ·have h6:x.1=d.length:=by
    have hA:(bt (d.take x.1) k++d.drop x.1).length=d.length:=by rw[List.length_append,sC];simp;omega
    rw[hA] at h5
    simp at h5;omega
   rw[h6,List.take_length] at h2
   rw[h6,List.take_length,List.drop_length,List.append_nil]
   exact⟨h2,rfl⟩
theorem KD :
 ∀(d:Int×List ((Nat×List Int)×Int×(Nat×List Int)×Nat×List Int)) (k:Int),Ty.wf aB d->IntKind.min i64<=k/\k<=IntKind.max i64->List.Nodup (ids aB d)->True->(List.length (bt d.2 k)=d.2.length/\aX bA (bt d.2 k)=aX bA d.2)/\True/\List.Nodup (ids (Ty.sl bA) d.2)/\True/\ae (cP d.2 k)/\ae (bt d.2 k):=by
  intro d k hw hk cR _
  rw[zn] at cR
  simp only[Ev,Mw]
  exact⟨⟨sC _ _,sB _ _⟩,trivial,cR,trivial,trivial,trivial⟩
theorem Il :
 ∀(d:List (List Int×Int×List Int×List Int)×Int),Ty.wf (Ty.sl dj) d.1/\Ty.wf ai d.2->True->((0:Nat)<=d.1.length/\cH (List.drop (0:Nat) d.1) d.2=cH d.1 d.2)/\(d.1=d.1/\d.2=d.2/\(0:Int)=(↑(0:Nat):Int))/\∀(x:Nat×Int),x.1<=d.1.length/\cH (List.drop x.1 d.1) x.2=cH d.1 d.2->(decide ((x.1:Int)<(d.1.length:Int))=true->((0:Int)<=(x.1:Int)/\(x.1:Int)<(d.1.length:Int))/\True/\(Ty.wf ai (dM (d.1.getD ((x.1:Int).toNat) ([],(0:Int),[],[])).1 x.2)->(decide (dM (d.1.getD ((x.1:Int).toNat) ([],(0:Int),[],[])).1 x.2<(0:Int))=true->(-1:Int)=cH d.1 d.2)/\(decide (dM (d.1.getD ((x.1:Int).toNat) ([],(0:Int),[],[])).1 x.2<(0:Int))=false->((0:Int)<=(x.1:Int)/\(x.1:Int)<(d.1.length:Int))/\((!decide (Prod.fst (d.1.getD ((x.1:Int).toNat) ([],(0:Int),[],[])).2=dM (d.1.getD ((x.1:Int).toNat) ([],(0:Int),[],[])).1 x.2))=true->(-1:Int)=cH d.1 d.2)/\((!decide (Prod.fst (d.1.getD ((x.1:Int).toNat) ([],(0:Int),[],[])).2=dM (d.1.getD ((x.1:Int).toNat) ([],(0:Int),[],[])).1 x.2))=false->((0:Int)<=(x.1:Int)/\(x.1:Int)<(d.1.length:Int))/\True/\(Ty.wf ai (cx (d.1.getD ((x.1:Int).toNat) ([],(0:Int),[],[])).2.2.1 (i64.wrap (dM (d.1.getD ((x.1:Int).toNat) ([],(0:Int),[],[])).1 x.2+(1:Int))))->(decide (cx (d.1.getD ((x.1:Int).toNat) ([],(0:Int),[],[])).2.2.1 (i64.wrap (dM (d.1.getD ((x.1:Int).toNat) ([],(0:Int),[],[])).1 x.2+(1:Int)))<(0:Int))=true->(-1:Int)=cH d.1 d.2)/\(decide (cx (d.1.getD ((x.1:Int).toNat) ([],(0:Int),[],[])).2.2.1 (i64.wrap (dM (d.1.getD ((x.1:Int).toNat) ([],(0:Int),[],[])).1 x.2+(1:Int)))<(0:Int))=false->((0:Int)<=(x.1:Int)/\(x.1:Int)<(d.1.length:Int))/\True/\(Ty.wf ai (cx (d.1.getD ((x.1:Int).toNat) ([],(0:Int),[],[])).2.2.2 (cx (d.1.getD ((x.1:Int).toNat) ([],(0:Int),[],[])).2.2.1 (i64.wrap (dM (d.1.getD ((x.1:Int).toNat) ([],(0:Int),[],[])).1 x.2+(1:Int)))))->(decide (cx (d.1.getD ((x.1:Int).toNat) ([],(0:Int),[],[])).2.2.2 (cx (d.1.getD ((x.1:Int).toNat) ([],(0:Int),[],[])).2.2.1 (i64.wrap (dM (d.1.getD ((x.1:Int).toNat) ([],(0:Int),[],[])).1 x.2+(1:Int))))<(0:Int))=true->(-1:Int)=cH d.1 d.2)/\(decide (cx (d.1.getD ((x.1:Int).toNat) ([],(0:Int),[],[])).2.2.2 (cx (d.1.getD ((x.1:Int).toNat) ([],(0:Int),[],[])).2.2.1 (i64.wrap (dM (d.1.getD ((x.1:Int).toNat) ([],(0:Int),[],[])).1 x.2+(1:Int))))<(0:Int))=false->∃(x':Nat×Int),(x'.1<=d.1.length/\cH (List.drop x'.1 d.1) x'.2=cH d.1 d.2)/\d.1.length-x'.1<d.1.length-x.1/\d.1=d.1/\cx (d.1.getD ((x.1:Int).toNat) ([],(0:Int),[],[])).2.2.2 (cx (d.1.getD ((x.1:Int).toNat) ([],(0:Int),[],[])).2.2.1 (i64.wrap (dM (d.1.getD ((x.1:Int).toNat) ([],(0:Int),[],[])).1 x.2+(1:Int))))=x'.2/\i64.wrap ((x.1:Int)+(1:Int))=(x'.1:Int)))))))))/\(decide ((x.1:Int)<(d.1.length:Int))=false->x.2=cH d.1 d.2):=by
  intro d hw hp
  obtain⟨xs,k⟩:=d
  have hl:xs.length<=9223372036854775807:=hw.1.1
  simp only[exists_const,forall_const,decide_eq_true_eq,decide_eq_false_iff_not,beq_iff_eq,sxS]
  refine⟨⟨Nat.zero_le _,rfl⟩,rfl,fun x ⟨h1,h2⟩=>⟨fun h3=>?_,fun h3=>?_⟩⟩
  ·have h4:x.1<xs.length:=by omega
   rw[gD (x:=(([]:List Int),(0:Int),([]:List Int),([]:List Int))) h4] at h2
   have hb:(0:Int)<=(x.1:Int)/\(x.1:Int)<(xs.length:Int):=⟨by omega,h3⟩
   rw[aG (by omega)]
   generalize cH xs k=r at h2 ⊢
   unfold cH at h2
   generalize xs.getD x.1 (([]:List Int),(0:Int),([]:List Int),([]:List Int))=y at *
   have e1:i64.wrap (dM y.1 x.2+1)=gg (dM y.1 x.2+1):=rfl
   rw[e1]
   generalize dM y.1 x.2=a at *
   refine⟨hb,fun _=>⟨fun h5=>?_,fun h5=>⟨hb,fun h6=>?_,fun h6=>⟨hb,fun _=>?_⟩⟩⟩⟩
   ·rw[if_pos h5] at h2;exact h2
   ·rw[if_neg h5,if_neg h6] at h2;exact h2
   ·rw[if_neg h5,if_pos h6] at h2
    generalize cx y.2.2.1 (gg (a+1))=b at *
    refine⟨fun h7=>?_,fun h7=>⟨hb,fun _=>?_⟩⟩
    ·rw[if_pos h7] at h2;exact h2
    ·rw[if_neg h7] at h2
     generalize cx y.2.2.2 b=c at *
     refine⟨fun h8=>?_,fun h8=>⟨(x.1+1,c),⟨by simp only;omega,?_⟩,by simp only;omega,rfl,rfl⟩⟩
     ·rw[if_pos h8] at h2;exact h2
     ·rw[if_neg h8] at h2;exact h2
  ·have h4:x.1=xs.length:=by omega
   rw[h4,List.drop_length] at h2
   exact h2
theorem KB :
 ∀(d:(Int×List (List Int×Int×List Int×List Int))×Int),Ty.wf bq d.1/\Ty.wf ai d.2->True->True/\(Ty.wf ai (cH d.1.2 d.2)->(decide (cH d.1.2 d.2<(0:Int))=true->(-1:Int)=gV (cH d.1.2 d.2))/\(decide (cH d.1.2 d.2<(0:Int))=false->cH d.1.2 d.2=gV (cH d.1.2 d.2))):=by
  intro d _ _
  unfold gV
  grind
theorem YW(L:List aN):bH b7 L=L.map bf:=by
 show L.map (aU b7)=_
 congr 1
 funext f
 exact YV f
theorem ac7(e:aN):ids b7 e=cg e:=by
 obtain⟨a,b,c,d⟩:=e
 show ids (.gs false dV) a++([]++(ids (.gs false ai) c++ids (.gs false ai) d))=_
 rw[vh,vh,vh]
 rfl
theorem YC(L:List aN):aX b7 L=ed L:=by
 unfold aX ed
 congr 1
 funext f
 exact ac7 f
theorem ac5(L:List aN):aX bA L=ed L:=Ev L
theorem ac6(r:Int×List aN):ids aB r=ed r.2:=zn r
theorem Zr(b:Bool):ids Ty.bool b=[]:=rfl
theorem Z4(b:Bool):aU Ty.bool b=b:=rfl
theorem rG{n:Nat}{l:Int}(h0:¬dG n l<0)(By:0<=l)(hl:l<=1048576)(hn:n<=9223372036854775807):dG n l=l-n/\(n:Int)<=l:=by
 unfold dG gg at *
 rw[IntKind.wrap_i64] at *
 split at h0
 ·omega
 ·rename_i h2
  rw[if_neg h2]
  omega
theorem N4{e:En}{l:Int}(h0:¬j0 e l<0)(By:0<=l)(hl:l<=1048576)(h1:e.1.length<=9223372036854775807)(h2:e.2.2.1.length<=9223372036854775807)(h3:e.2.2.2.length<=9223372036854775807) :
 j0 e l=l-e.1.length-e.2.2.1.length-e.2.2.2.length/\0<=j0 e l:=by
 unfold j0 ou at *
 split at h0
 ·omega
 ·rename_i a
  rw[if_neg a]
  obtain⟨b1,b2⟩:=rG a By hl h1
  split at h0
  ·omega
  ·rename_i c
   rw[if_neg c]
   obtain⟨d1,d2⟩:=rG c (by omega) (by omega) h2
   obtain⟨e1,e2⟩:=rG h0 (by omega) (by omega) h3
   omega
theorem JI:∀(es:List En) (l:Int),0<=fZ es l->0<=l->l<=1048576->(∀ e∈es,e.1.length<=9223372036854775807/\e.2.2.1.length<=9223372036854775807/\e.2.2.2.length<=9223372036854775807)->(dp es:Int)<=l+es.length
 | [],l,_,h,_,_=>by simp[dp];omega
 | g::es,l,h,By,hl,hw=>by
   unfold fZ at h
   split at h
   ·omega
   ·rename_i hn
    obtain⟨w1,w2,w3⟩:=hw g (List.mem_cons_self ..)
    obtain⟨r1,r2⟩:=N4 hn By hl w1 w2 w3
    have:=JI es _ h r2 (by omega) (fun e he=>hw e (List.mem_cons_of_mem _ he))
    rw[dp,List.length_cons]
    omega
theorem XI{c:Ca}(hw:c.2.length<=9223372036854775807/\∀ e∈c.2,e.1.length<=9223372036854775807/\e.2.2.1.length<=9223372036854775807/\e.2.2.2.length<=9223372036854775807)(h:¬ik c 1048576<0):dp c.2<=1048576:=by
 unfold ik at h
 split at h
 ·omega
 ·rename_i h1
  unfold iV at h1
  split at h1
  ·omega
  ·rename_i h2
   have h3:=rG (n:=c.2.length) (l:=1048576) (by unfold dG;rw[if_neg h2];exact h2) (by omega) (by omega) hw.1
   have h4:dG c.2.length 1048576=gg (1048576-c.2.length):=by unfold dG;rw[if_neg h2]
   rw[h4] at h3
   have:=JI c.2 (gg (1048576-c.2.length)) (by omega) (by omega) (by omega) hw.2
   omega
theorem Q8:∀ {es:List En},dp es<=1048576->bj es:=by
 have key:∀(es:List En),es.length<=dp es/\∀ e∈es,e.1.length<=dp es/\e.2.2.1.length<=dp es/\e.2.2.2.length<=dp es:=by
  intro es
  induction es with
  | nil=>exact⟨Nat.zero_le _,fun f hf=>by cases hf⟩
  | cons g es ih =>
    rw[dp]
    refine⟨by rw[List.length_cons];omega,fun f hf=>?_⟩
    rcases List.mem_cons.1 hf with rfl|hf
    ·omega
    ·have:=ih.2 f hf;omega
 intro es h
 obtain⟨h1,h2⟩:=key es
 exact⟨by omega,fun f hf=>by have:=h2 f hf;exact⟨by omega,by omega,by omega⟩⟩
theorem M1(k:Int)(h1:0<=k)(h2:k<=4611686018427387904):n1 k=k+(1:Nat):=by unfold n1 gg;rw[IntKind.wrap_i64];omega
theorem RF(xs:List Int){k:Int}(h0:0<=k)(h:k+xs.length<=4611686018427387904):nB xs k=k+xs.length:=by
 have:=xp 1 M1 xs k h0 (by omega)
 unfold nB;rw[this];omega
theorem CM(xs:List Int){k:Int}(h0:0<=k)(h:k+xs.length<=4611686018427387904):dJ xs k=k+xs.length:=by
 have:=xp 1 M1 xs k h0 (by omega)
 unfold dJ;rw[this];omega
theorem Jt{e:aN}{k:Int}(h0:0<=k)(h:k+((e.1.2.length+1+e.2.2.1.2.length+e.2.2.2.2.length:Nat):Int)<=4611686018427387904):sk e k=k+e.1.2.length/\Fy e k=k+e.1.2.length+1/\vQ e k=k+e.1.2.length+1+e.2.2.1.2.length/\qD e k=k+((e.1.2.length+1+e.2.2.1.2.length+e.2.2.2.2.length:Nat):Int):=by
 have h1:sk e k=k+e.1.2.length:=RF _ h0 (by omega)
 have h2:Fy e k=k+e.1.2.length+1:=by unfold Fy gg;rw[h1,IntKind.wrap_i64];omega
 have h3:vQ e k=k+e.1.2.length+1+e.2.2.1.2.length:=by unfold vQ;rw[h2,CM _ (by omega) (by omega)]
 refine⟨h1,h2,h3,?_⟩
 unfold qD
 rw[h3,CM _ (by omega) (by omega)]
 omega
theorem JJ(e:aN)(L:List aN):dp ((e::L).map bf)=(e.1.2.length+1+e.2.2.1.2.length+e.2.2.2.2.length)+dp (L.map bf):=rfl
theorem tF:∀(L:List aN) (k:Int),0<=k->k+dp (L.map bf)<=4611686018427387904->cP L k=k+dp (L.map bf)
 | [],k,_,_=>by simp[cP,dp]
 | e::L,k,h0,h=>by
   rw[JJ] at h ⊢
   obtain⟨_,_,_,h4⟩:=Jt (e:=e) h0 (by omega)
   show cP L (qD e k)=_
   rw[tF L (qD e k) (by omega) (by rw[h4];omega),h4]
   omega
theorem WQ(l:List Int)(k:Int):dM (eQ l k) k=nB l k:=Hr (fun k=>by unfold YJ;simp) l k
theorem zi(l:List Int)(k:Int):cx (c7 l k) k=dJ l k:=Hr (fun k=>by unfold YI pA;simp) l k
theorem FW:∀(L:List aN) (k:Int),0<=k->k+dp (L.map bf)<=4611686018427387904->cH ((bt L k).map bf) k=cP L k
 | [],k,_,_=>rfl
 | e::L,k,h0,h=>by
   rw[JJ] at h
   obtain⟨h1,h2,h3,h4⟩:=Jt (e:=e) h0 (by omega)
   show cH (bf (xQ e k)::(bt L (qD e k)).map bf) k=cP L (qD e k)
   unfold cH
   have g1:dM (bf (xQ e k)).1 k=sk e k:=WQ _ _
   have g2:cx (bf (xQ e k)).2.2.1 (gg (sk e k+1))=vQ e k:=zi _ _
   have g3:cx (bf (xQ e k)).2.2.2 (vQ e k)=qD e k:=zi _ _
   have g4:(bf (xQ e k)).2.1=sk e k:=rfl
   rw[g1,g2,g3,g4,if_neg (by omega),if_pos rfl,if_neg (by omega),if_neg (by omega)]
   exact FW L (qD e k) (by omega) (by rw[h4];omega)
theorem Hg{l k:List Nat}(h:bz l k):bz k l:=fun i hi hl=>h i hl hi
theorem Bf(c:Ca):jL c c=true:=by unfold jL;exact @decide_eq_true _ (X2 c c) rfl
theorem Ag.ens{w:Ca}{a:CA}{x:List aN×List aN}(h:Ag w a x):bj (x.2.map bf):=by rw[h.2.2.1];exact Q8 h.1
theorem Ag.arg{w:Ca}{a:CA}{x:List aN×List aN}(h:Ag w a x):x.2.map bf=a.2.2.map bf:=h.2.2.1
theorem aat{w:Ca}{a:CA}{x:List aN×List aN}{g:List aN}{y:Int}(hx:Ag w a x)(hg:g.map bf=w.2)(h:jL (y,g.map bf) (y,x.1.map bf)=false):false=true:=by
 rw[hg,hx.2.1,Bf] at h;exact h.symm
theorem aen{w:Ca}{a:CA}{x:List aN×List aN}{y:Int}(hx:Ag w a x)(h:jL (y,x.2.map bf) (y,a.2.2.map bf)=false):false=true:=by
 rw[show x.2.map bf=a.2.2.map bf from hx.2.2.1,Bf] at h;exact h.symm
theorem aeo{b:Bool}(h:(b == b)=false):false=true:=by cases b<;>cases h
theorem WR{w:Ca}{g:List aN}(e:g.map bf=w.2)(hw:dp w.2<=4000000):gV (cH ((bt g 1).map bf) 1)=cP g 1/\0<=cP g 1:=by
 rw[<-e] at hw
 have h1:=tF g 1 (by omega) (by omega)
 rw[FW g 1 (by omega) (by omega)]
 unfold gV
 rw[if_neg (by omega)]
 exact⟨rfl,by omega⟩
theorem aef{w:Ca}{a:CA}{x:List aN×List aN}(hx:Ag w a x):(ed x.2).Nodup:=hx.2.2.2.1
theorem aeg{w:Ca}{a:CA}{x:List aN×List aN}(hx:Ag w a x):bz (ed x.2) (ed x.1):=hx.2.2.2.2.1
theorem aeh{w:Ca}{a:CA}{x:List aN×List aN}(hx:Ag w a x):bz (ed x.2) (ids (.gs false b7) a.2):=hx.2.2.2.2.2
theorem aei{w:Ca}{a:CA}{x:List aN×List aN}{g:List aN}(hg:P8 w a x g):bz (ed x.2) (ed g):=Hg hg.2.2.2.1
theorem aej{w:Ca}{a:CA}{x:List aN×List aN}{g:List aN}(hg:P8 w a x g):(ed g).Nodup:=hg.2.1
theorem aek{w:Ca}{a:CA}{x:List aN×List aN}{g:List aN}(hg:P8 w a x g):bz (ed g) (ed x.1):=hg.2.2.1
theorem ael{w:Ca}{a:CA}{x:List aN×List aN}{g:List aN}{k:Int}(hg:P8 w a x g):bz (ed g) (ed (bt x.2 k)):=by
 unfold ed;rw[sB];exact hg.2.2.2.1
theorem aem{w:Ca}{a:CA}{x:List aN×List aN}{g:List aN}(hg:P8 w a x g):bz (ed g) (ids (.gs false b7) a.2):=hg.2.2.2.2
theorem TZ{xs:List aN}{ys:List En}(h:xs.map bf=ys)(hF:bj ys):bj (xs.map bf):=by rw[h];exact hF
theorem ce1{r:Int×List aN}{L:List En}{y:Int}(e:(r.1,r.2.map bf)=(y,L)):r.1=y/\r.2.map bf=L:=by
 injection e with h1 h2
 exact⟨h1,h2⟩
theorem N_{l k:List En}(h:l.Sublist k):dp l<=dp k:=by
 induction h with
 | slnil=>exact Nat.le_refl _
 | cons a _ ih=>rw[dp];omega
 | cons_cons a _ ih=>rw[dp,dp];omega
theorem Fq{a:CA}(h:Ty.wf Ba a):(a.2.2.map bf).length<=9223372036854775807/\∀ e∈a.2.2.map bf,e.1.length<=9223372036854775807/\e.2.2.1.length<=9223372036854775807/\e.2.2.2.length<=9223372036854775807:=by
 obtain⟨_,h1,h2⟩:=h
 refine⟨by rw[List.length_map];exact h1,fun f hf=>?_⟩
 obtain⟨g,hg,rfl⟩:=List.mem_map.1 hf
 have:=h2 g hg
 exact⟨this.1.1,this.2.2.1.1,this.2.2.2.1⟩
theorem EB{key:List Int}:∀ {es:List En} {k:Int},0<=k->0<=aL key es k->∃ i:Nat,i<es.length/\aL key es k=k+i/\(es.getD i gQ).1=key
 | [],k,hk,h=>by unfold aL at h;omega
 | e::es,k,hk,h=>by
   unfold aL at h ⊢
   by_cases hh:e.1=key
   ·rw[if_pos hh];exact⟨0,by simp,by omega,by simpa using hh⟩
   ·rw[if_neg hh] at h ⊢
    obtain⟨i,h1,h2,h3⟩:=EB (by omega) h
    exact⟨i+1,by simp;omega,by rw[h2];omega,by simpa using h3⟩
theorem Qr{es:List En}{i:Nat}(hi:i<es.length)(hk:jZ es es.length):es.filter (fun o=>decide (o.1≠(es.getD i gQ).1))=es.take i++es.drop (i+1):=by
 have hd:es.getD i gQ=es[i]:=by simp[hi]
 have hs:es=es.take i++es[i]::es.drop (i+1):=by rw[List.getElem_cons_drop,List.take_append_drop]
 have hg:∀ j (hj:j<es.length),es.getD j ([],0,[],[])=es[j]:=fun j hj=>by simp[hj]
 have bo:∀ a b (ha:a<es.length) (hb:b<es.length),a<b->es[a].1≠es[b].1:=fun a b ha hb ki=>by
  have:=(hk b hb).2 a ki
  rw[hg a ha,hg b hb] at this
  exact this
 conv=>lhs;rw[hs]
 rw[List.filter_append,List.filter_cons,if_neg (by rw[decide_eq_true_eq];simp only[ne_eq,Decidable.not_not];rw[<-hs,hd])]
 rw[List.filter_eq_self.2 (fun o ho=>?_),List.filter_eq_self.2 (fun o ho=>?_)]
 ·rw[decide_eq_true_eq,<-hs,hd]
  obtain⟨j,hj,rfl⟩:=List.getElem_of_mem ho
  rw[List.getElem_drop]
  rw[List.length_drop] at hj
  exact fun e=>bo i (i+1+j) hi (by omega) (by omega) e.symm
 ·rw[decide_eq_true_eq,<-hs,hd]
  obtain⟨j,hj,rfl⟩:=List.getElem_of_mem ho
  rw[List.getElem_take]
  rw[List.length_take] at hj
  exact bo j i (by omega) hi (by omega)
theorem T5{es:List En}{key:List Int}(h:aL key es 0<0):es.filter (fun o=>decide (o.1≠key))=es:=by
 have h':=(EA (Int.le_refl 0)).1 h
 rw[List.filter_eq_self]
 intro o ho
 obtain⟨j,hj,rfl⟩:=List.getElem_of_mem ho
 have:=h' j hj
 rw[show es.getD j ([],0,[],[])=es[j] by simp[hj]] at this
 simpa using this
theorem I7(c:Ca)(e:En):(cX c e).2.length<=c.2.length+1:=by
 show (e::_).length<=_
 rw[List.length_cons]
 exact Nat.succ_le_succ (List.length_filter_le _ _)
theorem RI{c:Int}{es:List En}{x:Nat}(hx:x<es.length)(e:En) :
 ((es.getD x gQ).1=e.1->(cX (c,es.take x) e).2=(cX (c,es.take (x+1)) e).2)/\(¬(es.getD x gQ).1=e.1->(cX (c,es.take x) e).2++[es.getD x gQ]=(cX (c,es.take (x+1)) e).2):=by
 have h1:es.take (x+1)=es.take x++[es.getD x gQ]:=by rw[List.take_succ_eq_append_getElem hx];simp[hx]
 unfold cX
 simp only
 rw[h1,List.filter_append]
 refine⟨fun h=>?_,fun h=>?_⟩
 ·rw[List.filter_cons,if_neg (by simpa using h)];simp
 ·rw[List.filter_cons,if_pos (by simpa using h)];simp
theorem I1{c:Ca}{e:En}(h:bj c.2)(he:mr e)(hl:c.2.length<=1000):bj (cX c e).2:=by
 refine⟨by have:=I7 c e;omega,fun o ho=>?_⟩
 rcases List.mem_cons.1 ho with rfl|ho
 ·exact he
 ·exact h.2 o (List.mem_filter.1 ho).1
theorem OK :
 ∀(d:(Int×List (List Int×Int×List Int×List Int))×List Int×Int×List Int×List Int),Ty.wf bq d.1/\Ty.wf dj d.2->bj d.1.2/\mr d.2->d.2.1.length<=(1048576:Nat)/\eP d.2.2/\(Ty.wf bd d.2.2->Ty.wf bp d.2.1->bj d.1.2/\(Ty.wf bq d.1->(0:Nat)<=d.1.2.length/\(((ae d.1.1/\ae d.1.2)/\(ae d.2.1/\ae d.2.2.1/\ae d.2.2.2.1/\ae d.2.2.2.2)/\(0:Int)=(↑(0:Nat):Int))/\(ae d.1.1/\ae d.1.2)/\(ae d.2.1/\ae d.2.2.1/\ae d.2.2.2.1/\ae d.2.2.2.2)/\(ae (0:Int)/\aQ)/\[d.2]=(cX (d.1.1,List.take (0:Nat) d.1.2) d.2).2/\ae d.1.1/\ae d.1.2/\ae d.1.1)/\∀(x:Nat),x<=d.1.2.length->(decide ((x:Int)<(d.1.2.length:Int))=true->((0:Int)<=(x:Int)/\(x:Int)<(d.1.2.length:Int))/\True/\((!decide (Prod.fst (d.1.2.getD ((x:Int).toNat) ([],(0:Int),[],[]))=d.2.1))=true->((0:Int)<=(x:Int)/\(x:Int)<(d.1.2.length:Int))/\(List.length (cX (d.1.1,List.take x d.1.2) d.2).2+List.length [d.1.2.getD ((x:Int).toNat) ([],(0:Int),[],[])])*(80:Nat)<=(140737488355328:Nat)/\∃(x':Nat),x'<=d.1.2.length/\d.1.2.length-x'<d.1.2.length-x/\((ae d.1.1/\ae d.1.2)/\(ae d.2.1/\ae d.2.2.1/\ae d.2.2.2.1/\ae d.2.2.2.2)/\i64.wrap ((x:Int)+(1:Int))=(x':Int))/\(ae d.1.1/\ae d.1.2)/\(ae d.2.1/\ae d.2.2.1/\ae d.2.2.2.1/\ae d.2.2.2.2)/\(ae (0:Int)/\aQ)/\(cX (d.1.1,List.take x d.1.2) d.2).2++[d.1.2.getD ((x:Int).toNat) ([],(0:Int),[],[])]=(cX (d.1.1,List.take x' d.1.2) d.2).2/\ae d.1.1/\ae d.1.2/\ae d.1.1)/\((!decide (Prod.fst (d.1.2.getD ((x:Int).toNat) ([],(0:Int),[],[]))=d.2.1))=false->∃(x':Nat),x'<=d.1.2.length/\d.1.2.length-x'<d.1.2.length-x/\((ae d.1.1/\ae d.1.2)/\(ae d.2.1/\ae d.2.2.1/\ae d.2.2.2.1/\ae d.2.2.2.2)/\i64.wrap ((x:Int)+(1:Int))=(x':Int))/\(ae d.1.1/\ae d.1.2)/\(ae d.2.1/\ae d.2.2.1/\ae d.2.2.2.1/\ae d.2.2.2.2)/\(ae (0:Int)/\aQ)/\(cX (d.1.1,List.take x d.1.2) d.2).2=(cX (d.1.1,List.take x' d.1.2) d.2).2/\ae d.1.1/\ae d.1.2/\ae d.1.1))/\(decide ((x:Int)<(d.1.2.length:Int))=false->(d.1.1,(cX (d.1.1,List.take x d.1.2) d.2).2)=cX d.1 d.2))):=by
  intro d hw hp
  obtain⟨et,je⟩:=hp
  have hlen:=et.1
  simp only[exists_const,forall_const,decide_eq_true_eq,decide_eq_false_iff_not,beq_iff_eq,sxS]
  refine⟨je.1,je.2,fun _ _=>⟨et,fun _=>⟨Nat.zero_le _,⟨rfl,by simp[cX]⟩,fun x hx=>⟨fun h=>?_,fun h=>?_⟩⟩⟩⟩
  ·have h6:x<d.1.2.length:=by omega
   have fW:i64.wrap ((x:Int)+1)=((x+1:Nat):Int):=by rw[wrap_small (by omega)];rfl
   have hs:=RI (c:=d.1.1) h6 d.2
   have hl:=I7 (d.1.1,d.1.2.take x) d.2
   simp only[List.length_take] at hl
   refine⟨⟨by omega,h⟩,fun h7=>⟨⟨by omega,h⟩,by rw[List.length_singleton];omega,x+1,by omega,by omega,fW,hs.2 h7⟩,fun h7=>⟨x+1,by omega,by omega,fW,hs.1 h7⟩⟩
  ·have h6:x=d.1.2.length:=by omega
   rw[h6,List.take_length]
   rfl
theorem G4 :
 ∀(d:Int×List Int×List Int),Ty.wf bd d->eP d->d.2.1.length<=(1048576:Nat)/\d.2.2.length<=(1048576:Nat)/\(Ty.wf aj d.2.2->Ty.wf aj d.2.1->d=d):=by
  intro d hw hp
  simp only[exists_const,forall_const,decide_eq_true_eq,decide_eq_false_iff_not,beq_iff_eq,sxS]
  exact hp
theorem CW{c:Ca}{key:List Int}(h:bK c=false\/aL key c.2 0<0):cZ c key=(c,(0,[],[]),false):=by
 unfold cZ
 rw[if_neg]
 intro⟨h1,h2⟩
 rcases h with h|h
 ·rw[h] at h1;cases h1
 ·omega
theorem Tl :
 ∀(d:(Int×List (List Int×Int×List Int×List Int))×List Int),Ty.wf bq d.1/\Ty.wf bp d.2->bj d.1.2/\d.2.length<=(1048576:Nat)->bj d.1.2/\((!bK d.1)=true->bj d.1.2/\(Ty.wf bq d.1->(d.1,((0:Int),[],[]),false)=cZ d.1 d.2))/\((!bK d.1)=false->((0:Nat)<=d.1.2.length/\aL d.2 (List.drop (0:Nat) d.1.2) (↑(0:Nat):Int)=aL d.2 d.1.2 (0:Int))/\(((ae d.1.1/\ae d.1.2)/\d.2=d.2/\(0:Int)=(↑(0:Nat):Int))/\(ae d.1.1/\ae d.1.2)/\(ae (0:Int)/\aQ)/\ae (0:Int)/\aQ/\aQ)/\∀(x:Nat),x<=d.1.2.length/\aL d.2 (List.drop x d.1.2) (x:Int)=aL d.2 d.1.2 (0:Int)->(decide ((x:Int)<(d.1.2.length:Int))=true->((0:Int)<=(x:Int)/\(x:Int)<(d.1.2.length:Int))/\True/\(decide (Prod.fst (d.1.2.getD ((x:Int).toNat) ([],(0:Int),[],[]))=d.2)=true->((0:Int)<=(x:Int)/\(x:Int)<(d.1.2.length:Int))/\(bj d.1.2/\mr (d.1.2.getD ((x:Int).toNat) ([],(0:Int),[],[])))/\((0:Int)<=(x:Int)/\(x:Int)<(d.1.2.length:Int))/\eP (d.1.2.getD ((x:Int).toNat) ([],(0:Int),[],[])).2/\(Ty.wf bd (d.1.2.getD ((x:Int).toNat) ([],(0:Int),[],[])).2->Ty.wf bq (cX d.1 (d.1.2.getD ((x:Int).toNat) ([],(0:Int),[],[])))->(cX d.1 (d.1.2.getD ((x:Int).toNat) ([],(0:Int),[],[])),(d.1.2.getD ((x:Int).toNat) ([],(0:Int),[],[])).2,true)=cZ d.1 d.2))/\(decide (Prod.fst (d.1.2.getD ((x:Int).toNat) ([],(0:Int),[],[]))=d.2)=false->∃(x':Nat),(x'<=d.1.2.length/\aL d.2 (List.drop x' d.1.2) (x':Int)=aL d.2 d.1.2 (0:Int))/\d.1.2.length-x'<d.1.2.length-x/\((ae d.1.1/\ae d.1.2)/\d.2=d.2/\i64.wrap ((x:Int)+(1:Int))=(x':Int))/\(ae d.1.1/\ae d.1.2)/\(ae (0:Int)/\aQ)/\ae (0:Int)/\aQ/\aQ))/\(decide ((x:Int)<(d.1.2.length:Int))=false->bj d.1.2/\(Ty.wf bq d.1->(d.1,((0:Int),[],[]),false)=cZ d.1 d.2))):=by
  intro d hw hp
  obtain⟨et,je⟩:=hp
  have hlen:=et.1
  simp only[exists_const,forall_const,decide_eq_true_eq,decide_eq_false_iff_not,beq_iff_eq,sxS]
  refine⟨et,fun h=>⟨et,fun _=>(CW (.inl h)).symm⟩,fun h=>⟨⟨Nat.zero_le _,rfl⟩,rfl,fun x ⟨hx,nR⟩=>⟨fun h6=>?_,fun h6=>⟨et,fun _=>?_⟩⟩⟩⟩
  ·have h7:x<d.1.2.length:=by omega
   have hE:=nF et h7
   rw[gD (x:=(([],0,[],[]):En)) h7,aL] at nR
   refine⟨⟨by omega,h6⟩,fun h8=>⟨⟨by omega,h6⟩,⟨et,hE⟩,⟨by omega,h6⟩,hE.2,fun _ _=>?_⟩,fun h8=>⟨x+1,⟨by omega,?_⟩,by omega,?_⟩⟩
   ·rw[if_pos h8] at nR
    unfold cZ
    rw[<-nR,if_pos ⟨h,by omega⟩,Int.toNat_natCast]
    rfl
   ·rw[if_neg h8] at nR
    rw[<-nR];rfl
   ·rw[wrap_small (by omega)];rfl
  ·have h7:x=d.1.2.length:=by omega
   rw[h7,List.drop_length,aL] at nR
   exact (CW (.inr (by omega))).symm
theorem V5(r:Rs):aU bd r=r:=by
 show (r.1,List.map (aU ai) r.2.1,List.map (aU ai) r.2.2)=r
 rw[Ia,Ia];rfl
theorem QF(r:Rs):ids bd r=[]:=lI bd rfl r
theorem Jn{L:List aN}{i:Nat}(hi:i<L.length)(h:(L.flatMap cg).Nodup):((L.getD i cq::(L.take i++L.drop (i+1))).flatMap cg).Nodup:=by
 have hs:L=L.take i++L.getD i cq::L.drop (i+1):=by
  have:L.getD i cq=L[i]:=by simp[hi]
  rw[this,List.getElem_cons_drop,List.take_append_drop]
 have hp:List.Perm (L.getD i cq::(L.take i++L.drop (i+1))) L:=by
  conv=>rhs;rw[hs]
  exact List.perm_middle.symm
 exact ((hp.flatMap_right cg).nodup_iff).2 h
theorem ZA{cap:Int}{r:Int×List aN}{es:List En}{key:List Int}(h1:r.1=cap)(h2:r.2.map bf=es)(h3:bK (cap,es)=true){i:Nat}(hi:i<es.length)(hk:aL key es 0=i) :
 cZ (cap,es) key=((r.1,(r.2.getD i cq::(r.2.take i++r.2.drop (i+1))).map bf),((r.2.getD i cq).2.1,(r.2.getD i cq).2.2.1.2,(r.2.getD i cq).2.2.2.2),true):=by
 obtain⟨_,_,c3,c4,_⟩:=fI h3
 have he:es.getD i gQ=bf (r.2.getD i cq):=by
  have hl:r.2.length=es.length:=by rw[<-h2,List.length_map]
  rw[<-h2]
  simp[List.getD_eq_getElem?_getD,hl,hi]
 unfold cZ
 simp only
 rw[if_pos ⟨h3,by omega⟩,hk,Int.toNat_natCast]
 unfold cX
 simp only
 rw[Qr hi c4,he,List.map_cons,List.map_append,List.map_take,List.map_drop,h2,h1]
 rfl
def vi(d:(Int×List (List Int×Int×List Int×List Int))×List Int)(r:Int×List ((Nat×List Int)×Int×(Nat×List Int)×Nat×List Int)):Prop :=
 (Ty.wf bd (Prod.fst (Prod.snd (List.getD (Prod.snd r) (Int.toNat (aL (Prod.snd d) (Prod.snd (Prod.fst d)) (0:Int))) (((0:Nat),[]),(0:Int),((0:Nat),[]),(0:Nat),[]))),Prod.snd (Prod.fst (Prod.snd
 (Prod.snd (List.getD (Prod.snd r) (Int.toNat (aL (Prod.snd d) (Prod.snd (Prod.fst d)) (0:Int))) (((0:Nat),[]),(0:Int),((0:Nat),[]),(0:Nat),[]))))),Prod.snd (Prod.snd (Prod.snd (Prod.snd (List.getD
 (Prod.snd r) (Int.toNat (aL (Prod.snd d) (Prod.snd (Prod.fst d)) (0:Int))) (((0:Nat),[]),(0:Int),((0:Nat),[]),(0:Nat),[]))))))->(aU aB (Prod.fst r,List.take (Int.toNat (0:Int)) (List.take
 (Int.toNat (aL (Prod.snd d) (Prod.snd (Prod.fst d)) (0:Int))) (Prod.snd r)++List.drop (Int.toNat (IntKind.wrap i64 (aL (Prod.snd d) (Prod.snd (Prod.fst d)) (0:Int)+(1:Int)))) (Prod.snd r)) ++
 [List.getD (Prod.snd r) (Int.toNat (aL (Prod.snd d) (Prod.snd (Prod.fst d)) (0:Int))) (((0:Nat),[]),(0:Int),((0:Nat),[]),(0:Nat),[])]++List.drop (Int.toNat (0:Int)) (List.take (Int.toNat (aL
 (Prod.snd d) (Prod.snd (Prod.fst d)) (0:Int))) (Prod.snd r)++List.drop (Int.toNat (IntKind.wrap i64 (aL (Prod.snd d) (Prod.snd (Prod.fst d)) (0:Int)+(1:Int)))) (Prod.snd r))),aU bd (Prod.fst
 (Prod.snd (List.getD (Prod.snd r) (Int.toNat (aL (Prod.snd d) (Prod.snd (Prod.fst d)) (0:Int))) (((0:Nat),[]),(0:Int),((0:Nat),[]),(0:Nat),[]))),Prod.snd (Prod.fst (Prod.snd (Prod.snd (List.getD
 (Prod.snd r) (Int.toNat (aL (Prod.snd d) (Prod.snd (Prod.fst d)) (0:Int))) (((0:Nat),[]),(0:Int),((0:Nat),[]),(0:Nat),[]))))),Prod.snd (Prod.snd (Prod.snd (Prod.snd (List.getD (Prod.snd r)
 (Int.toNat (aL (Prod.snd d) (Prod.snd (Prod.fst d)) (0:Int))) (((0:Nat),[]),(0:Int),((0:Nat),[]),(0:Nat),[])))))),aU Ty.bool true)=cZ (Prod.fst d) (Prod.snd d)/\List.Nodup (ids aB
 (Prod.fst r,List.take (Int.toNat (0:Int)) (List.take (Int.toNat (aL (Prod.snd d) (Prod.snd (Prod.fst d)) (0:Int))) (Prod.snd r)++List.drop (Int.toNat (IntKind.wrap i64 (aL (Prod.snd d) (Prod.snd
 (Prod.fst d)) (0:Int)+(1:Int)))) (Prod.snd r))++[List.getD (Prod.snd r) (Int.toNat (aL (Prod.snd d) (Prod.snd (Prod.fst d)) (0:Int))) (((0:Nat),[]),(0:Int),((0:Nat),[]),(0:Nat),[])] ++
 List.drop (Int.toNat (0:Int)) (List.take (Int.toNat (aL (Prod.snd d) (Prod.snd (Prod.fst d)) (0:Int))) (Prod.snd r)++List.drop (Int.toNat (IntKind.wrap i64 (aL (Prod.snd d) (Prod.snd (Prod.fst d))
 (0:Int)+(1:Int)))) (Prod.snd r)))++(ids bd (Prod.fst (Prod.snd (List.getD (Prod.snd r) (Int.toNat (aL (Prod.snd d) (Prod.snd (Prod.fst d)) (0:Int))) (((0:Nat),[]),(0:Int),((0:Nat),[]),(0 :
 Nat),[]))),Prod.snd (Prod.fst (Prod.snd (Prod.snd (List.getD (Prod.snd r) (Int.toNat (aL (Prod.snd d) (Prod.snd (Prod.fst d)) (0:Int))) (((0:Nat),[]),(0:Int),((0:Nat),[]),(0:Nat),[]))))),Prod.snd
 (Prod.snd (Prod.snd (Prod.snd (List.getD (Prod.snd r) (Int.toNat (aL (Prod.snd d) (Prod.snd (Prod.fst d)) (0:Int))) (((0:Nat),[]),(0:Int),((0:Nat),[]),(0:Nat),[]))))))++ids Ty.bool true)))
def vj(d:(Int×List (List Int×Int×List Int×List Int))×List Int)(r:Int×List ((Nat×List Int)×Int×(Nat×List Int)×Nat×List Int)):Prop :=
 (True/\(0:Int)<=(0:Int)/\(0:Int)<=(↑(List.length (List.take (Int.toNat (aL (Prod.snd d) (Prod.snd (Prod.fst d)) (0:Int))) (Prod.snd r)++List.drop (Int.toNat (IntKind.wrap i64 (aL (Prod.snd
 d) (Prod.snd (Prod.fst d)) (0:Int)+(1:Int)))) (Prod.snd r))):Int)/\List.length [List.getD (Prod.snd r) (Int.toNat (aL (Prod.snd d) (Prod.snd (Prod.fst d)) (0:Int))) (((0:Nat),[]),(0:Int),((0 :
 Nat),[]),(0:Nat),[])]=(1:Nat)/\(List.length (List.take (Int.toNat (aL (Prod.snd d) (Prod.snd (Prod.fst d)) (0:Int))) (Prod.snd r)++List.drop (Int.toNat (IntKind.wrap i64 (aL (Prod.snd d)
 (Prod.snd (Prod.fst d)) (0:Int)+(1:Int)))) (Prod.snd r))+(1:Nat))*(80:Nat)<=(140737488355328:Nat))
def vk(d:(Int×List (List Int×Int×List Int×List Int))×List Int)(r:Int×List ((Nat×List Int)×Int×(Nat×List Int)×Nat×List Int)):Prop :=
 ((0:Int)<=aL (Prod.snd d) (Prod.snd (Prod.fst d)) (0:Int)/\aL (Prod.snd d) (Prod.snd (Prod.fst d)) (0:Int)<=IntKind.wrap i64 (aL (Prod.snd d) (Prod.snd (Prod.fst d)) (0:Int)+(1:Int)) ∧
 IntKind.wrap i64 (aL (Prod.snd d) (Prod.snd (Prod.fst d)) (0:Int)+(1:Int))<=(↑(List.length (Prod.snd r)):Int))
def Ew(d:(Int×List (List Int×Int×List Int×List Int))×List Int)(r:Int×List ((Nat×List Int)×Int×(Nat×List Int)×Nat×List Int)):Prop :=
 ((vk d r)/\(vj d r)/\eP (Prod.fst (Prod.snd (List.getD (Prod.snd r) (Int.toNat (aL (Prod.snd d) (Prod.snd (Prod.fst d)) (0:Int))) (((0:Nat),[]),(0:Int),((0:Nat),[]),(0:Nat),[]))),Prod.snd
 (Prod.fst (Prod.snd (Prod.snd (List.getD (Prod.snd r) (Int.toNat (aL (Prod.snd d) (Prod.snd (Prod.fst d)) (0:Int))) (((0:Nat),[]),(0:Int),((0:Nat),[]),(0:Nat),[]))))),Prod.snd (Prod.snd (Prod.snd
 (Prod.snd (List.getD (Prod.snd r) (Int.toNat (aL (Prod.snd d) (Prod.snd (Prod.fst d)) (0:Int))) (((0:Nat),[]),(0:Int),((0:Nat),[]),(0:Nat),[]))))))/\(vi d r))
def R3(d:(Int×List (List Int×Int×List Int×List Int))×List Int)(r:Int×List ((Nat×List Int)×Int×(Nat×List Int)×Nat×List Int)):Prop :=
 (((Ew d r)/\(Ew d r)/\(vk d r)/\(vj d r)/\eP (Prod.fst (Prod.snd (List.getD (Prod.snd r) (Int.toNat (aL (Prod.snd d) (Prod.snd (Prod.fst d)) (0:Int))) (((0:Nat),[]),(0:Int),((0:Nat),[]),(0
 : Nat),[]))),Prod.snd (Prod.fst (Prod.snd (Prod.snd (List.getD (Prod.snd r) (Int.toNat (aL (Prod.snd d) (Prod.snd (Prod.fst d)) (0:Int))) (((0:Nat),[]),(0:Int),((0:Nat),[]),(0:Nat),[]))))),
 Prod.snd (Prod.snd (Prod.snd (Prod.snd (List.getD (Prod.snd r) (Int.toNat (aL (Prod.snd d) (Prod.snd (Prod.fst d)) (0:Int))) (((0:Nat),[]),(0:Int),((0:Nat),[]),(0:Nat),[]))))))/\(vi d r))/\((Ew
 d r)/\(vk d r)/\(vj d r)/\eP (Prod.fst (Prod.snd (List.getD (Prod.snd r) (Int.toNat (aL (Prod.snd d) (Prod.snd (Prod.fst d)) (0:Int))) (((0:Nat),[]),(0:Int),((0:Nat),[]),(0:Nat),[]))),
 Prod.snd (Prod.fst (Prod.snd (Prod.snd (List.getD (Prod.snd r) (Int.toNat (aL (Prod.snd d) (Prod.snd (Prod.fst d)) (0:Int))) (((0:Nat),[]),(0:Int),((0:Nat),[]),(0:Nat),[]))))),Prod.snd (Prod.snd
 (Prod.snd (Prod.snd (List.getD (Prod.snd r) (Int.toNat (aL (Prod.snd d) (Prod.snd (Prod.fst d)) (0:Int))) (((0:Nat),[]),(0:Int),((0:Nat),[]),(0:Nat),[]))))))/\(vi d r))/\(vk d r)/\(vj d r) ∧
 eP (Prod.fst (Prod.snd (List.getD (Prod.snd r) (Int.toNat (aL (Prod.snd d) (Prod.snd (Prod.fst d)) (0:Int))) (((0:Nat),[]),(0:Int),((0:Nat),[]),(0:Nat),[]))),Prod.snd (Prod.fst (Prod.snd (Prod.snd
 (List.getD (Prod.snd r) (Int.toNat (aL (Prod.snd d) (Prod.snd (Prod.fst d)) (0:Int))) (((0:Nat),[]),(0:Int),((0:Nat),[]),(0:Nat),[]))))),Prod.snd (Prod.snd (Prod.snd (Prod.snd (List.getD (Prod.snd
 r) (Int.toNat (aL (Prod.snd d) (Prod.snd (Prod.fst d)) (0:Int))) (((0:Nat),[]),(0:Int),((0:Nat),[]),(0:Nat),[]))))))/\(vi d r))
def R4(d:(Int×List (List Int×Int×List Int×List Int))×List Int)(r:Int×List ((Nat×List Int)×Int×(Nat×List Int)×Nat×List Int)):Prop :=
 (((Ew d r)/\(vk d r)/\(vj d r)/\eP (Prod.fst (Prod.snd (List.getD (Prod.snd r) (Int.toNat (aL (Prod.snd d) (Prod.snd (Prod.fst d)) (0:Int))) (((0:Nat),[]),(0:Int),((0:Nat),[]),(0:Nat),
 []))),Prod.snd (Prod.fst (Prod.snd (Prod.snd (List.getD (Prod.snd r) (Int.toNat (aL (Prod.snd d) (Prod.snd (Prod.fst d)) (0:Int))) (((0:Nat),[]),(0:Int),((0:Nat),[]),(0:Nat),[]))))),Prod.snd
 (Prod.snd (Prod.snd (Prod.snd (List.getD (Prod.snd r) (Int.toNat (aL (Prod.snd d) (Prod.snd (Prod.fst d)) (0:Int))) (((0:Nat),[]),(0:Int),((0:Nat),[]),(0:Nat),[]))))))/\(vi d r))/\(vk d r) ∧
 (vj d r)/\eP (Prod.fst (Prod.snd (List.getD (Prod.snd r) (Int.toNat (aL (Prod.snd d) (Prod.snd (Prod.fst d)) (0:Int))) (((0:Nat),[]),(0:Int),((0:Nat),[]),(0:Nat),[]))),Prod.snd (Prod.fst
 (Prod.snd (Prod.snd (List.getD (Prod.snd r) (Int.toNat (aL (Prod.snd d) (Prod.snd (Prod.fst d)) (0:Int))) (((0:Nat),[]),(0:Int),((0:Nat),[]),(0:Nat),[]))))),Prod.snd (Prod.snd (Prod.snd (Prod.snd
 (List.getD (Prod.snd r) (Int.toNat (aL (Prod.snd d) (Prod.snd (Prod.fst d)) (0:Int))) (((0:Nat),[]),(0:Int),((0:Nat),[]),(0:Nat),[]))))))/\(vi d r))
theorem Pz :
 ∀(d:(Int×List (List Int×Int×List Int×List Int))×List Int),Ty.wf bq d.1/\Ty.wf bp d.2->bj d.1.2/\d.2.length<=(1048576:Nat)->bj d.1.2/\∀(r:Int×List ((Nat×List Int)×Int×(Nat×List Int)×Nat×List Int)),aU aB r=d.1->List.Nodup (ids aB r)->Ty.wf aB r->True->True/\(Ty.wf ai (aL d.2 d.1.2 (0:Int))->bj d.1.2/\((!bK d.1)=true->(aU aB r,aU bd ((0:Int),[],[]),aU Ty.bool false)=cZ d.1 d.2/\List.Nodup (ids aB r++(ids bd ((0:Int),[],[])++ids Ty.bool false)))/\((!bK d.1)=false->(decide (aL d.2 d.1.2 (0:Int)<(0:Int))=true->(aU aB r,aU bd ((0:Int),[],[]),aU Ty.bool false)=cZ d.1 d.2/\List.Nodup (ids aB r++(ids bd ((0:Int),[],[])++ids Ty.bool false)))/\(decide (aL d.2 d.1.2 (0:Int)<(0:Int))=false->((0:Int)<=aL d.2 d.1.2 (0:Int)/\aL d.2 d.1.2 (0:Int)<(r.2.length:Int))/\(R3 d r)/\(R3 d r)/\(R4 d r)/\(R4 d r)/\(Ew d r)/\(vk d r)/\(vj d r)/\eP (Prod.fst (r.2.getD (Int.toNat (aL d.2 d.1.2 (0:Int))) (((0:Nat),[]),(0:Int),((0:Nat),[]),(0:Nat),[])).2,(r.2.getD (Int.toNat (aL d.2 d.1.2 (0:Int))) (((0:Nat),[]),(0:Int),((0:Nat),[]),(0:Nat),[])).2.2.1.2,(r.2.getD (Int.toNat (aL d.2 d.1.2 (0:Int))) (((0:Nat),[]),(0:Int),((0:Nat),[]),(0:Nat),[])).2.2.2.2)/\(vi d r)))):=by
  intro d hw hp
  refine⟨hp.1,fun r h1 h2 h3 _=>⟨trivial,fun hk=>⟨hp.1,fun h4=>?_,fun h4=>⟨fun h5=>?_,fun h5=>?_⟩⟩⟩⟩
  ·have h4:bK d.1=false:=by simpa using h4
   refine⟨?_,?_⟩
   ·rw[CW (.inl h4),V5]
    exact congrArg (fun x=>(x,((0:Int),([]:List Int),([]:List Int)),false)) h1
   ·rw[QF];simpa[ids] using h2
  ·have h5:aL d.2 d.1.2 0<0:=by simpa using h5
   refine⟨?_,?_⟩
   ·rw[CW (.inr h5),V5]
    exact congrArg (fun x=>(x,((0:Int),([]:List Int),([]:List Int)),false)) h1
   ·rw[QF];simpa[ids] using h2
  ·have h4:bK d.1=true:=by simpa using h4
   have h5:¬aL d.2 d.1.2 0<0:=by simpa using h5
   obtain⟨q1,q2⟩:=D7 h1
   obtain⟨i,hi,Ma,abj⟩:=EB (Int.le_refl 0) (by omega:0<=aL d.2 d.1.2 0)
   rw[Int.zero_add] at Ma
   have hl:r.2.length=d.1.2.length:=by rw[<-q2,List.length_map]
   have hlen:=hp.1.1
   have e1:(aL d.2 d.1.2 0).toNat=i:=by omega
   have e2:i64.wrap (aL d.2 d.1.2 0+1)=((i+1:Nat):Int):=by rw[wrap_small (by omega)];omega
   have hE:mr (bf (r.2.getD i cq)):=by
    have:=nF hp.1 hi
    rw[<-q2] at this
    have hx:(r.2.map bf).getD i gQ=bf (r.2.getD i cq):=by simp[List.getD_eq_getElem?_getD,hl,hi]
    rw[show (([],0,[],[]):En)=gQ from rfl,hx] at this
    exact this
   have L0:(0:Int)<=aL d.2 d.1.2 0/\aL d.2 d.1.2 0<(r.2.length:Int):=by omega
   have L4:vk d r:=by
    unfold vk
    rw[e2,Ma];omega
   have L2:vj d r:=by
    unfold vj
    rw[e1,e2,Int.toNat_natCast,List.length_append,List.length_take,List.length_drop]
    refine⟨trivial,by omega,by omega,rfl,by omega⟩
   have LR:eP ((r.2.getD (aL d.2 d.1.2 0).toNat cq).2.1,(r.2.getD (aL d.2 d.1.2 0).toNat cq).2.2.1.2,(r.2.getD (aL d.2 d.1.2 0).toNat cq).2.2.2.2):=by
    rw[e1];exact hE.2
   have L1:vi d r:=by
    unfold vi
    intro _
    rw[e1,e2,Int.toNat_natCast,show Int.toNat 0=0 from rfl,List.take_zero,List.drop_zero,List.nil_append,List.singleton_append]
    rw[H_,V5,zn,QF]
    refine⟨(ZA q1 q2 h4 hi Ma).symm,?_⟩
    rw[show ids Ty.bool true=[] from rfl,List.append_nil,List.append_nil]
    rw[zn] at h2
    exact Jn (by omega) h2
   have afB:vi d r:=by
    unfold vi
    repeat' (first|assumption|exact L1|exact L2|exact L4|exact LR|apply And.intro)
   have afC:vj d r:=by
    unfold vj
    repeat' (first|assumption|exact L1|exact L2|exact L4|exact LR|apply And.intro)
   have afE:vk d r:=by
    unfold vk
    repeat' (first|assumption|exact L1|exact L2|exact L4|exact LR|apply And.intro)
   have afD:Ew d r:=by
    unfold Ew
    repeat' (first|assumption|exact L1|exact L2|exact L4|exact LR|apply And.intro)
   have afF:R3 d r:=by
    unfold R3
    repeat' (first|assumption|exact L1|exact L2|exact L4|exact LR|apply And.intro)
   have afG:R4 d r:=by
    unfold R4
    repeat' (first|assumption|exact L1|exact L2|exact L4|exact LR|apply And.intro)
   repeat' (first|assumption|exact L1|exact L2|exact L4|exact LR|apply And.intro)
theorem rF{c:Ca}{key:List Int}{r:Rs}(h:bK c=false\/5000<key.length\/c.1<(hO r:Int)):ew c key r=(c,false):=by
 unfold ew
 rw[if_neg]
 intro⟨h1,h2,h3⟩
 rcases h with h|h|h
 ·rw[h] at h1;cases h1
 ·omega
 ·omega
theorem TO{r:Int×List aN}{c:Ca}(h:aU fN r=c):r.1=c.1/\r.2.map bf=c.2:=by
 rw[YX] at h
 exact⟨congrArg Prod.fst h,congrArg Prod.snd h⟩
theorem JG{c:Ca}{key:List Int}{r:Rs}{x:List aN}{k:Int}(h1:bK c=true)(h2:¬5000<key.length)(h3:¬c.1<(hO r:Int))(hx:x.map bf=(cX c (key,r)).2)(hk:k=c.1) :
 ((k,(x.take (cB k (x.map bf) x.length)).map bf),true)=ew c key r:=by
 unfold ew
 rw[if_pos ⟨h1,by omega,by omega⟩,ado hx,hk]
 rfl
theorem Tq :
 ∀(d:(Int×List (List Int×Int×List Int×List Int))×List Int×Int×List Int×List Int),Ty.wf bq d.1/\Ty.wf bp d.2.1/\Ty.wf bd d.2.2->bj d.1.2/\d.2.1.length<=(1048576:Nat)/\eP d.2.2->bj d.1.2/\((!bK d.1)=true->bj d.1.2/\∀(r:Int×List ((Nat×List Int)×Int×(Nat×List Int)×Nat×List Int)),aU fN r=d.1->True->Ty.wf fN r->True->(aU fN r,aU Ty.bool false)=ew d.1 d.2.1 d.2.2)/\((!bK d.1)=false->(decide ((5000:Int)<(d.2.1.length:Int))=true->bj d.1.2/\∀(r:Int×List ((Nat×List Int)×Int×(Nat×List Int)×Nat×List Int)),aU fN r=d.1->True->Ty.wf fN r->True->(aU fN r,aU Ty.bool false)=ew d.1 d.2.1 d.2.2)/\(decide ((5000:Int)<(d.2.1.length:Int))=false->eP d.2.2/\(Ty.wf ai (hO d.2.2:Int)->(decide (d.1.1<(hO d.2.2:Int))=true->bj d.1.2/\∀(r:Int×List ((Nat×List Int)×Int×(Nat×List Int)×Nat×List Int)),aU fN r=d.1->True->Ty.wf fN r->True->(aU fN r,aU Ty.bool false)=ew d.1 d.2.1 d.2.2)/\(decide (d.1.1<(hO d.2.2:Int))=false->(bj d.1.2/\mr d.2)/\∀(r:Int×List ((Nat×List Int)×Int×(Nat×List Int)×Nat×List Int)),aU fN r=cX d.1 d.2->True->Ty.wf fN r->True->(bj (List.map bf r.2)/\(0:Int)<=r.1)/\True/\(aU fN (r.1,List.take (cB r.1 (List.map bf r.2) r.2.length) r.2),aU Ty.bool true)=ew d.1 d.2.1 d.2.2)))):=by
  intro d hw hp
  obtain⟨et,je,F2⟩:=hp
  have hu:∀ b:Bool,aU Ty.bool b=b:=fun b=>rfl
  simp only[exists_const,forall_const,decide_eq_true_eq,decide_eq_false_iff_not,beq_iff_eq,sxS]
  simp only[hu]
  refine⟨et,fun h=>⟨et,fun r h1 _=>by rw[rF (.inl h)];exact congrArg (fun x=>(x,false)) h1⟩,fun h=>⟨fun h5=>⟨et,fun r h1 _=>by rw[rF (.inr (.inl (by omega)))];exact congrArg (fun x=>(x,false)) h1⟩,fun h5=>⟨F2,fun _=>⟨fun h6=>⟨et,fun r h1 _=>by rw[rF (.inr (.inr h6))];exact congrArg (fun x=>(x,false)) h1⟩,fun h6=>⟨⟨et,je,F2⟩,fun r h1 _=>?_⟩⟩⟩⟩⟩
  obtain⟨c1,c2,c3,c4,_⟩:=fI h
  obtain⟨q1,q2⟩:=TO h1
  have hF:=I1 (e:=d.2) et ⟨je,F2⟩ (by omega)
  refine⟨⟨by rw[q2];exact hF,by rw[q1];exact c1⟩,?_⟩
  rw[YX]
  exact JG h (by omega) h6 q2 q1
theorem Xj{L:List aN}{e:aN}(h:(L.flatMap cg).Nodup)(he:(cg e).Nodup)(hx:∀ b∈cg e,b ∉ L.flatMap cg):((e::L).flatMap cg).Nodup:=by
 rw[List.flatMap_cons,List.nodup_append]
 exact⟨he,h,fun a ha b hb e=>by subst e;exact hx a ha hb⟩
theorem Tc :
 ∀(d:(Int×List (List Int×Int×List Int×List Int))×List Int×Int×List Int×List Int),Ty.wf bq d.1/\Ty.wf bp d.2.1/\Ty.wf bd d.2.2->bj d.1.2/\d.2.1.length<=(1048576:Nat)/\eP d.2.2->bj d.1.2/\∀(r:Int×List ((Nat×List Int)×Int×(Nat×List Int)×Nat×List Int)),aU aB r=d.1->List.Nodup (ids aB r)->Ty.wf aB r->True->mr d.2/\(Ty.wf dj d.2->bj d.1.2/\((!bK d.1)=true->(aU aB r,aU Ty.bool false)=ew d.1 d.2.1 d.2.2/\List.Nodup (ids aB r++ids Ty.bool false))/\((!bK d.1)=false->(decide ((5000:Int)<(d.2.1.length:Int))=true->(aU aB r,aU Ty.bool false)=ew d.1 d.2.1 d.2.2/\List.Nodup (ids aB r++ids Ty.bool false))/\(decide ((5000:Int)<(d.2.1.length:Int))=false->mr d.2/\(Ty.wf ai (hO d.2.2:Int)->(decide (d.1.1<(hO d.2.2:Int))=true->(aU aB r,aU Ty.bool false)=ew d.1 d.2.1 d.2.2/\List.Nodup (ids aB r++ids Ty.bool false))/\(decide (d.1.1<(hO d.2.2:Int))=false->(True/\(Ty.wf ai (aL d.2.1 (bH bA r.2) (0:Int))->(decide ((0:Int)<=aL d.2.1 (bH bA r.2) (0:Int))=true->((0:Int)<=aL d.2.1 (bH bA r.2) (0:Int)/\aL d.2.1 (bH bA r.2) (0:Int)<=i64.wrap (aL d.2.1 (bH bA r.2) (0:Int)+(1:Int))/\i64.wrap (aL d.2.1 (bH bA r.2) (0:Int)+(1:Int))<=(r.2.length:Int))/\∃(x':List ((Nat×List Int)×Int×(Nat×List Int)×Nat×List Int)),(List.map bf x'=List.filter (fun (o:En)=>decide (o.1≠d.2.1)) d.1.2/\List.Nodup (ed x')/\bK d.1=true/\d.2.1.length<=(5000:Nat)/\(hO d.2.2:Int)<=d.1.1)/\((ae d.1.1/\ae d.1.2)/\ae d.2.1/\ae d.2.2.1/\ae d.2.2.2.1/\ae d.2.2.2.2)/\(ae d.1.1/\ae d.1.2)/\(ae d.2.2.1/\ae d.2.2.2.1/\ae d.2.2.2.2)/\(ae (0:Int)/\aQ)/\List.take (Int.toNat (aL d.2.1 (bH bA r.2) (0:Int))) r.2++List.drop (Int.toNat (i64.wrap (aL d.2.1 (bH bA r.2) (0:Int)+(1:Int)))) r.2=x'/\r.1=d.1.1/\ae d.2.1/\ae d.2.2.2.1/\ae d.2.2.2.2/\ae d.2.2.1)/\(decide ((0:Int)<=aL d.2.1 (bH bA r.2) (0:Int))=false->∃(x':List ((Nat×List Int)×Int×(Nat×List Int)×Nat×List Int)),(List.map bf x'=List.filter (fun (o:En)=>decide (o.1≠d.2.1)) d.1.2/\List.Nodup (ed x')/\bK d.1=true/\d.2.1.length<=(5000:Nat)/\(hO d.2.2:Int)<=d.1.1)/\((ae d.1.1/\ae d.1.2)/\ae d.2.1/\ae d.2.2.1/\ae d.2.2.2.1/\ae d.2.2.2.2)/\(ae d.1.1/\ae d.1.2)/\(ae d.2.2.1/\ae d.2.2.2.1/\ae d.2.2.2.2)/\(ae (0:Int)/\aQ)/\r.2=x'/\r.1=d.1.1/\ae d.2.1/\ae d.2.2.2.1/\ae d.2.2.2.2/\ae d.2.2.1)))/\∀(x:List ((Nat×List Int)×Int×(Nat×List Int)×Nat×List Int)),List.map bf x=List.filter (fun (o:En)=>decide (o.1≠d.2.1)) d.1.2/\List.Nodup (ed x)/\bK d.1=true/\d.2.1.length<=(5000:Nat)/\(hO d.2.2:Int)<=d.1.1->(∀(b:Nat),¬b∈aX bA x->∀(gH:Nat),(¬gH∈aX bA x/\¬gH∈ids (Ty.gs true dV) (b,d.2.1))/\gH≠b->∀(gI:Nat),(¬gI∈aX bA x/\¬gI∈ids (Ty.gs true dV) (b,d.2.1)/\¬gI∈ids (Ty.gs true (Ty.int i64)) (gH,d.2.2.2.1))/\gI≠gH/\gI≠b->(True/\(0:Int)<=(0:Int)/\(0:Int)<=(x.length:Int)/\List.length [((b,d.2.1),d.2.2.1,(gH,d.2.2.2.1),gI,d.2.2.2.2)]=(1:Nat)/\(x.length+(1:Nat))*(80:Nat)<=(140737488355328:Nat))/\∃(x':List ((Nat×List Int)×Int×(Nat×List Int)×Nat×List Int)),(List.map bf x'=(cX d.1 d.2).2/\List.Nodup (ed x')/\bK d.1=true/\d.2.1.length<=(5000:Nat)/\(hO d.2.2:Int)<=d.1.1)/\((ae d.1.1/\ae d.1.2)/\ae d.2.1/\ae d.2.2.1/\ae d.2.2.2.1/\ae d.2.2.2.2)/\(ae d.1.1/\ae d.1.2)/\(ae d.2.2.1/\ae d.2.2.2.1/\ae d.2.2.2.2)/\(ae (0:Int)/\aQ)/\List.take ((0:Int).toNat) x++[((b,d.2.1),d.2.2.1,(gH,d.2.2.2.1),gI,d.2.2.2.2)]++List.drop ((0:Int).toNat) x=x'/\ae d.1.1)/\∀(x:List ((Nat×List Int)×Int×(Nat×List Int)×Nat×List Int)),List.map bf x=(cX d.1 d.2).2/\List.Nodup (ed x)/\bK d.1=true/\d.2.1.length<=(5000:Nat)/\(hO d.2.2:Int)<=d.1.1->(bj (List.map bf x)/\(0:Int)<=d.1.1)/\True/\(aU aB (d.1.1,List.take (cB d.1.1 (List.map bf x) x.length) x),aU Ty.bool true)=ew d.1 d.2.1 d.2.2/\List.Nodup (ids aB (d.1.1,List.take (cB d.1.1 (List.map bf x) x.length) x)++ids Ty.bool true)))))):=by
  intro d hw hp
  obtain⟨et,je,F2⟩:=hp
  have hu:∀ b:Bool,aU Ty.bool b=b:=fun b=>rfl
  have hi:∀ b:Bool,ids Ty.bool b=[]:=fun b=>rfl
  simp only[exists_const,forall_const,decide_eq_true_eq,decide_eq_false_iff_not,beq_iff_eq,sxS]
  simp only[hu,hi,List.append_nil,S5,Ev,vh,show Int.toNat 0=0 from rfl,List.take_zero,List.drop_zero,List.nil_append,List.singleton_append]
  refine⟨et,fun r h1 h2 _=>⟨⟨je,F2⟩,fun _=>⟨et,fun h=>⟨?_,h2⟩,fun h=>⟨fun h5=>⟨?_,h2⟩,fun h5=>⟨⟨je,F2⟩,fun _=>⟨fun h6=>⟨?_,h2⟩,fun h6=>⟨fun _=>⟨fun h7=>?_,fun h7=>?_⟩,fun x hx=>⟨fun b hb b1 fe b2 jx=>?_,fun x hx=>?_⟩⟩⟩⟩⟩⟩⟩⟩
  ·rw[rF (.inl h)];exact congrArg (fun x=>(x,false)) h1
  ·rw[rF (.inr (.inl (by omega)))];exact congrArg (fun x=>(x,false)) h1
  ·rw[rF (.inr (.inr h6))];exact congrArg (fun x=>(x,false)) h1
  ·obtain⟨c1,c2,c3,c4,_⟩:=fI h
   obtain⟨q1,q2⟩:=D7 h1
   rw[q2] at h7 ⊢
   obtain⟨i,cF,Ma,abj⟩:=EB (Int.le_refl 0) h7
   rw[Int.zero_add] at Ma
   have hl:r.2.length=d.1.2.length:=by rw[<-q2,List.length_map]
   have e2:i64.wrap (aL d.2.1 d.1.2 0+1)=((i+1:Nat):Int):=by rw[wrap_small (by omega)];omega
   rw[e2,Ma,Int.toNat_natCast,Int.toNat_natCast]
   refine⟨by omega,_,⟨?_,?_,h,by omega,by omega⟩,rfl,q1⟩
   ·rw[List.map_append,List.map_take,List.map_drop,q2,<-abj]
    exact (Qr cF c4).symm
   ·rw[zn] at h2
    have:=Jn (i:=i) (by omega) h2
    rw[List.flatMap_cons,List.nodup_append] at this
    exact this.2.1
  ·obtain⟨q1,q2⟩:=D7 h1
   rw[q2] at h7
   rw[zn] at h2
   exact⟨_,⟨by rw[T5 (by omega)];exact q2,h2,h,by omega,by omega⟩,rfl,q1⟩
  ·obtain⟨x1,x2,x3,x4,x5⟩:=hx
   obtain⟨c1,c2,c3,c4,_⟩:=fI h
   have hl:x.length<=30:=by
    rw[<-List.length_map (f:=bf),x1]
    exact Nat.le_trans (List.length_filter_le _ _) c3
   refine⟨⟨by omega,by omega,rfl,by omega⟩,_,⟨?_,?_,h,x4,x5⟩,rfl⟩
   ·rw[List.map_cons,x1];rfl
   ·refine Xj x2 (QE fe.2 jx.2.1 jx.2.2 _ _ _ _) (fun i hi=>?_)
    rcases UD hi with rfl|rfl|rfl
    ·exact hb
    ·exact fe.1.1
    ·exact jx.1.1
  ·obtain⟨x1,x2,x3,x4,x5⟩:=hx
   obtain⟨c1,c2,c3,c4,_⟩:=fI h
   refine⟨⟨by rw[x1];exact I1 et ⟨je,F2⟩ (by omega),c1⟩,?_,?_⟩
   ·rw[H_]
    exact JG h (by omega) h6 x1 rfl
   ·rw[zn]
    exact W8 x2 _
theorem Iq :
 ∀(d:Int×List Int×List Int) (k:Int),Ty.wf bd d->IntKind.min i64<=k/\k<=IntKind.max i64->True->(List.length (fp d k).2.1=d.2.1.length/\List.length (fp d k).2.2=d.2.2.length)/\True/\True/\dJ d.2.2 (dJ d.2.1 k)=rb d k/\c7 d.2.1 k=(fp d k).2.1/\c7 d.2.2 (dJ d.2.1 k)=(fp d k).2.2:=by
  intro d k hw hk _
  exact⟨⟨fD _ _,fD _ _⟩,trivial,trivial,rfl,rfl,rfl⟩
theorem Im :
 ∀(d:(Int×List Int×List Int)×Int),Ty.wf bd d.1/\Ty.wf ai d.2->True->True/\(Ty.wf ai (cx d.1.2.1 d.2)->(decide (cx d.1.2.1 d.2<(0:Int))=true->(-1:Int)=gM d.1 d.2)/\(decide (cx d.1.2.1 d.2<(0:Int))=false->True/\(Ty.wf ai (cx d.1.2.2 (cx d.1.2.1 d.2))->(decide (cx d.1.2.2 (cx d.1.2.1 d.2)<(0:Int))=true->(-1:Int)=gM d.1 d.2)/\(decide (cx d.1.2.2 (cx d.1.2.1 d.2)<(0:Int))=false->cx d.1.2.2 (cx d.1.2.1 d.2)=gM d.1 d.2)))):=by
  intro d _ _
  simp only[exists_const,forall_const,decide_eq_true_eq,decide_eq_false_iff_not,beq_iff_eq,sxS]
  refine fun _=>⟨fun h=>by unfold gM;rw[if_pos h],fun h _=>⟨fun h2=>by unfold gM;rw[if_neg h,if_pos h2],fun h2=>by unfold gM;rw[if_neg h,if_neg h2]⟩⟩
theorem acE(L:List aN):bH (Ty.st (Ty.pr (Ty.gs false dV) (Ty.st (Ty.pr (Ty.int i64) (Ty.pr (Ty.gs false (Ty.int i64)) (Ty.gs false (Ty.int i64))))))) L=L.map bf:=YW L
theorem abT(L:List aN):aX (Ty.st (Ty.pr (Ty.gs false dV) (Ty.st (Ty.pr (Ty.int i64) (Ty.pr (Ty.gs false (Ty.int i64)) (Ty.gs false (Ty.int i64))))))) L=ed L:=YC L
theorem T1(r:Rs):kQ r r=true:=by unfold kQ;exact @decide_eq_true _ (Lv r r) rfl
section
variable {w : Ca} {a : CA} {k : PG} {x : List aN × List aN} {g : List aN} {y : Int}
theorem lkR{r:Rs}(h:kQ r r=false):false=true:=by rw[T1] at h;exact h.symm
theorem LZ(r:Rs){k:Int}(h0:0<=k)(h1:k<=100000000)(h2:r.2.1.length<=4000000)(h3:r.2.2.length<=4000000):gM (fp r k) k=rb r k/\0<=rb r k:=by
 have e1:=CM r.2.1 (k:=k) h0 (by omega)
 have e2:=CM r.2.2 (k:=dJ r.2.1 k) (by omega) (by omega)
 have g1:cx (fp r k).2.1 k=dJ r.2.1 k:=zi _ _
 have g2:cx (fp r k).2.2 (dJ r.2.1 k)=dJ r.2.2 (dJ r.2.1 k):=zi _ _
 unfold gM
 rw[g1,g2,if_neg (by omega),if_neg (by omega)]
 refine⟨rfl,?_⟩
 unfold rb
 omega
end
theorem I8(c:Ca)(e:En):dp (cX c e).2<=e.1.length+1+e.2.2.1.length+e.2.2.2.length+dp c.2:=by
 have:=N_ (List.filter_sublist (p:=fun o:En=>decide (o.1≠e.1)) (l:=c.2))
 show dp (e::_)<=_
 rw[dp]
 omega
theorem TM:∀(es:List En) (i:Nat),(es.getD i gQ).1.length+1+(es.getD i gQ).2.2.1.length+(es.getD i gQ).2.2.2.length<=dp es+1
 | [],i=>by simp[gQ,dp]
 | e::es,0=>by simp[dp];omega
 | e::es,i+1=>by have:=TM es i;rw[dp];simp only[List.getD_cons_succ];omega
theorem Xh{c:Ca}{key:List Int}(hT:dp c.2<=1048576):dp (cZ c key).1.2<=4000000/\(cZ c key).2.1.2.1.length<=4000000/\(cZ c key).2.1.2.2.length<=4000000:=by
 unfold cZ
 split
 ·have h1:=TM c.2 (aL key c.2 0).toNat
  have h2:=I8 c (c.2.getD (aL key c.2 0).toNat gQ)
  refine⟨?_,?_,?_⟩<;>simp only<;>omega
 ·refine⟨?_,?_,?_⟩<;>simp only<;>first|omega|(simp)
theorem U1{r:(Int×List aN)×Rs×Bool}{p:P_}(e:((r.1.1,r.1.2.map bf),r.2.1,r.2.2)=p):r.1.2.map bf=p.1.2/\r.1.1=p.1.1/\r.2.1=p.2.1/\r.2.2=p.2.2:=by
 rw[<-e]
 exact⟨rfl,rfl,rfl,rfl⟩
theorem adj{j:Jb}(h:j.2.2.1.length<=524288/\j.2.2.2.1.length<=400000):eP (aA j):=by
 have:=VK j
 exact⟨by omega,by omega⟩
theorem MG{j:Jb}(h:aK j=true):eP (aA j):=by
 obtain⟨_,_,⟨l1,_⟩,⟨l2,_⟩,_⟩:=F8 h
 exact adj ⟨by omega,by omega⟩
theorem CL{j:Jb}(h:aK j=true):(gB j).length<=6000:=by
 obtain⟨_,_,⟨l1,_⟩,⟨l2,_⟩,_⟩:=F8 h
 have h0:=ku j.2.2.2.2
 have h1:=vz j.2.2.1
 have h2:=vz j.2.2.2.1
 unfold gB
 simp only[List.length_append,List.length_cons,List.length_nil]
 omega
theorem SL{c:Ca}{j:Jb}(h:bK c=false):aM c j=(c,(0,[],[]),false):=by unfold aM;rw[if_neg (by rw[h];decide)]
theorem NP{c:Ca}{j:Jb}(h:bK c=true)(h1:aK j=false):aM c j=(c,aA j,false):=by unfold aM;rw[if_pos h,if_neg (by rw[h1];decide)]
theorem NQ{c:Ca}{j:Jb}(h:bK c=true)(h1:aK j=true)(h2:(cZ c (gB j)).2.2=true):aM c j=cZ c (gB j):=by unfold aM;rw[if_pos h,if_pos h1,if_pos h2]
theorem H2{c:Ca}{j:Jb}(h:bK c=true)(h1:aK j=true)(h2:(cZ c (gB j)).2.2=false):aM c j=((ew c (gB j) (aA j)).1,aA j,false):=by
 unfold aM;rw[if_pos h,if_pos h1,if_neg (by rw[h2];decide)]
theorem KK :
 ∀(d:(Int×List (List Int×Int×List Int×List Int))×Int×Int×List Int×List Int×Int),Ty.wf bq d.1/\Ty.wf eF d.2->bj d.1.2->bj d.1.2/\((!bK d.1)=true->bj d.1.2/\(Ty.wf bq d.1->(d.1,((0:Int),[],[]),false)=aM d.1 d.2))/\((!bK d.1)=false->True/\((!aK d.2)=true->bj d.1.2/\True/\(Ty.wf ub (aA d.2)->Ty.wf bq d.1->(d.1,aA d.2,false)=aM d.1 d.2))/\((!aK d.2)=false->True/\(Ty.wf bp (fm d.2)->(bj d.1.2/\List.length (fm d.2)<=(1048576:Nat))/\(Ty.wf bq (cZ d.1 (fm d.2)).1/\Ty.wf bd (cZ d.1 (fm d.2)).2.1/\Ty.wf Ty.bool (cZ d.1 (fm d.2)).2.2->(Prod.snd (cZ d.1 (fm d.2)).2=true->((Prod.fst (cZ d.1 (fm d.2)),(cZ d.1 (fm d.2)).2.1,true)=aM d.1 d.2/\(Prod.fst (cZ d.1 (fm d.2)),(cZ d.1 (fm d.2)).2.1,true)=aM d.1 d.2)/\(Prod.fst (cZ d.1 (fm d.2)),(cZ d.1 (fm d.2)).2.1,true)=aM d.1 d.2)/\(Prod.snd (cZ d.1 (fm d.2)).2=false->True/\(Ty.wf ub (aA d.2)->(bj d.1.2/\List.length (fm d.2)<=(1048576:Nat)/\eP (aA d.2))/\(Ty.wf bq (ew d.1 (fm d.2) (aA d.2)).1/\Ty.wf Ty.bool (ew d.1 (fm d.2) (aA d.2)).2->((Prod.fst (ew d.1 (fm d.2) (aA d.2)),aA d.2,false)=aM d.1 d.2/\(Prod.fst (ew d.1 (fm d.2) (aA d.2)),aA d.2,false)=aM d.1 d.2)/\(Prod.fst (ew d.1 (fm d.2) (aA d.2)),aA d.2,false)=aM d.1 d.2))))))):=by
  intro d hw hp
  have hp:bj d.1.2:=hp
  simp only[exists_const,forall_const,decide_eq_true_eq,decide_eq_false_iff_not,beq_iff_eq,sxS]
  refine⟨hp,fun h=>⟨hp,fun _=>(SL h).symm⟩,fun h=>⟨fun h1=>⟨hp,fun _ _=>(NP h h1).symm⟩,fun h1=>?_⟩⟩
  have e:fm d.2=gB d.2:=by unfold fm;rw[if_pos h1]
  have hl:=CL h1
  rw[e]
  refine fun _=>⟨⟨hp,by omega⟩,fun _=>⟨fun h2=>?_,fun h2 _=>⟨⟨hp,by omega,MG h1⟩,fun _=>?_⟩⟩⟩
  ·have:((cZ d.1 (gB d.2)).1,(cZ d.1 (gB d.2)).2.1,true)=aM d.1 d.2:=by rw[NQ h h1 h2];exact congrArg (fun b=>((cZ d.1 (gB d.2)).1,(cZ d.1 (gB d.2)).2.1,b)) h2.symm
   exact⟨⟨this,this⟩,this⟩
  ·have:=(H2 h h1 h2).symm
   exact⟨⟨this,this⟩,this⟩
theorem Ik :
 ∀(d:(Int×List (List Int×Int×List Int×List Int))×Int×Int×List Int×List Int×Int),Ty.wf bq d.1/\Ty.wf eF d.2->bj d.1.2/\bK d.1=true->True/\((!aK d.2)=true->((bj d.1.2/\∀(r:Int×List ((Nat×List Int)×Int×(Nat×List Int)×Nat×List Int)),aU aB r=d.1->List.Nodup (ids aB r)->Ty.wf aB r->True->True/\(Ty.wf ub (aA d.2)->(aU aB r,aU bd (aA d.2),aU Ty.bool false)=aM d.1 d.2/\List.Nodup (ids aB r++(ids bd (aA d.2)++ids Ty.bool false))))/\bj d.1.2/\∀(r:Int×List ((Nat×List Int)×Int×(Nat×List Int)×Nat×List Int)),aU aB r=d.1->List.Nodup (ids aB r)->Ty.wf aB r->True->True/\(Ty.wf ub (aA d.2)->(aU aB r,aU bd (aA d.2),aU Ty.bool false)=aM d.1 d.2/\List.Nodup (ids aB r++(ids bd (aA d.2)++ids Ty.bool false))))/\bj d.1.2/\∀(r:Int×List ((Nat×List Int)×Int×(Nat×List Int)×Nat×List Int)),aU aB r=d.1->List.Nodup (ids aB r)->Ty.wf aB r->True->True/\(Ty.wf ub (aA d.2)->(aU aB r,aU bd (aA d.2),aU Ty.bool false)=aM d.1 d.2/\List.Nodup (ids aB r++(ids bd (aA d.2)++ids Ty.bool false))))/\((!aK d.2)=false->aK d.2=true/\(Ty.wf bp (gB d.2)->(bj d.1.2/\List.length (gB d.2)<=(1048576:Nat))/\∀(r:(Int×List ((Nat×List Int)×Int×(Nat×List Int)×Nat×List Int))×(Int×List Int×List Int)×Bool),(aU aB r.1,aU bd r.2.1,aU Ty.bool r.2.2)=cZ d.1 (gB d.2)->List.Nodup (ids aB r.1++(ids bd r.2.1++ids Ty.bool r.2.2))->Ty.wf aB r.1/\Ty.wf bd r.2.1/\Ty.wf Ty.bool r.2.2->True->(r.2.2=true->(((aU aB r.1,aU bd r.2.1,aU Ty.bool true)=aM d.1 d.2/\List.Nodup (ids aB r.1++(ids bd r.2.1++ids Ty.bool true)))/\(aU aB r.1,aU bd r.2.1,aU Ty.bool true)=aM d.1 d.2/\List.Nodup (ids aB r.1++(ids bd r.2.1++ids Ty.bool true)))/\(aU aB r.1,aU bd r.2.1,aU Ty.bool true)=aM d.1 d.2/\List.Nodup (ids aB r.1++(ids bd r.2.1++ids Ty.bool true)))/\(r.2.2=false->True/\(Ty.wf ub (aA d.2)->(bj d.1.2/\List.length (gB d.2)<=(1048576:Nat)/\eP (aA d.2))/\∀(wE:(Int×List ((Nat×List Int)×Int×(Nat×List Int)×Nat×List Int))×Bool),(aU aB wE.1,aU Ty.bool wE.2)=ew d.1 (gB d.2) (aA d.2)->List.Nodup (ids aB wE.1++ids Ty.bool wE.2)->Ty.wf aB wE.1/\Ty.wf Ty.bool wE.2->bz (ids aB wE.1++ids Ty.bool wE.2) (aX bA r.1.2)->(((aU aB wE.1,aU bd (aA d.2),aU Ty.bool false)=aM d.1 d.2/\List.Nodup (ids aB wE.1++(ids bd (aA d.2)++ids Ty.bool false)))/\(aU aB wE.1,aU bd (aA d.2),aU Ty.bool false)=aM d.1 d.2/\List.Nodup (ids aB wE.1++(ids bd (aA d.2)++ids Ty.bool false)))/\(aU aB wE.1,aU bd (aA d.2),aU Ty.bool false)=aM d.1 d.2/\List.Nodup (ids aB wE.1++(ids bd (aA d.2)++ids Ty.bool false)))))):=by
  intro d hw hp
  obtain⟨hp,hB⟩:=hp
  have hp:bj d.1.2:=hp
  have hu:∀ r:Rs,aU bd r=r:=V5
  have hi:∀ r:Rs,ids bd r=[]:=QF
  have hub:∀ b:Bool,aU Ty.bool b=b:=fun b=>rfl
  have Un:∀ b:Bool,ids Ty.bool b=[]:=fun b=>rfl
  simp only[exists_const,forall_const,decide_eq_true_eq,decide_eq_false_iff_not,beq_iff_eq,sxS]
  simp only[hub,Un,hi,List.append_nil]
  refine⟨fun h=>?_,fun h=>⟨h,fun _=>⟨⟨hp,by have:=CL h;omega⟩,fun r h1 h2 _=>⟨fun h3=>?_,fun h3 _=>⟨⟨hp,by have:=CL h;omega,MG h⟩,fun r1 h4 h5 _ _=>?_⟩⟩⟩⟩⟩
  ·have:∀ r:Int×List aN,aU aB r=d.1->(ids aB r).Nodup->aB.wf r->ub.wf (aA d.2)->(aU aB r,aU bd (aA d.2),false)=aM d.1 d.2/\(ids aB r).Nodup:=by
    intro r h1 h2 _ _
    rw[NP hB h,h1]
    rw[hu];exact⟨rfl,h2⟩
   exact⟨⟨⟨hp,this⟩,hp,this⟩,hp,this⟩
  ·have e2:(cZ d.1 (gB d.2)).2.2=true:=by rw[<-h1];exact h3
   have:(aU aB r.1,aU bd r.2.1,true)=aM d.1 d.2/\(ids aB r.1).Nodup:=by
    rw[NQ hB h e2,<-h1]
    refine⟨?_,h2⟩
    exact congrArg (fun b=>(aU aB r.1,aU bd r.2.1,b)) h3.symm
   exact⟨⟨this,this⟩,this⟩
  ·have e2:(cZ d.1 (gB d.2)).2.2=false:=by rw[<-h1];exact h3
   have:(aU aB r1.1,aU bd (aA d.2),false)=aM d.1 d.2/\(ids aB r1.1).Nodup:=by
    rw[H2 hB h e2,<-h4]
    rw[hu];exact⟨rfl,h5⟩
   exact⟨⟨this,this⟩,this⟩
theorem Ic :
 ∀(d:(Int×List (List Int×Int×List Int×List Int))×Int×Int×List Int×List Int×Int),Ty.wf bq d.1/\Ty.wf eF d.2->bj d.1.2->bj d.1.2/\((!bK d.1)=true->bj d.1.2/\∀(r:Int×List ((Nat×List Int)×Int×(Nat×List Int)×Nat×List Int)),aU aB r=d.1->List.Nodup (ids aB r)->Ty.wf aB r->True->(aU aB r,aU bd ((0:Int),[],[]),aU Ty.bool false)=aM d.1 d.2/\List.Nodup (ids aB r++(ids bd ((0:Int),[],[])++ids Ty.bool false)))/\((!bK d.1)=false->(bj d.1.2/\bK d.1=true)/\∀(r:(Int×List ((Nat×List Int)×Int×(Nat×List Int)×Nat×List Int))×(Int×List Int×List Int)×Bool),(aU aB r.1,aU bd r.2.1,aU Ty.bool r.2.2)=aM d.1 d.2->List.Nodup (ids aB r.1++(ids bd r.2.1++ids Ty.bool r.2.2))->Ty.wf aB r.1/\Ty.wf bd r.2.1/\Ty.wf Ty.bool r.2.2->True->(aU aB r.1,aU bd r.2.1,aU Ty.bool r.2.2)=aM d.1 d.2/\List.Nodup (ids aB r.1++(ids bd r.2.1++ids Ty.bool r.2.2))):=by
  intro d hw hp
  have hp:bj d.1.2:=hp
  have hi:∀ r:Rs,ids bd r=[]:=QF
  have hub:∀ b:Bool,aU Ty.bool b=b:=fun b=>rfl
  have Un:∀ b:Bool,ids Ty.bool b=[]:=fun b=>rfl
  simp only[exists_const,forall_const,decide_eq_true_eq,decide_eq_false_iff_not,beq_iff_eq,sxS]
  refine⟨hp,fun h=>⟨hp,fun r h1 h2 _=>⟨?_,?_⟩⟩,fun h=>⟨⟨hp,h⟩,fun r h1 h2 _=>⟨h1,h2⟩⟩⟩
  ·rw[SL h,<-h1];rfl
  ·rw[hi,Un];simpa using h2
end Go.SF
