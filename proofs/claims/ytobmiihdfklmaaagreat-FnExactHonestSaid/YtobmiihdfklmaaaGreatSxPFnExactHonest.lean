/- What is owed of the law's code: FnExactHonest. No condition. -/
import Derived.Test.YtobmiihdfklmaaaGreatSxM3
namespace Go.SF
open Go.SX Go
set_option linter.unusedVariables false
set_option linter.unusedSimpArgs false
theorem zw :
 ∀(d:Int×List (List Int×Int×List Int×List Int)),Ty.wf cA d->True->True/\(Ty.wf ah (oB d (1048576:Int))->(decide (oB d (1048576:Int)<(0:Int))=true->ae true)/\(decide (oB d (1048576:Int)<(0:Int))=false->dw d.2/\(Ty.wf cA d->dw d.2/\dw d.2/\(Ty.wf cA d->dw d.2/\((!gI d == gI d)=true->false=true)/\((!gI d == gI d)=false->dw d.2/\True/\(Ty.wf cA d->((!r7 d d)=true->false=true)/\((!r7 d d)=false->ae true))))))):=by
  intro (d:Ca) hw hp
  obtain⟨cap,es⟩:=d
  have hr:=OB (c:=(cap,es)) hw
  have he:r7 (cap,es) (cap,es)=true:=by unfold r7;exact decide_eq_true rfl
  simp only[exists_const,forall_const,decide_eq_true_eq,decide_eq_false_iff_not,beq_iff_eq,sxS]
  intro _ hz
  have hx:dw es:=hr hz
  simp only[hx,he,beq_self_eq_true,Bool.true_eq_false,true_and,and_true,implies_true,false_implies,not_true_eq_false,not_false_eq_true,forall_const,true_implies]
end Go.SF
