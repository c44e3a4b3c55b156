/- FnExactHonest returns true, whatever the input; its arguments read as they did. No condition. -/
import Derived.Test.YtobmiihdfklmaaaGreatSxQFnExactHonest
import Derived.Test.YtobmiihdfklmaaaGreatRows
import Derived.WalkKit
import Derived.ProofKit
import Derived.OpenShut
import Derived.ShutString
import Derived.ChangeOld
import Derived.Below
namespace Go.Proofs.YtobmiihdfklmaaaGreat
open Go.ChangeShapes Go.WideShapes Go.ChangeAt Go.RowKit Go.SX Go.SF
set_option linter.unusedVariables false
theorem own:ownKnob Tryz.prog.godebug=none:=by kernel_rfl
theorem laidOut:laidOutB Tryz.prog=true:=by kernel_rfl
set_option maxRecDepth 100000 in
theorem lifted(os:Os)(started:os.Started)(H:Type)(enc:TypeId×Value->H) :
 ReturnsInHanded {} Tryz.checked os 4 .any (Rows.fnExactHonestSpec.pre6 enc Tryz.prog Tryz.f4 Rows.fnExactHonestRow.domain false) (Rows.fnExactHonestSpec.post enc Tryz.prog Tryz.f4 false true false false):=by
 refine returnsInHanded_of_change (C:=Tryz.checked) own started (by kernel_rfl) Tryz.func4
  (ChangeSpec.witness6 (enc:=enc) (C:=Tryz.checked) false ⟨#[],#[.agg #[.int .i64 0,.slice none 0 0]],[]⟩ 8 (by kernel_rfl) (by kernel_rfl) (by kernel_rfl) (by kernel_rfl)) ?_
 intro W base args ds gs before RD hW UF _
 have sL:∀(j:Nat) t v,Tryz.f4.params[j]? = some t->args[j]? = some v->Value.okWide Tryz.prog W .any base t v:=RD
 have Tq:=hW
 obtain⟨p,q,To,hV,rfl,UU,lR⟩:=hW
 have hA:DataW.TrodAll enc Tryz.prog W 0 (fun _=>true) true Tryz.f4.params.toList args.toList ds p:=To
 rw[show Tryz.f4.params = #[38] from by kernel_rfl] at hA sL
 obtain⟨v0,Vg,d0,UR,p0,q0,hargs,rfl,rfl,h0,r0⟩:=trodAll_cons hA
 obtain⟨rfl,rfl,rfl⟩:=trodAll_nil r0
 obtain rfl:args = #[v0]:=by cases args;simp_all
 obtain⟨rfl,rfl⟩:=trodVars_none hV
 obtain⟨x0,k0⟩:=Q9 (m:=12) (ty:=cA) (by kernel_rfl) (sL 0 38 v0 rfl rfl) h0
 have Uq:∀ x∈p0,x.block<W.heap.size:=by obtain⟨m,hm⟩:=h0;exact DataW.trod_lt m _ _ _ hm
 refine (K_ (ts:=[cA]) RN.1 (W:=W) (args:=[v0]) (d:=x0) ⟨v0,rfl,k0⟩).mono fun e W' ⟨he,RV⟩=>?_
 subst he
 exact⟨_,rfl,_,_,_,[],_,[],Tq,trodAll_mk1 (shut_bool (t:=4) (by kernel_rfl) _),(trodAll_cons_mk (Below.trod laidOut (by kernel_rfl) (of_decide_eq_true (by kernel_rfl)) h0 RV Uq) trodAll_mk0),rfl,RV.frame _,fun h=>by cases h⟩
theorem S_:Rows.fnExactHonestRow.holds Tryz.pinned (OpenSpec.ofChange Rows.fnExactHonestSpec) :=
 OpenClaim.holds_of_wide 4 Tryz.f4 rfl rfl rfl rfl rfl rfl rfl ⟨rfl,rfl,rfl,rfl,rfl⟩ rfl rfl rfl rfl rfl (by kernel_rfl) Tryz.func4 (by kernel_rfl)
  (of_decide_eq_true (by kernel_rfl)) (by unfold Func.isWrapper;first|(rw[if_pos (by decide +kernel)];kernel_rfl)|(rw[if_neg (by decide +kernel)];exact⟨rfl,rfl⟩))
  (fun os started H enc _=>lifted os started H enc)
theorem proved:Rows.FnExactHonestSaid:=S_
end Go.Proofs.YtobmiihdfklmaaaGreat
