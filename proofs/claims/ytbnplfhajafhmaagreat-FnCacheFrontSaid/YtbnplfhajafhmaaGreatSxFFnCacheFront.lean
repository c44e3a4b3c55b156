/- FnCacheFront returns true, whatever the input; its arguments read as they did. No condition. -/
import Derived.Test.YtbnplfhajafhmaaGreatSxQFnCacheFront
import Derived.Test.YtbnplfhajafhmaaGreatRows
import Derived.WalkKit
import Derived.ProofKit
import Derived.OpenShut
import Derived.ShutString
import Derived.ChangeOld
import Derived.Below
namespace Go.Proofs.YtbnplfhajafhmaaGreat
open Go.ChangeShapes Go.WideShapes Go.ChangeAt Go.RowKit Go.SX Go.SF
set_option linter.unusedVariables false
theorem own:ownKnob Tryz.prog.godebug=none:=by kernel_rfl
theorem laidOut:laidOutB Tryz.prog=true:=by kernel_rfl
set_option maxRecDepth 100000 in
theorem lifted(os:Os)(started:os.Started)(H:Type)(enc:TypeId×Value->H) :
 ReturnsInHanded {} Tryz.checked os 3 .any (Rows.fnCacheFrontSpec.pre6 enc Tryz.prog Tryz.f3 Rows.fnCacheFrontRow.domain false) (Rows.fnCacheFrontSpec.post enc Tryz.prog Tryz.f3 false true false false):=by
 refine returnsInHanded_of_change (C:=Tryz.checked) own started (by kernel_rfl) Tryz.func3
  (ChangeSpec.witness6 (enc:=enc) (C:=Tryz.checked) false ⟨#[],#[.slice none 0 0],[]⟩ 8 (by kernel_rfl) (by kernel_rfl) (by kernel_rfl) (by kernel_rfl)) ?_
 intro W base args ds gs before S2 hW XB _
 have iO:∀(j:Nat) t v,Tryz.f3.params[j]? = some t->args[j]? = some v->Value.okWide Tryz.prog W .any base t v:=S2
 have Vx:=hW
 obtain⟨p,q,Vn,hV,rfl,Rc,gE⟩:=hW
 have hA:DataW.TrodAll enc Tryz.prog W 0 (fun _=>true) true Tryz.f3.params.toList args.toList ds p:=Vn
 rw[show Tryz.f3.params = #[22] from by kernel_rfl] at hA iO
 obtain⟨v0,Ys,d0,XU,p0,q0,hargs,rfl,rfl,h0,r0⟩:=trodAll_cons hA
 obtain⟨rfl,rfl,rfl⟩:=trodAll_nil r0
 obtain rfl:args = #[v0]:=by cases args;simp_all
 obtain⟨rfl,rfl⟩:=trodVars_none hV
 obtain⟨x0,k0⟩:=Sm (m:=12) (ty:=.sl (.int .u8)) (by kernel_rfl) (iO 0 22 v0 rfl rfl) h0
 have Xd:∀ x∈p0,x.block<W.heap.size:=by obtain⟨m,hm⟩:=h0;exact DataW.trod_lt m _ _ _ hm
 refine (LP (ts:=[.sl (.int .u8)]) Ta.1 (W:=W) (args:=[v0]) (d:=x0) ⟨v0,rfl,k0⟩).mono fun e W' ⟨he,HY⟩=>?_
 subst he
 exact⟨_,rfl,_,_,_,[],_,[],Vx,trodAll_mk1 (shut_bool (t:=4) (by kernel_rfl) _),(trodAll_cons_mk (Below.trod laidOut (by kernel_rfl) (of_decide_eq_true (by kernel_rfl)) h0 HY Xd) trodAll_mk0),rfl,HY.frame _,fun h=>by cases h⟩
theorem U5:Rows.fnCacheFrontRow.holds Tryz.pinned (OpenSpec.ofChange Rows.fnCacheFrontSpec) :=
 OpenClaim.holds_of_wide 3 Tryz.f3 rfl rfl rfl rfl rfl rfl rfl ⟨rfl,rfl,rfl,rfl,rfl⟩ rfl rfl rfl rfl rfl (by kernel_rfl) Tryz.func3 (by kernel_rfl)
  (of_decide_eq_true (by kernel_rfl)) (by unfold Func.isWrapper;first|(rw[if_pos (by decide +kernel)];kernel_rfl)|(rw[if_neg (by decide +kernel)];exact⟨rfl,rfl⟩))
  (fun os started H enc _=>lifted os started H enc)
theorem proved:Rows.FnCacheFrontSaid:=U5
end Go.Proofs.YtbnplfhajafhmaaGreat
