/- The functions keep their contracts, part 2. No condition. -/
import Derived.Test.YtbnplfhajafhmaaGreatSxR1FnCacheFront
open Go.IntKind (i64 u8)
namespace Go.SF
open Go.SX Go.Proofs
set_option maxRecDepth 100000
set_option linter.unusedVariables false
theorem Hh:PK 8 sn :=
 mk (A:=mn) ay aP Tryz.func8 (by kernel_rfl) (by kernel_rfl) (by exact @link _ (aR bm (br []) R0 Tryz.f8 sn mn) (by kernel_rfl) HC)
theorem tH:PK 44 ki :=
 mk (A:=b_) ay aP Tryz.func44 (by kernel_rfl) (by kernel_rfl) (by exact @link _ (aR bm (br []) R0 Tryz.f44 ki b_) (by kernel_rfl) B_)
theorem vt:PK 37 lp :=
 mk (A:=b_) (ak tH ay) aP Tryz.func37 (by kernel_rfl) (by kernel_rfl) (by exact @link _ (aR bm (br [(44,ki)]) R0 Tryz.f37 lp b_) (by kernel_rfl) DH)
theorem rY:TK 36 im :=
 tv (A:=vF) (ak vt ay) (og cP) Tryz.func36 (by kernel_rfl) (by kernel_rfl) (by exact @link _ (nh bm (br [(37,lp)]) (fP [(1000000,uV)]) Tryz.f36 im vF) (by kernel_rfl) B9)
theorem tG:RK 36 (fN im):=⟨pn rY.1,rY.2⟩
theorem yw:PK 39 oJ :=
 mk (A:=b_) ay aP Tryz.func39 (by kernel_rfl) (by kernel_rfl) (by exact @link _ (aR bm (br []) R0 Tryz.f39 oJ b_) (by kernel_rfl) HB)
theorem wF:PK 52 mF :=
 mk (A:=xO) (ak yw ay) aP Tryz.func52 (by kernel_rfl) (by kernel_rfl) (by exact @link _ (aR bm (br [(39,oJ)]) R0 Tryz.f52 mF xO) (by kernel_rfl) GH)
theorem BO:PK 55 nT :=
 mk (A:=b_) ay aP Tryz.func55 (by kernel_rfl) (by kernel_rfl) (by exact @link _ (aR bm (br []) R0 Tryz.f55 nT b_) (by kernel_rfl) B8)
theorem FY:PK 54 qI :=
 mk (A:=b_) (ak BO ay) aP Tryz.func54 (by kernel_rfl) (by kernel_rfl) (by exact @link _ (aR bm (br [(55,nT)]) R0 Tryz.f54 qI b_) (by kernel_rfl) GG)
theorem AT:PK 53 (mD 54) :=
 mk (A:=sQ) (ak FY ay) aP Tryz.func53 (by kernel_rfl) (by kernel_rfl) (by exact @link _ (aR bm (br [(54,qI)]) R0 Tryz.f53 (mD 54) sQ) (by kernel_rfl) Ba)
theorem sI:PK 40 kW :=
 mk (A:=b_) (ak AT ay) aP Tryz.func40 (by kernel_rfl) (by kernel_rfl) (by exact @link _ (aR bm (br [(53,(mD 54))]) R0 Tryz.f40 kW b_) (by kernel_rfl) Hy)
theorem yv:PK 38 oH :=
 mk (A:=zJ) (ak wF (ak sI ay)) aP Tryz.func38 (by kernel_rfl) (by kernel_rfl) (by exact @link _ (aR bm (br [(52,mF),(40,kW)]) R0 Tryz.f38 oH zJ) (by kernel_rfl) Hz)
section
open Go.RowKit Go.Lib Go.Sort
theorem lf:Tryz.prog.follows .mixedOrders=true:=by kernel_rfl
theorem nA:Tryz.prog.underlying 0=some (TypeDesc.tuple #[]):=by kernel_rfl
theorem nv:∀ w,(isAgg 0).run Tryz.prog w = .ok false w:=fun w=>by kernel_rfl
theorem nI:∀ w,(Go.sizeOf 0).run Tryz.prog w = .ok 1 w:=fun w=>by kernel_rfl
theorem nE:∀ w,(zeroValue 0).run Tryz.prog w = .ok (Value.tuple #[]) w:=fun w=>by kernel_rfl
theorem nB:Tryz.prog.underlying 3=some (TypeDesc.int i64):=by kernel_rfl
theorem nw:∀ w,(isAgg 3).run Tryz.prog w = .ok false w:=fun w=>by kernel_rfl
theorem nJ:∀ w,(Go.sizeOf 3).run Tryz.prog w = .ok 1 w:=fun w=>by kernel_rfl
theorem nF:∀ w,(zeroValue 3).run Tryz.prog w = .ok (Value.int i64 0) w:=fun w=>by kernel_rfl
theorem nC:Tryz.prog.underlying 4=some TypeDesc.bool:=by kernel_rfl
theorem ny:∀ w,(isAgg 4).run Tryz.prog w = .ok false w:=fun w=>by kernel_rfl
theorem nK:∀ w,(Go.sizeOf 4).run Tryz.prog w = .ok 1 w:=fun w=>by kernel_rfl
theorem nG:∀ w,(zeroValue 4).run Tryz.prog w = .ok (Value.bool false) w:=fun w=>by kernel_rfl
theorem nD:Tryz.prog.underlying 24=some (TypeDesc.slice 40):=by kernel_rfl
theorem nz:∀ w,(isAgg 24).run Tryz.prog w = .ok false w:=fun w=>by kernel_rfl
theorem nL:∀ w,(Go.sizeOf 24).run Tryz.prog w = .ok 1 w:=fun w=>by kernel_rfl
theorem nH:∀ w,(zeroValue 24).run Tryz.prog w = .ok (Value.slice none 0 0) w:=fun w=>by kernel_rfl
set_option maxHeartbeats 4000000 in
set_option maxRecDepth 1000000 in
theorem tD(v:Value)(i:Nat)(w:World)(hv:v = .slice none 0 0/\i=0\/∃ aE n cap,v = .slice (some ⟨aE,0,none⟩) n cap/\n<=cap/\i<=n) :
 Calls Tryz.prog 41 #[v,.int .i64 i,.int .i64 i] w fun e w'=>e = .returned v/\w'=w:=by
 have mixed:=lf;have t0:=nA;have a0:=nv;have z0:=nI;have v0:=nE;have t3:=nB;have a3:=nw;have z3:=nJ;have v3:=nF;have t4:=nC;have a4:=ny;have z4:=nK;have v4:=nG;have tS:=nD;have aS:=nz;have zS:=nL;have vS:=nH
 rcases hv with ⟨rfl,rfl⟩|⟨aE,n,cap,rfl,h1,h2⟩
 ·go_enter Tryz.func41,Tryz.ntmps41
  go_wp2
  all_goals (go_ret;exact⟨rfl,rfl⟩)
 ·go_enter Tryz.func41,Tryz.ntmps41
  go_wp2
  all_goals (go_ret;exact⟨rfl,rfl⟩)
set_option maxHeartbeats 4000000 in
set_option maxRecDepth 1000000 in
theorem uI(aE n cap i j:Nat)(news:List Value)(w:World)(Uw:n<=cap)(Ik:i<j)(hj:j<=n)(hl:news.length=(n-j)*4)
 (we:∀ t u,news[t]? = some u->w.cell? ⟨aE,j*4+t,none⟩=some u) (tc:∀ u∈news,u.oneCell'=true)
 (vp:∀ t,t<n*4->(w.cell? ⟨aE,t,none⟩).isSome=true/\w.frozen? ⟨aE,t,none⟩=false) :
 Calls Tryz.prog 41 #[.slice (some ⟨aE,0,none⟩) n cap,.int .i64 i,.int .i64 j] w fun e w'=>e = .returned (.slice (some ⟨aE,0,none⟩) (i+(n-j)) cap) ∧
  ∃ zs:List Value,zs.length=(n-(i+(n-j)))*4/\w'=(w.drew.setCells aE (i*4) news).setCells aE ((i+(n-j))*4) zs:=by
 have mixed:=lf;have t0:=nA;have a0:=nv;have z0:=nI;have v0:=nE;have t3:=nB;have a3:=nw;have z3:=nJ;have v3:=nF;have t4:=nC;have a4:=ny;have z4:=nK;have v4:=nG;have tS:=nD;have aS:=nz;have zS:=nL;have vS:=nH
 obtain⟨i0,nk,qZ⟩:∃ i0,Tryz.prog.info? 40=some i0/\i0.size=4:=Option.map_eq_some_iff.1 (show (Tryz.prog.info? 40).map (fun i=>i.size)=some 4 by kernel_rfl)
 have vE:∀ w,(zeroValue 40).run Tryz.prog w = .ok (.agg #[.slice none 0 0,.int .i64 0,.slice none 0 0,.slice none 0 0]) w:=fun w=>by kernel_rfl
 obtain⟨A,hA,S1⟩:∃ A:Addr,(if cap=j then some (⟨aE,0,none⟩:Addr) else some ⟨aE,j*4,none⟩)=some A/\Hid (∀ t u,news[t]? = some u->w.drew.cell? (A.add t)=some u):=by
  by_cases h:cap=j
  ·refine⟨⟨aE,0,none⟩,by simp[h],fun t u hu=>?_⟩
   have h0:news.length=0:=by rw[hl];omega
   rw[List.length_eq_zero_iff.1 h0] at hu
   simp at hu
  ·exact⟨⟨aE,j*4,none⟩,by simp[h],fun t u hu=>by rw[Addr.add_lit];exact we t u hu⟩
 have s1:Hid (news.length=(n-j)*4):=hl
 have s2:Hid (∀ u∈news,u.oneCell'=true):=tc
 have s3:Hid (∀ t,t<news.length->(w.drew.cell? ⟨aE,0+i*4+t,none⟩).isSome=true/\w.drew.frozen? ⟨aE,0+i*4+t,none⟩=false):=by
  intro t ht
  rw[hl] at ht
  rw[Nat.zero_add]
  exact vp (i*4+t) (by omega)
 obtain⟨W1,pR⟩:∃ W1,W1=w.drew.setCells aE (0+i*4) news:=⟨_,rfl⟩
 have Fg:∀ t,t<n*4->(W1.cell? ⟨aE,t,none⟩).isSome=true/\W1.frozen? ⟨aE,t,none⟩=false:=by
  intro t ht
  subst pR
  refine⟨?_,by rw[World.frozen?_setCells];exact (vp t ht).2⟩
  by_cases rQ:i*4<=t/\t<i*4+news.length
  ·have h2:=World.cell?_setCells_in aE news (0+i*4) w.drew (fun k hk=>(s3.out k hk).1) (t-i*4) (by omega)
   rw[show 0+i*4+(t-i*4)=t by omega] at h2
   rw[h2];rfl
  ·rw[World.cell?_setCells_out aE news _ _ _ (fun _ _=>by show t<0+i*4\/0+i*4+news.length<=t;omega)]
   exact (vp t ht).1
 obtain⟨zs,jh,gC⟩:∃ zs:List Value,zs.length=(n-(i+(n-j)))*4/\∀ ty,(Builtin.clear_ #[24] ty #[.slice (some ⟨aE,(i+(n-j))*4,none⟩) (n-(i+(n-j))) (cap-(i+(n-j)))]).run Tryz.prog W1 = .ok (.tuple #[]) (W1.setCells aE ((i+(n-j))*4) zs):=by
  refine⟨(Builtin.zeroCells (Value.agg #[.slice none 0 0,.int .i64 0,.slice none 0 0,.slice none 0 0]).cells (n-(i+(n-j)))).toList,by simp[Builtin.zeroCells,Value.cells],fun ty=>?_⟩
  refine B1 W1 _ _ ty _ tS vE (by simp[Value.cells,Value.oneCell']) (by simp[Value.cells]) aE _ _ _ (by omega) (fun t ht=>?_) (fun t ht=>?_)
  ·have h2:(Value.agg #[.slice none 0 0,.int .i64 0,.slice none 0 0,.slice none 0 0]).cells.size=4:=rfl
   rw[h2] at ht
   exact (Fg _ (by omega)).1
  ·have h2:(Value.agg #[.slice none 0 0,.int .i64 0,.slice none 0 0,.slice none 0 0]).cells.size=4:=rfl
   rw[h2] at ht
   exact (Fg _ (by omega)).2
 have hW:Hid (W1=w.drew.setCells aE (0+i*4) news):=pR
 have X3:i<=cap:=by omega
 have X4:j<=cap:=by omega
 clear pR Fg vp we hl vE
 go_enter Tryz.func41,Tryz.ntmps41
 go_wp2_with fail
 go_region_law_o (refine step_append_room rfl (.tmp 22) (.tmp 25) 24 rfl 40 i0 4 tS nk qZ aE 0 i cap (by simp[Act.eval,Act.put]) A (n-j) (cap-j) news (by simp[Act.eval,Act.put]) s1.out S1.out s2.out (by omega) s3.out ?_;rw[<-hW.out])
 go_wp2
 all_goals (go_ret;refine⟨rfl,zs,jh,?_⟩;rw[hW.out,Nat.zero_add])
theorem pg:RK 41 (s5 dx) :=
 ⟨MZ ⟨tD,uI⟩,_,Tryz.func41,by kernel_rfl,by kernel_rfl⟩
end
section
open Go.RowKit Go.Lib Go.Sort
theorem hO:Tryz.prog.follows .mixedOrders=true:=by kernel_rfl
theorem jD:Tryz.prog.underlying 0=some (TypeDesc.tuple #[]):=by kernel_rfl
theorem jy:∀ w,(isAgg 0).run Tryz.prog w = .ok false w:=fun w=>by kernel_rfl
theorem jK:∀ w,(Go.sizeOf 0).run Tryz.prog w = .ok 1 w:=fun w=>by kernel_rfl
theorem jG:∀ w,(zeroValue 0).run Tryz.prog w = .ok (Value.tuple #[]) w:=fun w=>by kernel_rfl
theorem jE:Tryz.prog.underlying 3=some (TypeDesc.int i64):=by kernel_rfl
theorem jz:∀ w,(isAgg 3).run Tryz.prog w = .ok false w:=fun w=>by kernel_rfl
theorem jL:∀ w,(Go.sizeOf 3).run Tryz.prog w = .ok 1 w:=fun w=>by kernel_rfl
theorem jH:∀ w,(zeroValue 3).run Tryz.prog w = .ok (Value.int i64 0) w:=fun w=>by kernel_rfl
theorem jF:Tryz.prog.underlying 4=some TypeDesc.bool:=by kernel_rfl
theorem jA:∀ w,(isAgg 4).run Tryz.prog w = .ok false w:=fun w=>by kernel_rfl
theorem jM:∀ w,(Go.sizeOf 4).run Tryz.prog w = .ok 1 w:=fun w=>by kernel_rfl
theorem jI:∀ w,(zeroValue 4).run Tryz.prog w = .ok (Value.bool false) w:=fun w=>by kernel_rfl
theorem gy:Tryz.prog.underlying 24=some (TypeDesc.slice 40):=by kernel_rfl
theorem jB:∀ w,(isAgg 24).run Tryz.prog w = .ok false w:=fun w=>by kernel_rfl
theorem jN:∀ w,(Go.sizeOf 24).run Tryz.prog w = .ok 1 w:=fun w=>by kernel_rfl
theorem jJ:∀ w,(zeroValue 24).run Tryz.prog w = .ok (Value.slice none 0 0) w:=fun w=>by kernel_rfl
theorem nM:∀ w,(Go.sizeOf 40).run Tryz.prog w = .ok 4 w:=fun w=>by kernel_rfl
theorem jC:(Tryz.prog.info? 40).map (fun i=>(i.zero,i.size,i.bytes))=some (some (Value.agg #[.slice none 0 0,.int .i64 0,.slice none 0 0,.slice none 0 0]),4,80):=by kernel_rfl
set_option maxHeartbeats 4000000 in
set_option maxRecDepth 1000000 in
theorem sH(b n c i vb m vc:Nat)(cs vs:List Value)(w:World)(hi:i<n)(hm:0<m)(oQ:n+m<=c)(v7:n+m<=140737488355328)(T4:vb≠b)(gC:cs.length=n*4)(vq:vs.length=m*4)
 (eH:∀ j v,cs[j]? = some v->w.cell? ⟨b,j,none⟩=some v) (vp:∀ j,j<(n+m)*4->(w.cell? ⟨b,j,none⟩).isSome=true) (Rc:∀ j,w.frozen? ⟨b,j,none⟩=false)
 (vr:∀ j v,vs[j]? = some v->w.cell? ⟨vb,j,none⟩=some v) (tc:∀ v∈cs,v.oneCell'=true) (QY:∀ v∈vs,v.oneCell'=true)
 (tA tB:TypeId) (kA kB:Nat) (WI:w.shape? vb=some (tA,kA)) (TW:w.shape? b=some (tB,kB)) (Wh:kB≠0) (V6:w.frozen? ⟨vb,0,none⟩=false) (o9:w.frozen? ⟨vb,kA,none⟩=false) :
 Calls Tryz.prog 42 #[.slice (some ⟨b,0,none⟩) n c,.int .i64 i,.slice (some ⟨vb,0,none⟩) m vc] w fun e w' =>
  e = .returned (.slice (some ⟨b,0,none⟩) (n+m) c)/\w'=(w.drew.setCells b ((i+m)*4) (cs.drop (i*4))).setCells b (i*4) vs:=by
 have mixed:=hO;have t0:=jD;have a0:=jy;have z0:=jK;have v0:=jG;have t3:=jE;have a3:=jz;have z3:=jL;have v3:=jH;have t4:=jF;have a4:=jA;have z4:=jM;have v4:=jI;have tS:=gy;have aS:=jB;have zS:=jN;have vS:=jJ
 have zE:=nM
 obtain⟨i0,nk,la,jh,Ly⟩:=info_parts jC
 have qZ:¬((m:Int)=0):=by omega
 have OX:¬((i:Int)=(n:Int)):=by omega
 have OO:∀ lb cb,(callFunc 56 #[.slice (some ⟨vb,0,none⟩) m vc,.slice (some ⟨b,(i+m)*4,none⟩) lb cb]).run Tryz.prog w = .ok (.value (.bool false)) w:=fun lb cb=>by
  rw[run_callFunc_extern Tryz.func56 (by kernel_rfl) (by kernel_rfl) (by kernel_rfl) (e:=Extern.SlicesOverlaps.overlaps #[24,24] #[4]) (by kernel_rfl),
   Lib.run_overlaps_apart w 24 4 40 tS 4 zE ⟨vb,0,none⟩ ⟨b,(i+m)*4,none⟩ m vc lb cb T4 tA tB kA kB WI TW Wh V6 o9]
  rfl
 have Ih:(cs.drop (i*4)).length=(n-i)*4:=by rw[List.length_drop,gC];omega
 have eI:i64.wrap ((i:Int)+(m:Int))=(i:Int)+(m:Int):=by rw[IntKind.wrap_i64];omega
 have wj:i64.wrap ((n:Int)+(m:Int))=(n:Int)+(m:Int):=by rw[IntKind.wrap_i64];omega
 have dW:(0:Int)<=(i:Int)+(m:Int):=by omega
 have rQ:i<=n:=by omega
 have WK:((i:Int)+(m:Int)).toNat=i+m:=by omega
 have XK:((n:Int)+(m:Int)).toNat=n+m:=by omega
 have jW:¬(c=i+m):=by omega
 have Tw:(i:Int)<=(n:Int)+(m:Int):=by omega
 have Lb:¬(c=i):=by omega
 have Q9:∀ ty dc sc,(Builtin.copy_ #[24,24] ty #[.slice (some ⟨b,(i+m)*4,none⟩) (n+m-(i+m)) dc,.slice (some ⟨b,i*4,none⟩) (n+m-i) sc]).run Tryz.prog w.drew = .ok (goInt (n-i:Nat)) (w.drew.setCells b ((i+m)*4) (cs.drop (i*4))):=fun ty dc sc =>
  Go.SX.lx w.drew _ _ ty 40 i0 b ((i+m)*4) (n+m-(i+m)) dc ⟨b,i*4,none⟩ (n+m-i) sc (n-i) (cs.drop (i*4)) tS nk (by simp only[Nat.min_def];split<;>omega) (by rw[jh,Ih])
   (fun j v hj=>by rw[Addr.add_lit];exact eH (i*4+j) v (by rwa [List.getElem?_drop] at hj))
   (fun j hj=>vp _ (by omega)) (fun j hj=>Rc _) (fun v hv=>tc v (List.mem_of_mem_drop hv))
 obtain⟨W1,pR⟩:∃ W1,W1=w.drew.setCells b ((i+m)*4) (cs.drop (i*4)):=⟨_,rfl⟩
 have Fg:∀ k,k<(n+m)*4->(W1.cell? ⟨b,k,none⟩).isSome=true:=fun k hk=>by
  rw[pR]
  exact Go.SX.ra b (cs.drop (i*4)) ((i+m)*4) w.drew (fun j hj=>vp _ (by omega)) _ (vp k hk)
 have Ux:∀(W:World),(∀ x,W.cell? x=W1.cell? x)->(∀ x,W.frozen? x=W1.frozen? x)->∀ ty dc,(Builtin.copy_ #[24,24] ty #[.slice (some ⟨b,i*4,none⟩) (n+m-i) dc,.slice (some ⟨vb,0,none⟩) m vc]).run Tryz.prog W = .ok (goInt m) (W.setCells b (i*4) vs):=fun W CP K7 ty dc =>
  Go.SX.lx W _ _ ty 40 i0 b (i*4) (n+m-i) dc ⟨vb,0,none⟩ m vc m vs tS nk (by simp only[Nat.min_def];split<;>omega) (by rw[jh,vq])
   (fun j v hj=>by
     rw[Addr.add_lit,Nat.zero_add,CP,pR,World.cell?_setCells_out b _ _ _ _ (fun h _=>absurd h T4)]
     exact vr j v hj)
   (fun j hj=>by rw[CP];exact Fg _ (by omega)) (fun j hj=>by rw[K7,pR,World.frozen?_setCells];exact Rc _) QY
 rw[<-pR] at Q9
 go_enter Tryz.func42,Tryz.ntmps42
 go_wp2_with (simp only[OO])
 go_region_law_o (refine Go.SX.w3 rfl _ _ 24 24 rfl _ _ (by simp[Act.eval,Act.put]) (by simp[Act.eval,Act.put]) (Q9 _ _ _) ?_)
 go_wp2_with (at_builtin;refine Go.SX.oB _ rfl _ _ 24 24 rfl _ _ rfl rfl (Ux _ (fun _=>rfl) (fun _=>rfl) _ _) ?_)
 go_ret
 first|exact⟨rfl,rfl⟩|exact⟨rfl,by rw[pR]⟩
set_option maxHeartbeats 4000000 in
set_option maxRecDepth 1000000 in
theorem tE(b n c i vb m vc:Nat)(cs vs:List Value)(w:World)(hi:i<n)(hm:0<m)(TR:n<=c)(oQ:c<n+m)(v7:(n+m)*80<=140737488355328)(gC:cs.length=n*4)(vq:vs.length=m*4)
 (eH:∀ j v,cs[j]? = some v->w.cell? ⟨b,j,none⟩=some v)
 (vr:∀ j v,vs[j]? = some v->w.cell? ⟨vb,j,none⟩=some v) (tc:∀ v∈cs,v.oneCell'=true) (QY:∀ v∈vs,v.oneCell'=true) :
 Calls Tryz.prog 42 #[.slice (some ⟨b,0,none⟩) n c,.int .i64 i,.slice (some ⟨vb,0,none⟩) m vc] w fun e w' =>
  e = .returned (.slice (some ⟨w.heap.size,0,none⟩) (n+m) (grownCap w (n+m) c 40)) ∧
  w'=(((w.alloc (.cells ((cs.take (i*4)).toArray++Builtin.zeroCells (Value.agg #[.slice none 0 0,.int .i64 0,.slice none 0 0,.slice none 0 0]).cells (n+m-i)++Builtin.zeroCells (Value.agg #[.slice none 0 0,.int .i64 0,.slice none 0 0,.slice none 0 0]).cells (grownCap w (n+m) c 40-(n+m))) 40)).drew.setCells w.heap.size (i*4) vs).drew).setCells w.heap.size ((i+m)*4) (cs.drop (i*4)):=by
 have mixed:=hO;have t0:=jD;have a0:=jy;have z0:=jK;have v0:=jG;have t3:=jE;have a3:=jz;have z3:=jL;have v3:=jH;have t4:=jF;have a4:=jA;have z4:=jM;have v4:=jI;have tS:=gy;have aS:=jB;have zS:=jN;have vS:=jJ
 have zE:=nM
 obtain⟨i0,nk,la,jh,Ly⟩:=info_parts jC
 have qZ:¬((m:Int)=0):=by omega
 have OX:¬((i:Int)=(n:Int)):=by omega
 have T7:(c:Int)<(n:Int)+(m:Int):=by omega
 have VW:b<w.heap.size:=block_lt_of_cell (eH 0 _ (List.getElem?_eq_getElem (by omega)))
 have WM:vb<w.heap.size:=block_lt_of_cell (vr 0 _ (List.getElem?_eq_getElem (by omega)))
 have TM:(n:Int)+(m:Int)-(i:Int)=((n+m-i:Nat):Int):=by omega
 have gD:i+(n+m-i)=n+m:=by omega
 have hold:(Builtin.firstCells i0.size i (.slice (some ⟨b,0,none⟩) i c)).run Tryz.prog w.drew = .ok (cs.take (i*4)).toArray w.drew:=by
  rw[jh]
  exact run_firstCells_some w.drew 4 i ⟨b,0,none⟩ i c (cs.take (i*4)) (by rw[List.length_take];omega) (fun j v hj=>by
   rw[Addr.add_lit,Nat.zero_add]
   rw[List.getElem?_take] at hj
   split at hj
   ·exact eH j v hj
   ·cases hj)
 have OR:∀ ty,(Builtin.append_ #[24,3] ty #[.slice (some ⟨b,0,none⟩) i c,.int .i64 ((n:Int)+(m:Int)-(i:Int))]).run Tryz.prog w =
  .ok (.slice (some ⟨w.heap.size,0,none⟩) (n+m) (grownCap w (n+m) c 40)) (w.drew.alloc (.cells ((cs.take (i*4)).toArray++Builtin.zeroCells (Value.agg #[.slice none 0 0,.int .i64 0,.slice none 0 0,.slice none 0 0]).cells (n+m-i)++Builtin.zeroCells (Value.agg #[.slice none 0 0,.int .i64 0,.slice none 0 0,.slice none 0 0]).cells (grownCap w (n+m) c 40-(n+m))) 40)):=fun ty=>by
  have h:=Lib.run_append_grow_zeros w 24 3 ty 40 i0 _ .i64 .i64 tS t3 nk la (some ⟨b,0,none⟩) i c (cs.take (i*4)) hold (n+m-i) (by omega) (by omega) (by omega) (by omega) (by rw[Ly];omega) (by rw[Ly,gD];exact growslice_fits oQ v7)
  rw[gD] at h
  rw[TM]
  exact h
 obtain⟨G,hG⟩:∃ G,G=grownCap w (n+m) c 40:=⟨_,rfl⟩
 obtain⟨ic,yY⟩:∃ ic:Array Value,ic=(cs.take (i*4)).toArray++Builtin.zeroCells (Value.agg #[.slice none 0 0,.int .i64 0,.slice none 0 0,.slice none 0 0]).cells (n+m-i)++Builtin.zeroCells (Value.agg #[.slice none 0 0,.int .i64 0,.slice none 0 0,.slice none 0 0]).cells (G-(n+m)):=⟨_,rfl⟩
 rw[<-hG] at OR ⊢
 rw[<-yY] at OR ⊢
 have Vv:(n+m)*4<=ic.size:=by
  rw[yY]
  simp[Builtin.zeroCells,Value.cells]
  omega
 obtain⟨W1,pR⟩:∃ W1,W1=w.drew.alloc (.cells ic 40):=⟨_,rfl⟩
 rw[<-pR] at OR
 have hN:∀ j,j<(n+m)*4->(W1.cell? ⟨w.heap.size,j,none⟩).isSome=true:=fun j hj=>by
  rw[pR,World.cell?_alloc_at (w:=w.drew) ic _ w.heap.size j rfl,Array.getElem?_eq_getElem (by omega)];rfl
 have Tu:∀ j,W1.frozen? ⟨w.heap.size,j,none⟩=false:=fun j=>by rw[pR];exact World.frozen?_alloc_at (w:=w.drew) ic _ w.heap.size j rfl
 have Vs:∀ j v,w.cell? ⟨b,j,none⟩=some v->W1.cell? ⟨b,j,none⟩=some v:=fun j v h=>by rw[pR,World.cell?_alloc_past (w:=w.drew) _ b j VW];exact h
 have Vt:∀ j v,w.cell? ⟨vb,j,none⟩=some v->W1.cell? ⟨vb,j,none⟩=some v:=fun j v h=>by rw[pR,World.cell?_alloc_past (w:=w.drew) _ vb j WM];exact h
 have Uy:∀(W:World),(∀ x,W.cell? x=W1.cell? x)->(∀ x,W.frozen? x=W1.frozen? x)->∀ ty dc,(Builtin.copy_ #[24,24] ty #[.slice (some ⟨w.heap.size,i*4,none⟩) (n+m-i) dc,.slice (some ⟨vb,0,none⟩) m vc]).run Tryz.prog W = .ok (goInt m) (W.setCells w.heap.size (i*4) vs):=fun W CP K7 ty dc =>
  Go.SX.lx W _ _ ty 40 i0 w.heap.size (i*4) (n+m-i) dc ⟨vb,0,none⟩ m vc m vs tS nk (by simp only[Nat.min_def];split<;>omega) (by rw[jh,vq])
   (fun j v hj=>by rw[Addr.add_lit,Nat.zero_add,CP];exact Vt _ v (vr j v hj))
   (fun j hj=>by rw[CP];exact hN _ (by omega)) (fun j hj=>by rw[K7];exact Tu _) QY
 have XY:n+m<=G:=by rw[hG];exact grownCap_ge w _ _ _
 have XX:¬(G=i):=by omega
 have XA:¬(G=i+m):=by omega
 have Tx:¬(c=i):=by omega
 have VU:b≠w.heap.size:=by omega
 have Ih:(cs.drop (i*4)).length=(n-i)*4:=by rw[List.length_drop,gC];omega
 have Q_:∀(W:World),(∀ x,W.cell? x=(W1.setCells w.heap.size (i*4) vs).cell? x)->(∀ x,W.frozen? x=(W1.setCells w.heap.size (i*4) vs).frozen? x)->∀ ty dc sc,(Builtin.copy_ #[24,24] ty #[.slice (some ⟨w.heap.size,(i+m)*4,none⟩) (n+m-(i+m)) dc,.slice (some ⟨b,i*4,none⟩) (n-i) sc]).run Tryz.prog W = .ok (goInt (n-i:Nat)) (W.setCells w.heap.size ((i+m)*4) (cs.drop (i*4))):=fun W CP K7 ty dc sc =>
  Go.SX.lx W _ _ ty 40 i0 w.heap.size ((i+m)*4) (n+m-(i+m)) dc ⟨b,i*4,none⟩ (n-i) sc (n-i) (cs.drop (i*4)) tS nk (by simp only[Nat.min_def];split<;>omega) (by rw[jh,Ih])
   (fun j v hj=>by
     rw[Addr.add_lit,CP,World.cell?_setCells_out _ _ _ _ _ (fun h _=>absurd h VU)]
     exact Vs _ v (eH (i*4+j) v (by rwa [List.getElem?_drop] at hj)))
   (fun j hj=>by rw[CP];exact Go.SX.ra _ _ _ _ (fun t ht=>hN _ (by omega)) _ (hN _ (by omega)))
   (fun j hj=>by rw[K7,World.frozen?_setCells];exact Tu _) (fun v hv=>tc v (List.mem_of_mem_drop hv))
 subst pR
 have OA:∀ x,((w.alloc (.cells ic 40)).drew).cell? x=(w.drew.alloc (.cells ic 40)).cell? x:=fun x=>rfl
 have ET:∀ x,((w.alloc (.cells ic 40)).drew).frozen? x=(w.drew.alloc (.cells ic 40)).frozen? x:=fun x=>rfl
 have Vp:∀ x,(((w.alloc (.cells ic 40)).drew.setCells w.heap.size (i*4) vs).drew).cell? x=((w.drew.alloc (.cells ic 40)).setCells w.heap.size (i*4) vs).cell? x:=fun x=>rfl
 have Vq:∀ x,(((w.alloc (.cells ic 40)).drew.setCells w.heap.size (i*4) vs).drew).frozen? x=((w.drew.alloc (.cells ic 40)).setCells w.heap.size (i*4) vs).frozen? x:=fun x=>rfl
 have eI:i64.wrap ((i:Int)+(m:Int))=(i:Int)+(m:Int):=by rw[IntKind.wrap_i64];omega
 have wj:i64.wrap ((n:Int)+(m:Int))=(n:Int)+(m:Int):=by rw[IntKind.wrap_i64];omega
 have T5:i64.wrap ((n:Int)+(m:Int)-(i:Int))=(n:Int)+(m:Int)-(i:Int):=by rw[IntKind.wrap_i64];omega
 have dW:(0:Int)<=(i:Int)+(m:Int):=by omega
 have rQ:i<=n:=by omega
 have WK:((i:Int)+(m:Int)).toNat=i+m:=by omega
 have Tw:(i:Int)<=(n:Int):=by omega
 clear TM gD hold yY hG Vv
 go_enter Tryz.func42,Tryz.ntmps42
 go_wp2_with (first
  | (at_builtin;refine Lib.wpList_append_run _ rfl _ _ _ _ rfl _ _ rfl rfl _ _ (OR _) ?_)
  | (at_builtin;refine Go.SX.oB _ rfl _ _ 24 24 rfl _ _ rfl rfl (Uy _ OA ET _ _) ?_)
  | (at_builtin;refine Go.SX.oB _ rfl _ _ 24 24 rfl _ _ rfl rfl (Q_ _ (fun _=>rfl) (fun _=>rfl) _ _ _) ?_))
 go_region_law_o (refine Go.SX.w3 rfl _ _ 24 24 rfl (.slice (some ⟨w.heap.size,(i+m)*4,none⟩) (n+m-(i+m)) (G-(i+m))) (.slice (some ⟨b,i*4,none⟩) (n-i) (c-i)) (by simp[Act.eval,Act.put]) (by simp[Act.eval,Act.put]) (Q_ _ Vp Vq 3 (G-(i+m)) (c-i)) ?_)
 go_wp2
 go_ret
 exact⟨rfl,rfl⟩
set_option maxHeartbeats 4000000 in
set_option maxRecDepth 100000 in
theorem uJ(base:Option Addr)(n c vb m vc:Nat)(w:World)(hm:0<m)(TR:n<=c){v':Value}{w':World}
 (dM:∀ ty,(Builtin.append_ #[24,24] ty #[.slice base n c,.slice (some ⟨vb,0,none⟩) m vc]).run Tryz.prog w = .ok v' w') :
 Calls Tryz.prog 42 #[.slice base n c,.int .i64 n,.slice (some ⟨vb,0,none⟩) m vc] w fun e SH=>e = .returned v'/\SH=w':=by
 have mixed:=hO;have t0:=jD;have a0:=jy;have z0:=jK;have v0:=jG;have t3:=jE;have a3:=jz;have z3:=jL;have v3:=jH;have t4:=jF;have a4:=jA;have z4:=jM;have v4:=jI;have tS:=gy;have aS:=jB;have zS:=jN;have vS:=jJ
 have qZ:¬((m:Int)=0):=by omega
 go_enter Tryz.func42,Tryz.ntmps42
 cases base with
 | none =>
   go_wp2_with (at_builtin;refine Lib.wpList_append_run _ rfl _ _ _ _ rfl _ _ rfl rfl _ _ (dM _) ?_)
   all_goals (go_ret;exact⟨rfl,rfl⟩)
 | some a =>
   obtain⟨ab,ao,XQ⟩:=a
   go_wp2_with (at_builtin;refine Lib.wpList_append_run _ rfl _ _ _ _ rfl _ _ rfl rfl _ _ (dM _) ?_)
   all_goals (go_ret;exact⟨rfl,rfl⟩)
theorem ph:RK 42 (tr dx 80) :=
 ⟨Nu (z:=Value.agg #[.slice none 0 0,.int .i64 0,.slice none 0 0,.slice none 0 0]) ⟨gy,jC,rfl,by decide,by decide,sH,tE,uJ⟩,_,Tryz.func42,by kernel_rfl,by kernel_rfl⟩
end
theorem Dw:RK 43 (lC px) :=
 L5 (A:=qz) (ak wF ay) aP Tryz.func43 (by kernel_rfl) (by kernel_rfl) rfl (by exact @link _ (tN bm (br [(52,mF)]) R0 Tryz.f43 px qz) (by kernel_rfl) vB)
theorem yC:TK 23 pZ :=
 tv (A:=Ec) (ak vt (ak yv (ak yw (ak sI ay)))) (og (aG tG (aG pg (aG ph (aG Dw cP))))) Tryz.func23 (by kernel_rfl) (by kernel_rfl) (by exact @link _ (nh bm (br [(37,lp),(38,oH),(39,oJ),(40,kW)]) (fP [(1000000,uV),(36,fN im),(41,(s5 dx)),(42,(tr dx 80)),(43,lC px)]) Tryz.f23 pZ Ec) (by kernel_rfl) Ko)
theorem J1:RK 23 (fN pZ):=⟨pn yC.1,yC.2⟩
theorem yB:TK 7 Aj :=
 tv (A:=b_) ay (og (aG J1 cP)) Tryz.func7 (by kernel_rfl) (by kernel_rfl) (by exact @link _ (nh bm (br []) (fP [(1000000,uV),(23,fN pZ)]) Tryz.f7 Aj b_) (by kernel_rfl) Kn)
theorem Mi:PK 7 CH:=⟨rk yB.1,yB.2⟩
theorem wR:TK 24 oI :=
 tv (A:=b_) (ak sI (ak yv (ak tH ay))) (og (aG tG (aG pg (aG ph cP)))) Tryz.func24 (by kernel_rfl) (by kernel_rfl) (by exact @link _ (nh bm (br [(40,kW),(38,oH),(44,ki)]) (fP [(1000000,uV),(36,fN im),(41,(s5 dx)),(42,(tr dx 80))]) Tryz.f24 oI b_) (by kernel_rfl) HA)
theorem Hg:RK 24 (fN oI):=⟨pn wR.1,wR.2⟩
theorem wQ:TK 9 ya :=
 tv (A:=b_) ay (og (aG Hg cP)) Tryz.func9 (by kernel_rfl) (by kernel_rfl) (by exact @link _ (nh bm (br []) (fP [(1000000,uV),(24,fN oI)]) Tryz.f9 ya b_) (by kernel_rfl) Hx)
theorem J0:PK 9 Ai:=⟨rk wQ.1,wQ.2⟩
theorem NS:PK 25 yW :=
 mk (A:=HV) ay aP Tryz.func25 (by kernel_rfl) (by kernel_rfl) (by exact @link _ (aR bm (br []) R0 Tryz.f25 yW HV) (by kernel_rfl) N9)
theorem Hi:PK 10 so :=
 mk (A:=b_) (ak NS ay) aP Tryz.func10 (by kernel_rfl) (by kernel_rfl) (by exact @link _ (aR bm (br [(25,yW)]) R0 Tryz.f10 so b_) (by kernel_rfl) HD)
theorem Dx:PK 11 py :=
 mk (A:=vG) ay aP Tryz.func11 (by kernel_rfl) (by kernel_rfl) (by exact @link _ (aR bm (br []) R0 Tryz.f11 py vG) (by kernel_rfl) DI)
end Go.SF
