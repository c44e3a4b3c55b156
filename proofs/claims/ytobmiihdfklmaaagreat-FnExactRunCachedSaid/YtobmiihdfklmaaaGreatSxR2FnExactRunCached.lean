/- The functions keep their contracts, part 2. No condition. -/
import Derived.Test.YtobmiihdfklmaaaGreatSxR1FnExactRunCached
open Go.IntKind (i64 u8)
namespace Go.SF
open Go.SX Go.Proofs
set_option maxRecDepth 100000
set_option linter.unusedVariables false
theorem Xp:PK 177 Ee :=
 mk (A:=Qa) al ax Tryz.func177 (by kernel_rfl) (by kernel_rfl) (by exact @link _ (aw aO (aP []) R0 Tryz.f177 Ee Qa) (by kernel_rfl) XQ)
theorem B0:PK 148 pF :=
 mk (A:=De) (ah Xp al) ax Tryz.func148 (by kernel_rfl) (by kernel_rfl) (by exact @link _ (aw aO (aP [(177,Ee)]) R0 Tryz.f148 pF De) (by kernel_rfl) Oj)
theorem No:PK 94 uL :=
 mk (A:=aY) (ah J6 (ah eK (ah B0 al))) ax Tryz.func94 (by kernel_rfl) (by kernel_rfl) (by exact @link _ (aw aO (aP [(143,s6),(141,dD),(148,pF)]) R0 Tryz.f94 uL aY) (by kernel_rfl) Od)
theorem Sr:PK 95 yU :=
 mk (A:=aY) (ah rA al) ax Tryz.func95 (by kernel_rfl) (by kernel_rfl) (by exact @link _ (aw aO (aP [(143,kf)]) R0 Tryz.f95 yU aY) (by kernel_rfl) S9)
theorem yp:PK 178 m6 :=
 mk (A:=Ai) (ah jT (ah eK al)) ax Tryz.func178 (by kernel_rfl) (by kernel_rfl) (by exact @link _ (aw aO (aP [(134,gL),(141,dD)]) R0 Tryz.f178 m6 Ai) (by kernel_rfl) Ii)
theorem Sx:PK 179 yY :=
 mk (A:=IC) (ah pa (ah DQ al)) ax Tryz.func179 (by kernel_rfl) (by kernel_rfl) (by exact @link _ (aw aO (aP [(175,lE),(144,rV)]) R0 Tryz.f179 yY IC) (by kernel_rfl) Td)
theorem Su:PK 150 yW :=
 mk (A:=IB) (ah nY (ah kv (ah pa al))) (cz nZ fw) Tryz.func150 (by kernel_rfl) (by kernel_rfl) (by exact @link _ (aw aO (aP [(172,jM),(173,iD),(175,lE)]) (kK [(176,mW jN)]) Tryz.f150 yW IB) (by kernel_rfl) Ta)
theorem Sy:PK 182 yZ :=
 mk (A:=ID) (ah pa (ah kv (ah nY al))) ax Tryz.func182 (by kernel_rfl) (by kernel_rfl) (by exact @link _ (aw aO (aP [(175,lE),(173,iD),(172,jM)]) R0 Tryz.f182 yZ ID) (by kernel_rfl) Te)
theorem J8:PK 181 s8 :=
 mk (A:=AX) (ah kv al) (cz nZ fw) Tryz.func181 (by kernel_rfl) (by kernel_rfl) (by exact @link _ (aw aO (aP [(173,iD)]) (kK [(176,mW jN)]) Tryz.f181 s8 AX) (by kernel_rfl) Ky)
theorem Gr:PK 188 pE :=
 mk (A:=aY) al ax Tryz.func188 (by kernel_rfl) (by kernel_rfl) (by exact @link _ (aw aO (aP []) R0 Tryz.f188 pE aY) (by kernel_rfl) GY)
theorem O0:PK 180 wU :=
 mk (A:=E3) (ah Gr (ah CY al)) (cz nZ fw) Tryz.func180 (by kernel_rfl) (by kernel_rfl) (by exact @link _ (aw aO (aP [(188,pE),(174,uk)]) (kK [(176,mW jN)]) Tryz.f180 wU E3) (by kernel_rfl) Ps)
theorem DR:PK 152 rW :=
 mk (A:=E8) (ah Sx (ah pa (ah Su (ah Sy (ah kv (ah J8 (ah O0 al))))))) ax Tryz.func152 (by kernel_rfl) (by kernel_rfl) (by exact @link _ (aw aO (aP [(179,yY),(175,lE),(150,yW),(182,yZ),(173,iD),(181,s8),(180,wU)]) R0 Tryz.f152 rW E8) (by kernel_rfl) PB)
theorem Gs:PK 149 pG :=
 mk (A:=aY) (ah yp (ah eK (ah DR al))) ax Tryz.func149 (by kernel_rfl) (by kernel_rfl) (by exact @link _ (aw aO (aP [(178,m6),(141,dD),(152,rW)]) R0 Tryz.f149 pG aY) (by kernel_rfl) GZ)
theorem Gq:PK 96 pC :=
 mk (A:=aY) (ah Gs al) ax Tryz.func96 (by kernel_rfl) (by kernel_rfl) (by exact @link _ (aw aO (aP [(149,pG)]) R0 Tryz.f96 pC aY) (by kernel_rfl) GV)
theorem O1:PK 150 wV :=
 mk (A:=E4) (ah nY (ah kv (ah pa al))) (cz nZ fw) Tryz.func150 (by kernel_rfl) (by kernel_rfl) (by exact @link _ (aw aO (aP [(172,jM),(173,iD),(175,lE)]) (kK [(176,mW jN)]) Tryz.f150 wV E4) (by kernel_rfl) Pt)
theorem Sq:PK 97 yT :=
 mk (A:=aY) (ah rA (ah O1 al)) ax Tryz.func97 (by kernel_rfl) (by kernel_rfl) (by exact @link _ (aw aO (aP [(143,kf),(150,wV)]) R0 Tryz.f97 yT aY) (by kernel_rfl) S8)
theorem J3:PK 151 sZ :=
 mk (A:=aY) (ah yp al) ax Tryz.func151 (by kernel_rfl) (by kernel_rfl) (by exact @link _ (aw aO (aP [(178,m6)]) R0 Tryz.f151 sZ aY) (by kernel_rfl) Ks)
theorem Ss:PK 153 yV :=
 mk (A:=IA) al ax Tryz.func153 (by kernel_rfl) (by kernel_rfl) (by exact @link _ (aw aO (aP []) R0 Tryz.f153 yV IA) (by kernel_rfl) S_)
theorem HK:PK 98 rf :=
 mk (A:=Ah) (ah J3 (ah eK (ah DR (ah B0 (ah Ss al))))) ax Tryz.func98 (by kernel_rfl) (by kernel_rfl) (by exact @link _ (aw aO (aP [(151,sZ),(141,dD),(152,rW),(148,pF),(153,yV)]) R0 Tryz.f98 rf Ah) (by kernel_rfl) Ih)
theorem Sv:PK 42 yX :=
 mk (A:=aY) (ah JB (ah OX (ah Np (ah Nn (ah Sp (ah oN (ah OZ (ah OY (ah J0 (ah J2 (ah No (ah Sr (ah Gq (ah Sq (ah HK al))))))))))))))) ax Tryz.func42 (by kernel_rfl) (by kernel_rfl) (by exact @link _ (aw aO (aP [(84,vU),(85,wR),(86,uM),(87,uK),(88,yS),(89,iK),(90,wT),(91,wS),(92,sX),(93,sY),(94,uL),(95,yU),(96,pC),(97,yT),(98,rf)]) R0 Tryz.f42 yX aY) (by kernel_rfl) Tb)
theorem J7:PK 165 s7 :=
 mk (A:=AW) al ax Tryz.func165 (by kernel_rfl) (by kernel_rfl) (by exact @link _ (aw aO (aP []) R0 Tryz.f165 s7 AW) (by kernel_rfl) Kx)
theorem J4:PK 119 s4 :=
 mk (A:=AT) (ah J7 al) ax Tryz.func119 (by kernel_rfl) (by kernel_rfl) (by exact @link _ (aw aO (aP [(165,s7)]) R0 Tryz.f119 s4 AT) (by kernel_rfl) Ku)
section
open Go.RowKit Go.Lib Go.Sort
theorem nV:Tryz.prog.follows .mixedOrders=true:=by kernel_rfl
theorem qI:Tryz.prog.underlying 0=some (TypeDesc.tuple #[]):=by kernel_rfl
theorem qE:∀ w,(isAgg 0).run Tryz.prog w = .ok false w:=fun w=>by kernel_rfl
theorem qQ:∀ w,(Go.sizeOf 0).run Tryz.prog w = .ok 1 w:=fun w=>by kernel_rfl
theorem qM:∀ w,(zeroValue 0).run Tryz.prog w = .ok (Value.tuple #[]) w:=fun w=>by kernel_rfl
theorem qJ:Tryz.prog.underlying 3=some (TypeDesc.int i64):=by kernel_rfl
theorem qF:∀ w,(isAgg 3).run Tryz.prog w = .ok false w:=fun w=>by kernel_rfl
theorem qR:∀ w,(Go.sizeOf 3).run Tryz.prog w = .ok 1 w:=fun w=>by kernel_rfl
theorem qN:∀ w,(zeroValue 3).run Tryz.prog w = .ok (Value.int i64 0) w:=fun w=>by kernel_rfl
theorem qK:Tryz.prog.underlying 4=some TypeDesc.bool:=by kernel_rfl
theorem qG:∀ w,(isAgg 4).run Tryz.prog w = .ok false w:=fun w=>by kernel_rfl
theorem qS:∀ w,(Go.sizeOf 4).run Tryz.prog w = .ok 1 w:=fun w=>by kernel_rfl
theorem qO:∀ w,(zeroValue 4).run Tryz.prog w = .ok (Value.bool false) w:=fun w=>by kernel_rfl
theorem qL:Tryz.prog.underlying 41=some (TypeDesc.slice 72):=by kernel_rfl
theorem qH:∀ w,(isAgg 41).run Tryz.prog w = .ok false w:=fun w=>by kernel_rfl
theorem qT:∀ w,(Go.sizeOf 41).run Tryz.prog w = .ok 1 w:=fun w=>by kernel_rfl
theorem qP:∀ w,(zeroValue 41).run Tryz.prog w = .ok (Value.slice none 0 0) w:=fun w=>by kernel_rfl
set_option maxHeartbeats 4000000 in
set_option maxRecDepth 1000000 in
theorem yl(v:Value)(i:Nat)(w:World)(hv:v = .slice none 0 0/\i=0\/∃ aF n cap,v = .slice (some ⟨aF,0,none⟩) n cap/\n<=cap/\i<=n) :
 Calls Tryz.prog 167 #[v,.int .i64 i,.int .i64 i] w fun e w'=>e = .returned v/\w'=w:=by
 have mixed:=nV;have t0:=qI;have a0:=qE;have z0:=qQ;have v0:=qM;have t3:=qJ;have a3:=qF;have z3:=qR;have v3:=qN;have t4:=qK;have a4:=qG;have z4:=qS;have v4:=qO;have tS:=qL;have aS:=qH;have zS:=qT;have vS:=qP
 rcases hv with ⟨rfl,rfl⟩|⟨aF,n,cap,rfl,h1,h2⟩
 ·go_enter Tryz.func167,Tryz.ntmps167
  go_wp2
  all_goals (go_ret;exact⟨rfl,rfl⟩)
 ·go_enter Tryz.func167,Tryz.ntmps167
  go_wp2
  all_goals (go_ret;exact⟨rfl,rfl⟩)
set_option maxHeartbeats 4000000 in
set_option maxRecDepth 1000000 in
theorem zH(aF n cap i j:Nat)(news:List Value)(w:World)(WN:n<=cap)(Yl:i<j)(hj:j<=n)(hl:news.length=(n-j)*4)
 (BE:∀ t u,news[t]? = some u->w.cell? ⟨aF,j*4+t,none⟩=some u) (xW:∀ u∈news,u.oneCell'=true)
 (x7:∀ t,t<n*4->(w.cell? ⟨aF,t,none⟩).isSome=true/\w.frozen? ⟨aF,t,none⟩=false) :
 Calls Tryz.prog 167 #[.slice (some ⟨aF,0,none⟩) n cap,.int .i64 i,.int .i64 j] w fun e w'=>e = .returned (.slice (some ⟨aF,0,none⟩) (i+(n-j)) cap) ∧
  ∃ zs:List Value,zs.length=(n-(i+(n-j)))*4/\w'=(w.drew.setCells aF (i*4) news).setCells aF ((i+(n-j))*4) zs:=by
 have mixed:=nV;have t0:=qI;have a0:=qE;have z0:=qQ;have v0:=qM;have t3:=qJ;have a3:=qF;have z3:=qR;have v3:=qN;have t4:=qK;have a4:=qG;have z4:=qS;have v4:=qO;have tS:=qL;have aS:=qH;have zS:=qT;have vS:=qP
 obtain⟨i0,qx,F7⟩:∃ i0,Tryz.prog.info? 72=some i0/\i0.size=4:=Option.map_eq_some_iff.1 (show (Tryz.prog.info? 72).map (fun i=>i.size)=some 4 by kernel_rfl)
 have vE:∀ w,(zeroValue 72).run Tryz.prog w = .ok (.agg #[.slice none 0 0,.int .i64 0,.slice none 0 0,.slice none 0 0]) w:=fun w=>by kernel_rfl
 obtain⟨A,hA,ac3⟩:∃ A:Addr,(if cap=j then some (⟨aF,0,none⟩:Addr) else some ⟨aF,j*4,none⟩)=some A/\Hid (∀ t u,news[t]? = some u->w.drew.cell? (A.add t)=some u):=by
  by_cases h:cap=j
  ·refine⟨⟨aF,0,none⟩,by simp[h],fun t u hu=>?_⟩
   have h0:news.length=0:=by rw[hl];omega
   rw[List.length_eq_zero_iff.1 h0] at hu
   simp at hu
  ·exact⟨⟨aF,j*4,none⟩,by simp[h],fun t u hu=>by rw[Addr.add_lit];exact BE t u hu⟩
 have s1:Hid (news.length=(n-j)*4):=hl
 have s2:Hid (∀ u∈news,u.oneCell'=true):=xW
 have s3:Hid (∀ t,t<news.length->(w.drew.cell? ⟨aF,0+i*4+t,none⟩).isSome=true/\w.drew.frozen? ⟨aF,0+i*4+t,none⟩=false):=by
  intro t ht
  rw[hl] at ht
  rw[Nat.zero_add]
  exact x7 (i*4+t) (by omega)
 obtain⟨W1,tv⟩:∃ W1,W1=w.drew.setCells aF (0+i*4) news:=⟨_,rfl⟩
 have Mm:∀ t,t<n*4->(W1.cell? ⟨aF,t,none⟩).isSome=true/\W1.frozen? ⟨aF,t,none⟩=false:=by
  intro t ht
  subst tv
  refine⟨?_,by rw[World.frozen?_setCells];exact (x7 t ht).2⟩
  by_cases v_:i*4<=t/\t<i*4+news.length
  ·have h2:=World.cell?_setCells_in aF news (0+i*4) w.drew (fun k hk=>(s3.out k hk).1) (t-i*4) (by omega)
   rw[show 0+i*4+(t-i*4)=t by omega] at h2
   rw[h2];rfl
  ·rw[World.cell?_setCells_out aF news _ _ _ (fun _ _=>by show t<0+i*4\/0+i*4+news.length<=t;omega)]
   exact (x7 t ht).1
 obtain⟨zs,iP,gK⟩:∃ zs:List Value,zs.length=(n-(i+(n-j)))*4/\∀ ty,(Builtin.clear_ #[41] ty #[.slice (some ⟨aF,(i+(n-j))*4,none⟩) (n-(i+(n-j))) (cap-(i+(n-j)))]).run Tryz.prog W1 = .ok (.tuple #[]) (W1.setCells aF ((i+(n-j))*4) zs):=by
  refine⟨(Builtin.zeroCells (Value.agg #[.slice none 0 0,.int .i64 0,.slice none 0 0,.slice none 0 0]).cells (n-(i+(n-j)))).toList,by simp[Builtin.zeroCells,Value.cells],fun ty=>?_⟩
  refine H4 W1 _ _ ty _ tS vE (by simp[Value.cells,Value.oneCell']) (by simp[Value.cells]) aF _ _ _ (by omega) (fun t ht=>?_) (fun t ht=>?_)
  ·have h2:(Value.agg #[.slice none 0 0,.int .i64 0,.slice none 0 0,.slice none 0 0]).cells.size=4:=rfl
   rw[h2] at ht
   exact (Mm _ (by omega)).1
  ·have h2:(Value.agg #[.slice none 0 0,.int .i64 0,.slice none 0 0,.slice none 0 0]).cells.size=4:=rfl
   rw[h2] at ht
   exact (Mm _ (by omega)).2
 have hW:Hid (W1=w.drew.setCells aF (0+i*4) news):=tv
 have hic:i<=cap:=by omega
 have hjc:j<=cap:=by omega
 clear tv Mm x7 BE hl vE
 go_enter Tryz.func167,Tryz.ntmps167
 go_wp2_with fail
 go_region_law_o (refine step_append_room rfl (.tmp 22) (.tmp 25) 41 rfl 72 i0 4 tS qx F7 aF 0 i cap (by simp[Act.eval,Act.put]) A (n-j) (cap-j) news (by simp[Act.eval,Act.put]) s1.out ac3.out s2.out (by omega) s3.out ?_;rw[<-hW.out])
 go_wp2
 all_goals (go_ret;refine⟨rfl,zs,iP,?_⟩;rw[hW.out,Nat.zero_add])
theorem sJ:RK 167 (xP bA) :=
 ⟨Wy ⟨yl,zH⟩,_,Tryz.func167,by kernel_rfl,by kernel_rfl⟩
end
section
open Go.RowKit Go.Lib Go.Sort
theorem jS:Tryz.prog.follows .mixedOrders=true:=by kernel_rfl
theorem lW:Tryz.prog.underlying 0=some (TypeDesc.tuple #[]):=by kernel_rfl
theorem lR:∀ w,(isAgg 0).run Tryz.prog w = .ok false w:=fun w=>by kernel_rfl
theorem l8:∀ w,(Go.sizeOf 0).run Tryz.prog w = .ok 1 w:=fun w=>by kernel_rfl
theorem lZ:∀ w,(zeroValue 0).run Tryz.prog w = .ok (Value.tuple #[]) w:=fun w=>by kernel_rfl
theorem lX:Tryz.prog.underlying 3=some (TypeDesc.int i64):=by kernel_rfl
theorem lS:∀ w,(isAgg 3).run Tryz.prog w = .ok false w:=fun w=>by kernel_rfl
theorem l9:∀ w,(Go.sizeOf 3).run Tryz.prog w = .ok 1 w:=fun w=>by kernel_rfl
theorem l5:∀ w,(zeroValue 3).run Tryz.prog w = .ok (Value.int i64 0) w:=fun w=>by kernel_rfl
theorem lY:Tryz.prog.underlying 4=some TypeDesc.bool:=by kernel_rfl
theorem lT:∀ w,(isAgg 4).run Tryz.prog w = .ok false w:=fun w=>by kernel_rfl
theorem l_:∀ w,(Go.sizeOf 4).run Tryz.prog w = .ok 1 w:=fun w=>by kernel_rfl
theorem l6:∀ w,(zeroValue 4).run Tryz.prog w = .ok (Value.bool false) w:=fun w=>by kernel_rfl
theorem iX:Tryz.prog.underlying 41=some (TypeDesc.slice 72):=by kernel_rfl
theorem lU:∀ w,(isAgg 41).run Tryz.prog w = .ok false w:=fun w=>by kernel_rfl
theorem ma:∀ w,(Go.sizeOf 41).run Tryz.prog w = .ok 1 w:=fun w=>by kernel_rfl
theorem l7:∀ w,(zeroValue 41).run Tryz.prog w = .ok (Value.slice none 0 0) w:=fun w=>by kernel_rfl
theorem qU:∀ w,(Go.sizeOf 72).run Tryz.prog w = .ok 4 w:=fun w=>by kernel_rfl
theorem lV:(Tryz.prog.info? 72).map (fun i=>(i.zero,i.size,i.bytes))=some (some (Value.agg #[.slice none 0 0,.int .i64 0,.slice none 0 0,.slice none 0 0]),4,80):=by kernel_rfl
set_option maxHeartbeats 4000000 in
set_option maxRecDepth 1000000 in
theorem xq(b n c i vb m vc:Nat)(cs vs:List Value)(w:World)(hi:i<n)(hm:0<m)(r5:n+m<=c)(Bt:n+m<=140737488355328)(hvb:vb≠b)(gK:cs.length=n*4)(AD:vs.length=m*4)
 (fA:∀ j v,cs[j]? = some v->w.cell? ⟨b,j,none⟩=some v) (x7:∀ j,j<(n+m)*4->(w.cell? ⟨b,j,none⟩).isSome=true) (hfz:∀ j,w.frozen? ⟨b,j,none⟩=false)
 (AE:∀ j v,vs[j]? = some v->w.cell? ⟨vb,j,none⟩=some v) (xW:∀ v∈cs,v.oneCell'=true) (h1v:∀ v∈vs,v.oneCell'=true)
 (tA tB:TypeId) (kA kB:Nat) (hsa:w.shape? vb=some (tA,kA)) (hsb:w.shape? b=some (tB,kB)) (hkB:kB≠0) (hfa:w.frozen? ⟨vb,0,none⟩=false) (sw:w.frozen? ⟨vb,kA,none⟩=false) :
 Calls Tryz.prog 166 #[.slice (some ⟨b,0,none⟩) n c,.int .i64 i,.slice (some ⟨vb,0,none⟩) m vc] w fun e w' =>
  e = .returned (.slice (some ⟨b,0,none⟩) (n+m) c)/\w'=(w.drew.setCells b ((i+m)*4) (cs.drop (i*4))).setCells b (i*4) vs:=by
 have mixed:=jS;have t0:=lW;have a0:=lR;have z0:=l8;have v0:=lZ;have t3:=lX;have a3:=lS;have z3:=l9;have v3:=l5;have t4:=lY;have a4:=lT;have z4:=l_;have v4:=l6;have tS:=iX;have aS:=lU;have zS:=ma;have vS:=l7
 have zE:=qU
 obtain⟨i0,qx,wg,iP,Jm⟩:=info_parts lV
 have F7:¬((m:Int)=0):=by omega
 have hz2:¬((i:Int)=(n:Int)):=by omega
 have Yt:∀ lb cb,(callFunc 183 #[.slice (some ⟨vb,0,none⟩) m vc,.slice (some ⟨b,(i+m)*4,none⟩) lb cb]).run Tryz.prog w = .ok (.value (.bool false)) w:=fun lb cb=>by
  rw[run_callFunc_extern Tryz.func183 (by kernel_rfl) (by kernel_rfl) (by kernel_rfl) (e:=Extern.SlicesOverlaps.overlaps #[41,41] #[4]) (by kernel_rfl),
   Lib.run_overlaps_apart w 41 4 72 tS 4 zE ⟨vb,0,none⟩ ⟨b,(i+m)*4,none⟩ m vc lb cb hvb tA tB kA kB hsa hsb hkB hfa sw]
  rfl
 have Qw:(cs.drop (i*4)).length=(n-i)*4:=by rw[List.length_drop,gK];omega
 have fW:i64.wrap ((i:Int)+(m:Int))=(i:Int)+(m:Int):=by rw[IntKind.wrap_i64];omega
 have nQ:i64.wrap ((n:Int)+(m:Int))=(n:Int)+(m:Int):=by rw[IntKind.wrap_i64];omega
 have fe:(0:Int)<=(i:Int)+(m:Int):=by omega
 have v_:i<=n:=by omega
 have htn:((i:Int)+(m:Int)).toNat=i+m:=by omega
 have ahm:((n:Int)+(m:Int)).toNat=n+m:=by omega
 have jx:¬(c=i+m):=by omega
 have hb3:(i:Int)<=(n:Int)+(m:Int):=by omega
 have Uf:¬(c=i):=by omega
 have aa4:∀ ty dc sc,(Builtin.copy_ #[41,41] ty #[.slice (some ⟨b,(i+m)*4,none⟩) (n+m-(i+m)) dc,.slice (some ⟨b,i*4,none⟩) (n+m-i) sc]).run Tryz.prog w.drew = .ok (goInt (n-i:Nat)) (w.drew.setCells b ((i+m)*4) (cs.drop (i*4))):=fun ty dc sc =>
  Go.SX.oq w.drew _ _ ty 72 i0 b ((i+m)*4) (n+m-(i+m)) dc ⟨b,i*4,none⟩ (n+m-i) sc (n-i) (cs.drop (i*4)) tS qx (by simp only[Nat.min_def];split<;>omega) (by rw[iP,Qw])
   (fun j v hj=>by rw[Addr.add_lit];exact fA (i*4+j) v (by rwa [List.getElem?_drop] at hj))
   (fun j hj=>x7 _ (by omega)) (fun j hj=>hfz _) (fun v hv=>xW v (List.mem_of_mem_drop hv))
 obtain⟨W1,tv⟩:∃ W1,W1=w.drew.setCells b ((i+m)*4) (cs.drop (i*4)):=⟨_,rfl⟩
 have Mm:∀ k,k<(n+m)*4->(W1.cell? ⟨b,k,none⟩).isSome=true:=fun k hk=>by
  rw[tv]
  exact Go.SX.vm b (cs.drop (i*4)) ((i+m)*4) w.drew (fun j hj=>x7 _ (by omega)) _ (x7 k hk)
 have aet:∀(W:World),(∀ x,W.cell? x=W1.cell? x)->(∀ x,W.frozen? x=W1.frozen? x)->∀ ty dc,(Builtin.copy_ #[41,41] ty #[.slice (some ⟨b,i*4,none⟩) (n+m-i) dc,.slice (some ⟨vb,0,none⟩) m vc]).run Tryz.prog W = .ok (goInt m) (W.setCells b (i*4) vs):=fun W I_ T_ ty dc =>
  Go.SX.oq W _ _ ty 72 i0 b (i*4) (n+m-i) dc ⟨vb,0,none⟩ m vc m vs tS qx (by simp only[Nat.min_def];split<;>omega) (by rw[iP,AD])
   (fun j v hj=>by
     rw[Addr.add_lit,Nat.zero_add,I_,tv,World.cell?_setCells_out b _ _ _ _ (fun h _=>absurd h hvb)]
     exact AE j v hj)
   (fun j hj=>by rw[I_];exact Mm _ (by omega)) (fun j hj=>by rw[T_,tv,World.frozen?_setCells];exact hfz _) h1v
 rw[<-tv] at aa4
 go_enter Tryz.func166,Tryz.ntmps166
 go_wp2_with (simp only[Yt])
 go_region_law_o (refine Go.SX.Cq rfl _ _ 41 41 rfl _ _ (by simp[Act.eval,Act.put]) (by simp[Act.eval,Act.put]) (aa4 _ _ _) ?_)
 go_wp2_with (at_builtin;refine Go.SX.rN _ rfl _ _ 41 41 rfl _ _ rfl rfl (aet _ (fun _=>rfl) (fun _=>rfl) _ _) ?_)
 go_ret
 first|exact⟨rfl,rfl⟩|exact⟨rfl,by rw[tv]⟩
set_option maxHeartbeats 4000000 in
set_option maxRecDepth 1000000 in
theorem ym(b n c i vb m vc:Nat)(cs vs:List Value)(w:World)(hi:i<n)(hm:0<m)(hnc:n<=c)(r5:c<n+m)(Bt:(n+m)*80<=140737488355328)(gK:cs.length=n*4)(AD:vs.length=m*4)
 (fA:∀ j v,cs[j]? = some v->w.cell? ⟨b,j,none⟩=some v)
 (AE:∀ j v,vs[j]? = some v->w.cell? ⟨vb,j,none⟩=some v) (xW:∀ v∈cs,v.oneCell'=true) (h1v:∀ v∈vs,v.oneCell'=true) :
 Calls Tryz.prog 166 #[.slice (some ⟨b,0,none⟩) n c,.int .i64 i,.slice (some ⟨vb,0,none⟩) m vc] w fun e w' =>
  e = .returned (.slice (some ⟨w.heap.size,0,none⟩) (n+m) (grownCap w (n+m) c 72)) ∧
  w'=(((w.alloc (.cells ((cs.take (i*4)).toArray++Builtin.zeroCells (Value.agg #[.slice none 0 0,.int .i64 0,.slice none 0 0,.slice none 0 0]).cells (n+m-i)++Builtin.zeroCells (Value.agg #[.slice none 0 0,.int .i64 0,.slice none 0 0,.slice none 0 0]).cells (grownCap w (n+m) c 72-(n+m))) 72)).drew.setCells w.heap.size (i*4) vs).drew).setCells w.heap.size ((i+m)*4) (cs.drop (i*4)):=by
 have mixed:=jS;have t0:=lW;have a0:=lR;have z0:=l8;have v0:=lZ;have t3:=lX;have a3:=lS;have z3:=l9;have v3:=l5;have t4:=lY;have a4:=lT;have z4:=l_;have v4:=l6;have tS:=iX;have aS:=lU;have zS:=ma;have vS:=l7
 have zE:=qU
 obtain⟨i0,qx,wg,iP,Jm⟩:=info_parts lV
 have F7:¬((m:Int)=0):=by omega
 have hz2:¬((i:Int)=(n:Int)):=by omega
 have hz3:(c:Int)<(n:Int)+(m:Int):=by omega
 have hbw:b<w.heap.size:=block_lt_of_cell (fA 0 _ (List.getElem?_eq_getElem (by omega)))
 have hvw:vb<w.heap.size:=block_lt_of_cell (AE 0 _ (List.getElem?_eq_getElem (by omega)))
 have Yn:(n:Int)+(m:Int)-(i:Int)=((n+m-i:Nat):Int):=by omega
 have ia:i+(n+m-i)=n+m:=by omega
 have hold:(Builtin.firstCells i0.size i (.slice (some ⟨b,0,none⟩) i c)).run Tryz.prog w.drew = .ok (cs.take (i*4)).toArray w.drew:=by
  rw[iP]
  exact run_firstCells_some w.drew 4 i ⟨b,0,none⟩ i c (cs.take (i*4)) (by rw[List.length_take];omega) (fun j v hj=>by
   rw[Addr.add_lit,Nat.zero_add]
   rw[List.getElem?_take] at hj
   split at hj
   ·exact fA j v hj
   ·cases hj)
 have Yu:∀ ty,(Builtin.append_ #[41,3] ty #[.slice (some ⟨b,0,none⟩) i c,.int .i64 ((n:Int)+(m:Int)-(i:Int))]).run Tryz.prog w =
  .ok (.slice (some ⟨w.heap.size,0,none⟩) (n+m) (grownCap w (n+m) c 72)) (w.drew.alloc (.cells ((cs.take (i*4)).toArray++Builtin.zeroCells (Value.agg #[.slice none 0 0,.int .i64 0,.slice none 0 0,.slice none 0 0]).cells (n+m-i)++Builtin.zeroCells (Value.agg #[.slice none 0 0,.int .i64 0,.slice none 0 0,.slice none 0 0]).cells (grownCap w (n+m) c 72-(n+m))) 72)):=fun ty=>by
  have h:=Lib.run_append_grow_zeros w 41 3 ty 72 i0 _ .i64 .i64 tS t3 qx wg (some ⟨b,0,none⟩) i c (cs.take (i*4)) hold (n+m-i) (by omega) (by omega) (by omega) (by omega) (by rw[Jm];omega) (by rw[Jm,ia];exact growslice_fits r5 Bt)
  rw[ia] at h
  rw[Yn]
  exact h
 obtain⟨G,hG⟩:∃ G,G=grownCap w (n+m) c 72:=⟨_,rfl⟩
 obtain⟨j6,Ej⟩:∃ j6:Array Value,j6=(cs.take (i*4)).toArray++Builtin.zeroCells (Value.agg #[.slice none 0 0,.int .i64 0,.slice none 0 0,.slice none 0 0]).cells (n+m-i)++Builtin.zeroCells (Value.agg #[.slice none 0 0,.int .i64 0,.slice none 0 0,.slice none 0 0]).cells (G-(n+m)):=⟨_,rfl⟩
 rw[<-hG] at Yu ⊢
 rw[<-Ej] at Yu ⊢
 have hRl:(n+m)*4<=j6.size:=by
  rw[Ej]
  simp[Builtin.zeroCells,Value.cells]
  omega
 obtain⟨W1,tv⟩:∃ W1,W1=w.drew.alloc (.cells j6 72):=⟨_,rfl⟩
 rw[<-tv] at Yu
 have hN:∀ j,j<(n+m)*4->(W1.cell? ⟨w.heap.size,j,none⟩).isSome=true:=fun j hj=>by
  rw[tv,World.cell?_alloc_at (w:=w.drew) j6 _ w.heap.size j rfl,Array.getElem?_eq_getElem (by omega)];rfl
 have hNf:∀ j,W1.frozen? ⟨w.heap.size,j,none⟩=false:=fun j=>by rw[tv];exact World.frozen?_alloc_at (w:=w.drew) j6 _ w.heap.size j rfl
 have hOb:∀ j v,w.cell? ⟨b,j,none⟩=some v->W1.cell? ⟨b,j,none⟩=some v:=fun j v h=>by rw[tv,World.cell?_alloc_past (w:=w.drew) _ b j hbw];exact h
 have hOv:∀ j v,w.cell? ⟨vb,j,none⟩=some v->W1.cell? ⟨vb,j,none⟩=some v:=fun j v h=>by rw[tv,World.cell?_alloc_past (w:=w.drew) _ vb j hvw];exact h
 have aeu:∀(W:World),(∀ x,W.cell? x=W1.cell? x)->(∀ x,W.frozen? x=W1.frozen? x)->∀ ty dc,(Builtin.copy_ #[41,41] ty #[.slice (some ⟨w.heap.size,i*4,none⟩) (n+m-i) dc,.slice (some ⟨vb,0,none⟩) m vc]).run Tryz.prog W = .ok (goInt m) (W.setCells w.heap.size (i*4) vs):=fun W I_ T_ ty dc =>
  Go.SX.oq W _ _ ty 72 i0 w.heap.size (i*4) (n+m-i) dc ⟨vb,0,none⟩ m vc m vs tS qx (by simp only[Nat.min_def];split<;>omega) (by rw[iP,AD])
   (fun j v hj=>by rw[Addr.add_lit,Nat.zero_add,I_];exact hOv _ v (AE j v hj))
   (fun j hj=>by rw[I_];exact hN _ (by omega)) (fun j hj=>by rw[T_];exact hNf _) h1v
 have hGn:n+m<=G:=by rw[hG];exact grownCap_ge w _ _ _
 have hGi:¬(G=i):=by omega
 have ahd:¬(G=i+m):=by omega
 have hci:¬(c=i):=by omega
 have hbN:b≠w.heap.size:=by omega
 have Qw:(cs.drop (i*4)).length=(n-i)*4:=by rw[List.length_drop,gK];omega
 have aa5:∀(W:World),(∀ x,W.cell? x=(W1.setCells w.heap.size (i*4) vs).cell? x)->(∀ x,W.frozen? x=(W1.setCells w.heap.size (i*4) vs).frozen? x)->∀ ty dc sc,(Builtin.copy_ #[41,41] ty #[.slice (some ⟨w.heap.size,(i+m)*4,none⟩) (n+m-(i+m)) dc,.slice (some ⟨b,i*4,none⟩) (n-i) sc]).run Tryz.prog W = .ok (goInt (n-i:Nat)) (W.setCells w.heap.size ((i+m)*4) (cs.drop (i*4))):=fun W I_ T_ ty dc sc =>
  Go.SX.oq W _ _ ty 72 i0 w.heap.size ((i+m)*4) (n+m-(i+m)) dc ⟨b,i*4,none⟩ (n-i) sc (n-i) (cs.drop (i*4)) tS qx (by simp only[Nat.min_def];split<;>omega) (by rw[iP,Qw])
   (fun j v hj=>by
     rw[Addr.add_lit,I_,World.cell?_setCells_out _ _ _ _ _ (fun h _=>absurd h hbN)]
     exact hOb _ v (fA (i*4+j) v (by rwa [List.getElem?_drop] at hj)))
   (fun j hj=>by rw[I_];exact Go.SX.vm _ _ _ _ (fun t ht=>hN _ (by omega)) _ (hN _ (by omega)))
   (fun j hj=>by rw[T_,World.frozen?_setCells];exact hNf _) (fun v hv=>xW v (List.mem_of_mem_drop hv))
 subst tv
 have Yd:∀ x,((w.alloc (.cells j6 72)).drew).cell? x=(w.drew.alloc (.cells j6 72)).cell? x:=fun x=>rfl
 have Ye:∀ x,((w.alloc (.cells j6 72)).drew).frozen? x=(w.drew.alloc (.cells j6 72)).frozen? x:=fun x=>rfl
 have hF1:∀ x,(((w.alloc (.cells j6 72)).drew.setCells w.heap.size (i*4) vs).drew).cell? x=((w.drew.alloc (.cells j6 72)).setCells w.heap.size (i*4) vs).cell? x:=fun x=>rfl
 have hF2:∀ x,(((w.alloc (.cells j6 72)).drew.setCells w.heap.size (i*4) vs).drew).frozen? x=((w.drew.alloc (.cells j6 72)).setCells w.heap.size (i*4) vs).frozen? x:=fun x=>rfl
 have fW:i64.wrap ((i:Int)+(m:Int))=(i:Int)+(m:Int):=by rw[IntKind.wrap_i64];omega
 have nQ:i64.wrap ((n:Int)+(m:Int))=(n:Int)+(m:Int):=by rw[IntKind.wrap_i64];omega
 have YA:i64.wrap ((n:Int)+(m:Int)-(i:Int))=(n:Int)+(m:Int)-(i:Int):=by rw[IntKind.wrap_i64];omega
 have fe:(0:Int)<=(i:Int)+(m:Int):=by omega
 have v_:i<=n:=by omega
 have htn:((i:Int)+(m:Int)).toNat=i+m:=by omega
 have hb3:(i:Int)<=(n:Int):=by omega
 clear Yn ia hold Ej hG hRl
 go_enter Tryz.func166,Tryz.ntmps166
 go_wp2_with (first
  | (at_builtin;refine Lib.wpList_append_run _ rfl _ _ _ _ rfl _ _ rfl rfl _ _ (Yu _) ?_)
  | (at_builtin;refine Go.SX.rN _ rfl _ _ 41 41 rfl _ _ rfl rfl (aeu _ Yd Ye _ _) ?_)
  | (at_builtin;refine Go.SX.rN _ rfl _ _ 41 41 rfl _ _ rfl rfl (aa5 _ (fun _=>rfl) (fun _=>rfl) _ _ _) ?_))
 go_region_law_o (refine Go.SX.Cq rfl _ _ 41 41 rfl (.slice (some ⟨w.heap.size,(i+m)*4,none⟩) (n+m-(i+m)) (G-(i+m))) (.slice (some ⟨b,i*4,none⟩) (n-i) (c-i)) (by simp[Act.eval,Act.put]) (by simp[Act.eval,Act.put]) (aa5 _ hF1 hF2 3 (G-(i+m)) (c-i)) ?_)
 go_wp2
 go_ret
 exact⟨rfl,rfl⟩
set_option maxHeartbeats 4000000 in
set_option maxRecDepth 100000 in
theorem zI(base:Option Addr)(n c vb m vc:Nat)(w:World)(hm:0<m)(hnc:n<=c){v':Value}{w':World}
 (eT:∀ ty,(Builtin.append_ #[41,41] ty #[.slice base n c,.slice (some ⟨vb,0,none⟩) m vc]).run Tryz.prog w = .ok v' w') :
 Calls Tryz.prog 166 #[.slice base n c,.int .i64 n,.slice (some ⟨vb,0,none⟩) m vc] w fun e w''=>e = .returned v'/\w''=w':=by
 have mixed:=jS;have t0:=lW;have a0:=lR;have z0:=l8;have v0:=lZ;have t3:=lX;have a3:=lS;have z3:=l9;have v3:=l5;have t4:=lY;have a4:=lT;have z4:=l_;have v4:=l6;have tS:=iX;have aS:=lU;have zS:=ma;have vS:=l7
 have F7:¬((m:Int)=0):=by omega
 go_enter Tryz.func166,Tryz.ntmps166
 cases base with
 | none =>
   go_wp2_with (at_builtin;refine Lib.wpList_append_run _ rfl _ _ _ _ rfl _ _ rfl rfl _ _ (eT _) ?_)
   all_goals (go_ret;exact⟨rfl,rfl⟩)
 | some a =>
   obtain⟨ab,ao,asp⟩:=a
   go_wp2_with (at_builtin;refine Lib.wpList_append_run _ rfl _ _ _ _ rfl _ _ rfl rfl _ _ (eT _) ?_)
   all_goals (go_ret;exact⟨rfl,rfl⟩)
theorem sK:RK 166 (yc bA 80) :=
 ⟨Xa (z:=Value.agg #[.slice none 0 0,.int .i64 0,.slice none 0 0,.slice none 0 0]) ⟨iX,lV,rfl,by decide,by decide,xq,ym,zI⟩,_,Tryz.func166,by kernel_rfl,by kernel_rfl⟩
end
theorem Cb:TK 120 rU :=
 sD (A:=aY) (ah xu (ah xw (ah yo al))) (mO (cz nj (cz sJ (cz sK fw)))) Tryz.func120 (by kernel_rfl) (by kernel_rfl) (by exact @link _ (mV aO (aP [(107,nI),(51,nK),(164,m5)]) (kK [(1000000,ud),(59,dw gC),(167,(xP bA)),(166,(yc bA 80))]) Tryz.f120 rU aY) (by kernel_rfl) Pz)
theorem O2:RK 120 (dw rU):=⟨jG Cb.1,Cb.2⟩
theorem J_:RK 168 (oD s_) :=
 U_ (A:=uF) (ah B1 al) ax Tryz.func168 (by kernel_rfl) (by kernel_rfl) rfl (by exact @link _ (yD aO (aP [(106,pI)]) R0 Tryz.f168 s_ uF) (by kernel_rfl) AP)
theorem DW:TK 121 tI :=
 sD (A:=Lf) (ah AG (ah xw (ah DS (ah xu al)))) (mO (cz nj (cz sJ (cz sK (cz J_ fw))))) Tryz.func121 (by kernel_rfl) (by kernel_rfl) (by exact @link _ (mV aO (aP [(118,n9),(51,nK),(158,rX),(107,nI)]) (kK [(1000000,ud),(59,dw gC),(167,(xP bA)),(166,(yc bA 80)),(168,oD s_)]) Tryz.f121 tI Lf) (by kernel_rfl) Tc)
theorem Sw:RK 121 (dw tI):=⟨jG DW.1,DW.2⟩
theorem wD:TK 60 m7 :=
 sD (A:=aY) (ah JB (ah Sv (ah J4 al))) (mO (cz nj (cz O2 (cz Sw fw)))) Tryz.func60 (by kernel_rfl) (by kernel_rfl) (by exact @link _ (mV aO (aP [(84,vU),(42,yX),(119,s4)]) (kK [(1000000,ud),(59,dw gC),(120,dw rU),(121,dw tI)]) Tryz.f60 m7 aY) (by kernel_rfl) Ik)
theorem HL:RK 60 (dw m7):=⟨jG wD.1,wD.2⟩
theorem mq:TK 21 m4 :=
 sD (A:=aY) (ah xw al) (mO (cz nj (cz HL fw))) Tryz.func21 (by kernel_rfl) (by kernel_rfl) (by exact @link _ (mV aO (aP [(51,nK)]) (kK [(1000000,ud),(59,dw gC),(60,dw m7)]) Tryz.f21 m4 aY) (by kernel_rfl) Ic)
theorem HJ:RK 21 (dw m4):=⟨jG mq.1,mq.2⟩
theorem J1:PK 21 Au:=⟨BY mq.1,mq.2⟩
theorem O4:PK 162 wX :=
 mk (A:=Fa) al ax Tryz.func162 (by kernel_rfl) (by kernel_rfl) (by exact @link _ (aw aO (aP []) R0 Tryz.f162 wX Fa) (by kernel_rfl) PH)
theorem Gu:PK 43 tJ :=
 mk (A:=IE) al ax Tryz.func43 (by kernel_rfl) (by kernel_rfl) (by exact @link _ (aw aO (aP []) R0 Tryz.f43 tJ IE) (by kernel_rfl) Tf)
theorem B2:PK 10 pJ :=
 mk (A:=aY) (ah Gu al) ax Tryz.func10 (by kernel_rfl) (by kernel_rfl) (by exact @link _ (aw aO (aP [(43,tJ)]) R0 Tryz.f10 pJ aY) (by kernel_rfl) Oo)
theorem O6:PK 110 wZ :=
 mk (A:=aY) (ah O4 (ah B2 al)) ax Tryz.func110 (by kernel_rfl) (by kernel_rfl) (by exact @link _ (aw aO (aP [(162,wX),(10,pJ)]) R0 Tryz.f110 wZ aY) (by kernel_rfl) PJ)
theorem Nv:PK 54 uS :=
 mk (A:=Di) (ah O6 al) ax Tryz.func54 (by kernel_rfl) (by kernel_rfl) (by exact @link _ (aw aO (aP [(110,wZ)]) R0 Tryz.f54 uS Di) (by kernel_rfl) On)
theorem O5:PK 19 wY :=
 mk (A:=aY) (ah Nv al) ax Tryz.func19 (by kernel_rfl) (by kernel_rfl) (by exact @link _ (aw aO (aP [(54,uS)]) R0 Tryz.f19 wY aY) (by kernel_rfl) PI)
theorem Vr:PK 11 Bi :=
 mk (A:=aY) (ah Gu al) ax Tryz.func11 (by kernel_rfl) (by kernel_rfl) (by exact @link _ (aw aO (aP [(43,tJ)]) R0 Tryz.f11 Bi aY) (by kernel_rfl) Wc)
theorem AH:RK 122 (ib dU) :=
 YG (A:=A0) al ax Tryz.func122 (by kernel_rfl) (by kernel_rfl) rfl (by exact @link _ (z9 aO (aP []) R0 Tryz.f122 dU A0) (by kernel_rfl) KC)
theorem HO:PK 122 xS :=
 mk (A:=Al) al ax Tryz.func122 (by kernel_rfl) (by kernel_rfl) (by exact @link _ (aw aO (aP []) R0 Tryz.f122 xS Al) (by kernel_rfl) Io)
theorem zK:RK 122 (q8 dV dU.pre dU.F dU.G):=⟨IQ AH.1 HO.1 rfl,AH.2⟩
theorem qk:RK 44 (ib dn) :=
 YG (A:=Dk) al ax Tryz.func44 (by kernel_rfl) (by kernel_rfl) rfl (by exact @link _ (z9 aO (aP []) R0 Tryz.f44 dn Dk) (by kernel_rfl) Ot)
theorem Kd:PK 44 Av :=
 mk (A:=A1) al ax Tryz.func44 (by kernel_rfl) (by kernel_rfl) (by exact @link _ (aw aO (aP []) R0 Tryz.f44 Av A1) (by kernel_rfl) KE)
theorem AQ:RK 44 (q8 ai dn.pre dn.F dn.G):=⟨IQ qk.1 Kd.1 rfl,qk.2⟩
theorem HP:RK 61 (oK rj) :=
 Va (A:=Am) al (cz zK (cz AQ fw)) Tryz.func61 (by kernel_rfl) (by kernel_rfl) rfl (by exact @link _ (yE aO (aP []) (kK [(122,q8 dV dU.pre dU.F dU.G),(44,q8 ai dn.pre dn.F dn.G)]) Tryz.f61 rj Am) (by kernel_rfl) Ip)
theorem Kc:RK 22 (oK tc) :=
 Va (A:=HE) al (cz HP fw) Tryz.func22 (by kernel_rfl) (by kernel_rfl) rfl (by exact @link _ (yE aO (aP []) (kK [(61,oK rj)]) Tryz.f22 tc HE) (by kernel_rfl) KD)
theorem O7:RK 12 (ib w6) :=
 YG (A:=HE) al (cz qk fw) Tryz.func12 (by kernel_rfl) (by kernel_rfl) rfl (by exact @link _ (z9 aO (aP []) (kK [(44,ib dn)]) Tryz.f12 w6 HE) (by kernel_rfl) PL)
theorem HQ:RK 13 (ib rk) :=
 YG (A:=HE) al (cz qk fw) Tryz.func13 (by kernel_rfl) (by kernel_rfl) rfl (by exact @link _ (z9 aO (aP []) (kK [(44,ib dn)]) Tryz.f13 rk HE) (by kernel_rfl) Iq)
theorem Ka:PK 123 ta :=
 mk (A:=AZ) al ax Tryz.func123 (by kernel_rfl) (by kernel_rfl) (by exact @link _ (aw aO (aP []) R0 Tryz.f123 ta AZ) (by kernel_rfl) KA)
theorem B3:PK 45 pK :=
 mk (A:=Dj) al ax Tryz.func45 (by kernel_rfl) (by kernel_rfl) (by exact @link _ (aw aO (aP []) R0 Tryz.f45 pK Dj) (by kernel_rfl) Oq)
theorem HM:PK 62 rh :=
 mk (A:=Ak) (ah Ka (ah B3 al)) ax Tryz.func62 (by kernel_rfl) (by kernel_rfl) (by exact @link _ (aw aO (aP [(123,ta),(45,pK)]) R0 Tryz.f62 rh Ak) (by kernel_rfl) Il)
theorem Kb:PK 23 tb :=
 mk (A:=aY) (ah HM al) ax Tryz.func23 (by kernel_rfl) (by kernel_rfl) (by exact @link _ (aw aO (aP [(62,rh)]) R0 Tryz.f23 tb aY) (by kernel_rfl) KB)
theorem HN:PK 14 ri :=
 mk (A:=aY) (ah B3 al) ax Tryz.func14 (by kernel_rfl) (by kernel_rfl) (by exact @link _ (aw aO (aP [(45,pK)]) R0 Tryz.f14 ri aY) (by kernel_rfl) Im)
end Go.SF
