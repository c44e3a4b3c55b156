/- FnCacheFront: the functions keep their contracts. No condition. -/
import Derived.Test.YtbnplfhajafhmaaGreatSxM1
import Derived.Test.YtbnplfhajafhmaaGreatSxM2
import Derived.Test.YtbnplfhajafhmaaGreatSxPFnCacheFront
import Derived.Shelf.RegionOpenPlain
import Derived.WalkKit
import Derived.Deep.LoopGhost
import Derived.Deep.RegionLaw
import Derived.Lib.Walk
import Derived.Test.YtbnplfhajafhmaaGreatSxTab
import Derived.Test.YtbnplfhajafhmaaGreatChecked
import Derived.KernelRfl
namespace Go.SF
open Go.SX Go.Proofs
set_option maxRecDepth 100000
set_option linter.unusedVariables false
theorem aP{P:Program}:cj P R0:=fun f r h _=>by cases h
theorem ay{P:Program}:dh P (br []):=fun f c h=>by cases h
theorem ak{P:Program}{k:Nat}{c:PC}{r:List (Nat×PC)}(h:rq P k c/\ft P k)(hr:dh P (br r)):dh P (br ((k,c)::r)):=by
 intro f c' h'
 unfold br at h'
 split at h'
 ·rename_i e
  injection h' with h'
  subst h';subst e
  exact h
 ·exact hr f c' h'
theorem cP{P:Program}:cj P (fP []):=fun f c h _=>by cases h
theorem aG{P:Program}{k:Nat}{c:bW}{r:List (Nat×bW)}(h:fO P k c/\ft P k)(hr:cj P (fP r)):cj P (fP ((k,c)::r)):=by
 intro f c' h' bb
 unfold fP at h'
 split at h'
 ·rename_i e
  injection h' with h'
  subst h';subst e
  exact h
 ·exact hr f c' h' bb
theorem og{P:Program}{r:List (Nat×bW)}(hr:cj P (fP r)):cj P (fP ((1000000,uV)::r)):=by
 intro f c' h' bb
 unfold fP at h'
 split at h'
 ·rename_i e
  exact absurd e bb
 ·exact hr f c' h' bb
abbrev PK(n:Nat)(c:PC):Prop:=rq Tryz.prog n c/\ft Tryz.prog n
abbrev RK(n:Nat)(c:bW):Prop:=fO Tryz.prog n c/\ft Tryz.prog n
abbrev TK(n:Nat)(c:TC):Prop:=sP Tryz.prog n c/\ft Tryz.prog n
theorem uU:bP Tryz.prog bm:=Gw (by kernel_rfl)
theorem mixed:Tryz.prog.follows .mixedOrders=true:=by kernel_rfl
theorem mk {Γ : FuncId → Option PC} {f : FuncId} {fn : Func} {c : PC} {A : aY c.ts → Nat → Option bq} {R : FuncId → Option bW} (hΓ : dh Tryz.prog Γ) (hR : cj Tryz.prog R) (hf : Tryz.prog.funcs[f]? = some fn) (h1 : (fn.name == "runtime.NumGoroutine") = false) (h2 : fn.body.isNone = false)
    (h : aR bm Γ R fn c A) : rq Tryz.prog f c ∧ ft Tryz.prog f := ⟨HS mixed uU hΓ hR hf h, fn, hf, h1, h2⟩
theorem tv {Γ : FuncId → Option PC} {R : FuncId → Option bW} {f : FuncId} {fn : Func} {c : TC} {A : aY c.ts → Nat → Option bq} (hΓ : dh Tryz.prog Γ) (hR : cj Tryz.prog R) (hf : Tryz.prog.funcs[f]? = some fn) (h1 : (fn.name == "runtime.NumGoroutine") = false) (h2 : fn.body.isNone = false)
    (h : nh bm Γ R fn c A) : sP Tryz.prog f c ∧ ft Tryz.prog f := ⟨MM mixed uU hΓ hR hf h, fn, hf, h1, h2⟩
theorem link{p q:Prop}(h:p=q)(hp:p):q:=h▸hp
theorem L5 {Γ : FuncId → Option PC} {R : FuncId → Option bW} {f : FuncId} {fn : Func} {c : CT} {A : Int × List c.e.den → Nat → Option bq} (hΓ : dh Tryz.prog Γ) (hR : cj Tryz.prog R) (hf : Tryz.prog.funcs[f]? = some fn) (h1 : (fn.name == "runtime.NumGoroutine") = false) (h2 : fn.body.isNone = false)
    (hl : c.e.kX = true) (h : tN bm Γ R fn c A) : fO Tryz.prog f (lC c) ∧ ft Tryz.prog f := ⟨KQ mixed uU hΓ hR hf hl h, fn, hf, h1, h2⟩
theorem Xe {Γ : FuncId → Option PC} {R : FuncId → Option bW} {f : FuncId} {fn : Func} {c : QC} {A : aY c.ts → Nat → Option bq} (hΓ : dh Tryz.prog Γ) (hR : cj Tryz.prog R) (hf : Tryz.prog.funcs[f]? = some fn) (h1 : (fn.name == "runtime.NumGoroutine") = false) (h2 : fn.body.isNone = false)
    (h : Pc bm Γ R fn c A) : fO Tryz.prog f (AS c) ∧ ft Tryz.prog f := ⟨Sf (SG mixed uU hΓ hR hf h), fn, hf, h1, h2⟩
theorem j9 {Γ : FuncId → Option PC} {R : FuncId → Option bW} {f : FuncId} {fn : Func} {c : QB} {A : c.t.den → aY c.ts → Nat → Option bq} (hΓ : dh Tryz.prog Γ) (hR : cj Tryz.prog R) (hf : Tryz.prog.funcs[f]? = some fn) (h1 : (fn.name == "runtime.NumGoroutine") = false) (h2 : fn.body.isNone = false)
    (h : h_ bm Γ R fn c A) : fO Tryz.prog f (aU c) ∧ ft Tryz.prog f := ⟨PZ mixed uU hΓ hR hf h, fn, hf, h1, h2⟩
theorem R9 {Γ : FuncId → Option PC} {R : FuncId → Option bW} {f : FuncId} {fn : Func} {c : QN} {A : aY c.ts → Nat → Option bq} (hΓ : dh Tryz.prog Γ) (hR : cj Tryz.prog R) (hf : Tryz.prog.funcs[f]? = some fn) (h1 : (fn.name == "runtime.NumGoroutine") = false) (h2 : fn.body.isNone = false)
    (h : Cl bm Γ R fn c A) : fO Tryz.prog f (rl c) ∧ ft Tryz.prog f := ⟨P1 mixed uU hΓ hR hf h, fn, hf, h1, h2⟩
theorem U3 {Γ : FuncId → Option PC} {R : FuncId → Option bW} {f : FuncId} {fn : Func} {c : QC} {A : aY c.ts → Nat → Option bq} (hΓ : dh Tryz.prog Γ) (hR : cj Tryz.prog R) (hf : Tryz.prog.funcs[f]? = some fn) (h1 : (fn.name == "runtime.NumGoroutine") = false) (h2 : fn.body.isNone = false)
    (h : KF bm Γ R fn c A) : fO Tryz.prog f (wP c) ∧ ft Tryz.prog f := ⟨P0 (Qi mixed uU hΓ hR hf h), fn, hf, h1, h2⟩
theorem PY:PK 4 By :=
 mk (A:=b_) ay aP Tryz.func4 (by kernel_rfl) (by kernel_rfl) (by exact @link _ (aR bm (br []) R0 Tryz.f4 By b_) (by kernel_rfl) Qe)
theorem Hn:RK 27 (rl sx) :=
 R9 (A:=zP) ay aP Tryz.func27 (by kernel_rfl) (by kernel_rfl) (by exact @link _ (Cl bm (br []) R0 Tryz.f27 sx zP) (by kernel_rfl) HN)
theorem F3:RK 29 (AS qN) :=
 Xe (A:=b_) ay aP Tryz.func29 (by kernel_rfl) (by kernel_rfl) (by exact @link _ (Pc bm (br []) R0 Tryz.f29 qN b_) (by kernel_rfl) GV)
theorem F2:RK 30 (aU qM) :=
 j9 (A:=pT) ay aP Tryz.func30 (by kernel_rfl) (by kernel_rfl) (by exact @link _ (h_ bm (br []) R0 Tryz.f30 qM pT) (by kernel_rfl) GQ)
theorem cr:RK 15 (aU b7) :=
 j9 (A:=pT) ay (aG F2 cP) Tryz.func15 (by kernel_rfl) (by kernel_rfl) (by exact @link _ (h_ bm (br []) (fP [(30,aU qM)]) Tryz.f15 b7 pT) (by kernel_rfl) DP)
theorem ec:RK 45 (aU da) :=
 j9 (A:=pT) ay (aG cr cP) Tryz.func45 (by kernel_rfl) (by kernel_rfl) (by exact @link _ (h_ bm (br []) (fP [(15,aU b7)]) Tryz.f45 da pT) (by kernel_rfl) Bd)
theorem en:RK 14 (aU dp) :=
 j9 (A:=pT) ay (aG cr cP) Tryz.func14 (by kernel_rfl) (by kernel_rfl) (by exact @link _ (h_ bm (br []) (fP [(15,aU b7)]) Tryz.f14 dp pT) (by kernel_rfl) GU)
theorem jo:PK 49 fZ :=
 mk (A:=zN) ay aP Tryz.func49 (by kernel_rfl) (by kernel_rfl) (by exact @link _ (aR bm (br []) R0 Tryz.f49 fZ zN) (by kernel_rfl) HL)
theorem cI:PK 51 cu :=
 mk (A:=b_) ay aP Tryz.func51 (by kernel_rfl) (by kernel_rfl) (by exact @link _ (aR bm (br []) R0 Tryz.f51 cu b_) (by kernel_rfl) HI)
theorem gz:RK 31 (aU ed) :=
 j9 (A:=pT) (ak cI ay) (aG cr cP) Tryz.func31 (by kernel_rfl) (by kernel_rfl) (by exact @link _ (h_ bm (br [(51,cu)]) (fP [(15,aU b7)]) Tryz.f31 ed pT) (by kernel_rfl) vC)
theorem iS:RK 16 (aU fg) :=
 j9 (A:=rv) ay (aG gz cP) Tryz.func16 (by kernel_rfl) (by kernel_rfl) (by exact @link _ (h_ bm (br []) (fP [(31,aU ed)]) Tryz.f16 fg rv) (by kernel_rfl) zw)
theorem iT:PK 80 fV :=
 mk (A:=Cq) (ak jo ay) aP Tryz.func80 (by kernel_rfl) (by kernel_rfl) (by exact @link _ (aR bm (br [(49,fZ)]) R0 Tryz.f80 fV Cq) (by kernel_rfl) Ky)
theorem xI:RK 81 (aU kM) :=
 j9 (A:=qB) ay (aG cr (aG ec (aG en cP))) Tryz.func81 (by kernel_rfl) (by kernel_rfl) (by exact @link _ (h_ bm (br []) (fP [(15,aU b7),(45,aU da),(14,aU dp)]) Tryz.f81 kM qB) (by kernel_rfl) xM)
theorem wN:RK 82 (aU jV) :=
 j9 (A:=pT) (ak cI ay) (aG iS (aG en (aG cr (aG ec cP)))) Tryz.func82 (by kernel_rfl) (by kernel_rfl) (by exact @link _ (h_ bm (br [(51,cu)]) (fP [(16,aU fg),(14,aU dp),(15,aU b7),(45,aU da)]) Tryz.f82 jV pT) (by kernel_rfl) w_)
theorem uL:PK 87 mM :=
 mk (A:=Cp) ay aP Tryz.func87 (by kernel_rfl) (by kernel_rfl) (by exact @link _ (aR bm (br []) R0 Tryz.f87 mM Cp) (by kernel_rfl) Kx)
theorem pf:RK 83 (aU gQ) :=
 j9 (A:=pQ) (ak uL (ak cI ay)) (aG gz (aG en (aG cr (aG ec cP)))) Tryz.func83 (by kernel_rfl) (by kernel_rfl) (by exact @link _ (h_ bm (br [(87,mM),(51,cu)]) (fP [(31,aU ed),(14,aU dp),(15,aU b7),(45,aU da)]) Tryz.f83 gQ pQ) (by kernel_rfl) xb)
theorem pU:RK 85 (aU ia) :=
 j9 (A:=pT) ay (aG en (aG ec (aG cr cP))) Tryz.func85 (by kernel_rfl) (by kernel_rfl) (by exact @link _ (h_ bm (br []) (fP [(14,aU dp),(45,aU da),(15,aU b7)]) Tryz.f85 ia pT) (by kernel_rfl) xL)
theorem fC:PK 17 eA :=
 mk (A:=b_) ay aP Tryz.func17 (by kernel_rfl) (by kernel_rfl) (by exact @link _ (aR bm (br []) R0 Tryz.f17 eA b_) (by kernel_rfl) MJ)
theorem dC:PK 71 cQ :=
 mk (A:=sS) (ak cI (ak fC ay)) aP Tryz.func71 (by kernel_rfl) (by kernel_rfl) (by exact @link _ (aR bm (br [(51,cu),(17,eA)]) R0 Tryz.f71 cQ sS) (by kernel_rfl) Be)
theorem wJ:PK 99 mI :=
 mk (A:=xS) (ak fC (ak dC (ak uL ay))) aP Tryz.func99 (by kernel_rfl) (by kernel_rfl) (by exact @link _ (aR bm (br [(17,eA),(71,cQ),(87,mM)]) R0 Tryz.f99 mI xS) (by kernel_rfl) GL)
theorem yA:PK 102 oN :=
 mk (A:=b_) (ak wJ (ak fC ay)) aP Tryz.func102 (by kernel_rfl) (by kernel_rfl) (by exact @link _ (aR bm (br [(99,mI),(17,eA)]) R0 Tryz.f102 oN b_) (by kernel_rfl) HP)
theorem iR:PK 70 fU :=
 mk (A:=b_) (ak dC ay) aP Tryz.func70 (by kernel_rfl) (by kernel_rfl) (by exact @link _ (aR bm (br [(71,cQ)]) R0 Tryz.f70 fU b_) (by kernel_rfl) Ks)
theorem qe:PK 108 kl :=
 mk (A:=b_) (ak cI ay) aP Tryz.func108 (by kernel_rfl) (by kernel_rfl) (by exact @link _ (aR bm (br [(51,cu)]) R0 Tryz.f108 kl b_) (by kernel_rfl) Kt)
theorem wK:PK 106 o7 :=
 mk (A:=Ee) (ak cI (ak qe ay)) aP Tryz.func106 (by kernel_rfl) (by kernel_rfl) (by exact @link _ (aR bm (br [(51,cu),(108,kl)]) R0 Tryz.f106 o7 Ee) (by kernel_rfl) MI)
theorem qp:PK 93 lU :=
 mk (A:=b_) (ak cI (ak qe ay)) aP Tryz.func93 (by kernel_rfl) (by kernel_rfl) (by exact @link _ (aR bm (br [(51,cu),(108,kl)]) R0 Tryz.f93 lU b_) (by kernel_rfl) Qg)
theorem ID:PK 109 xn :=
 mk (A:=b_) (ak cI (ak qe ay)) aP Tryz.func109 (by kernel_rfl) (by kernel_rfl) (by exact @link _ (aR bm (br [(51,cu),(108,kl)]) R0 Tryz.f109 xn b_) (by kernel_rfl) Qf)
theorem wG:PK 98 mG :=
 mk (A:=xR) (ak iR (ak wK (ak qp (ak ID ay)))) aP Tryz.func98 (by kernel_rfl) (by kernel_rfl) (by exact @link _ (aR bm (br [(70,fU),(106,o7),(93,lU),(109,xn)]) R0 Tryz.f98 mG xR) (by kernel_rfl) GK)
theorem tI:PK 104 kj :=
 mk (A:=vd) (ak yA (ak dC (ak iT (ak wG ay)))) aP Tryz.func104 (by kernel_rfl) (by kernel_rfl) (by exact @link _ (aR bm (br [(102,oN),(71,cQ),(80,fV),(98,mG)]) R0 Tryz.f104 kj vd) (by kernel_rfl) Cd)
theorem zk:RK 84 (aU lG) :=
 j9 (A:=ry) (ak tI ay) (aG pU (aG cr (aG pf (aG en (aG iS (aG gz cP)))))) Tryz.func84 (by kernel_rfl) (by kernel_rfl) (by exact @link _ (h_ bm (br [(104,kj)]) (fP [(85,aU ia),(15,aU b7),(83,aU gQ),(14,aU dp),(16,aU fg),(31,aU ed)]) Tryz.f84 lG ry) (by kernel_rfl) zx)
theorem AW:RK 86 (aU mL) :=
 j9 (A:=pT) (ak cI ay) (aG cr (aG ec (aG gz cP))) Tryz.func86 (by kernel_rfl) (by kernel_rfl) (by exact @link _ (h_ bm (br [(51,cu)]) (fP [(15,aU b7),(45,aU da),(31,aU ed)]) Tryz.f86 mL pT) (by kernel_rfl) Bc)
theorem AZ:RK 58 (aU mO) :=
 j9 (A:=sU) (ak iT (ak jo ay)) (aG cr (aG iS (aG xI (aG wN (aG pf (aG zk (aG en (aG ec (aG pU (aG AW cP)))))))))) Tryz.func58 (by kernel_rfl) (by kernel_rfl) (by exact @link _ (h_ bm (br [(80,fV),(49,fZ)]) (fP [(15,aU b7),(16,aU fg),(81,aU kM),(82,aU jV),(83,aU gQ),(84,aU lG),(14,aU dp),(45,aU da),(85,aU ia),(86,aU mL)]) Tryz.f58 mO sU) (by kernel_rfl) Bf)
theorem zl:RK 46 (aU lH) :=
 j9 (A:=rz) (ak jo ay) (aG en (aG cr (aG AZ cP))) Tryz.func46 (by kernel_rfl) (by kernel_rfl) (by exact @link _ (h_ bm (br [(49,fZ)]) (fP [(14,aU dp),(15,aU b7),(58,aU mO)]) Tryz.f46 lH rz) (by kernel_rfl) zy)
theorem F6:PK 59 qQ :=
 mk (A:=xW) (ak fC ay) aP Tryz.func59 (by kernel_rfl) (by kernel_rfl) (by exact @link _ (aR bm (br [(17,eA)]) R0 Tryz.f59 qQ xW) (by kernel_rfl) GZ)
theorem F5:PK 60 qP :=
 mk (A:=b_) (ak uL ay) aP Tryz.func60 (by kernel_rfl) (by kernel_rfl) (by exact @link _ (aR bm (br [(87,mM)]) R0 Tryz.f60 qP b_) (by kernel_rfl) GY)
theorem wH:PK 47 o5 :=
 mk (A:=b_) (ak fC (ak cI (ak F6 (ak F5 ay)))) aP Tryz.func47 (by kernel_rfl) (by kernel_rfl) (by exact @link _ (aR bm (br [(17,eA),(51,cu),(59,qQ),(60,qP)]) R0 Tryz.f47 o5 b_) (by kernel_rfl) MG)
theorem wI:PK 88 o6 :=
 mk (A:=Ed) ay aP Tryz.func88 (by kernel_rfl) (by kernel_rfl) (by exact @link _ (aR bm (br []) R0 Tryz.f88 o6 Ed) (by kernel_rfl) MH)
theorem wL:PK 89 mJ :=
 mk (A:=xT) (ak cI ay) aP Tryz.func89 (by kernel_rfl) (by kernel_rfl) (by exact @link _ (aR bm (br [(51,cu)]) R0 Tryz.f89 mJ xT) (by kernel_rfl) GN)
theorem m3:PK 61 iq :=
 mk (A:=b_) (ak wI (ak wL (ak dC ay))) aP Tryz.func61 (by kernel_rfl) (by kernel_rfl) (by exact @link _ (aR bm (br [(88,o6),(89,mJ),(71,cQ)]) R0 Tryz.f61 iq b_) (by kernel_rfl) GO)
theorem DA:PK 107 pB :=
 mk (A:=b_) ay aP Tryz.func107 (by kernel_rfl) (by kernel_rfl) (by exact @link _ (aR bm (br []) R0 Tryz.f107 pB b_) (by kernel_rfl) DL)
theorem AV:PK 91 p8 :=
 mk (A:=b_) (ak cI (ak wL (ak fC (ak DA (ak wK ay))))) aP Tryz.func91 (by kernel_rfl) (by kernel_rfl) (by exact @link _ (aR bm (br [(51,cu),(89,mJ),(17,eA),(107,pB),(106,o7)]) R0 Tryz.f91 p8 b_) (by kernel_rfl) Ku)
theorem AY:PK 90 p_ :=
 mk (A:=Cs) (ak cI ay) aP Tryz.func90 (by kernel_rfl) (by kernel_rfl) (by exact @link _ (aR bm (br [(51,cu)]) R0 Tryz.f90 p_ Cs) (by kernel_rfl) KA)
theorem Hk:PK 62 su :=
 mk (A:=b_) (ak m3 (ak wI (ak AV (ak AY ay)))) aP Tryz.func62 (by kernel_rfl) (by kernel_rfl) (by exact @link _ (aR bm (br [(61,iq),(88,o6),(91,p8),(90,p_)]) R0 Tryz.f62 su b_) (by kernel_rfl) HG)
theorem oW:PK 92 jm :=
 mk (A:=b_) (ak wK ay) aP Tryz.func92 (by kernel_rfl) (by kernel_rfl) (by exact @link _ (aR bm (br [(106,o7)]) R0 Tryz.f92 jm b_) (by kernel_rfl) HH)
theorem FZ:PK 63 qJ :=
 mk (A:=xP) (ak m3 (ak wI (ak AV (ak oW (ak AY (ak qp ay)))))) aP Tryz.func63 (by kernel_rfl) (by kernel_rfl) (by exact @link _ (aR bm (br [(61,iq),(88,o6),(91,p8),(92,jm),(90,p_),(93,lU)]) R0 Tryz.f63 qJ xP) (by kernel_rfl) GI)
theorem uM:PK 64 mN :=
 mk (A:=b_) (ak m3 ay) aP Tryz.func64 (by kernel_rfl) (by kernel_rfl) (by exact @link _ (aR bm (br [(61,iq)]) R0 Tryz.f64 mN b_) (by kernel_rfl) KB)
theorem J2:PK 65 ud :=
 mk (A:=Cn) (ak uM (ak cI ay)) aP Tryz.func65 (by kernel_rfl) (by kernel_rfl) (by exact @link _ (aR bm (br [(64,mN),(51,cu)]) R0 Tryz.f65 ud Cn) (by kernel_rfl) Kp)
theorem Hm:PK 66 sw :=
 mk (A:=zM) (ak uM (ak cI ay)) aP Tryz.func66 (by kernel_rfl) (by kernel_rfl) (by exact @link _ (aR bm (br [(64,mN),(51,cu)]) R0 Tryz.f66 sw zM) (by kernel_rfl) HK)
theorem AX:PK 94 p9 :=
 mk (A:=Cr) (ak cI (ak iT ay)) aP Tryz.func94 (by kernel_rfl) (by kernel_rfl) (by exact @link _ (aR bm (br [(51,cu),(80,fV)]) R0 Tryz.f94 p9 Cr) (by kernel_rfl) Kz)
theorem Hl:PK 67 sv :=
 mk (A:=b_) (ak iR (ak AX ay)) aP Tryz.func67 (by kernel_rfl) (by kernel_rfl) (by exact @link _ (aR bm (br [(70,fU),(94,p9)]) R0 Tryz.f67 sv b_) (by kernel_rfl) HJ)
theorem F4:PK 95 qO :=
 mk (A:=xV) (ak fC ay) aP Tryz.func95 (by kernel_rfl) (by kernel_rfl) (by exact @link _ (aR bm (br [(17,eA)]) R0 Tryz.f95 qO xV) (by kernel_rfl) GX)
theorem Dy:PK 68 pz :=
 mk (A:=vH) (ak F4 ay) aP Tryz.func68 (by kernel_rfl) (by kernel_rfl) (by exact @link _ (aR bm (br [(95,qO)]) R0 Tryz.f68 pz vH) (by kernel_rfl) DJ)
theorem F1:PK 96 qL :=
 mk (A:=b_) (ak fC (ak dC ay)) aP Tryz.func96 (by kernel_rfl) (by kernel_rfl) (by exact @link _ (aR bm (br [(17,eA),(71,cQ)]) R0 Tryz.f96 qL b_) (by kernel_rfl) GM)
theorem xz:PK 97 ql :=
 mk (A:=b_) (ak cI (ak qe ay)) aP Tryz.func97 (by kernel_rfl) (by kernel_rfl) (by exact @link _ (aR bm (br [(51,cu),(108,kl)]) R0 Tryz.f97 ql b_) (by kernel_rfl) Qh)
theorem DC:PK 69 pD :=
 mk (A:=vK) (ak F1 (ak oW (ak qp (ak xz ay)))) aP Tryz.func69 (by kernel_rfl) (by kernel_rfl) (by exact @link _ (aR bm (br [(96,qL),(92,jm),(93,lU),(97,ql)]) R0 Tryz.f69 pD vK) (by kernel_rfl) DO)
theorem F0:PK 72 qK :=
 mk (A:=xQ) (ak iR (ak dC (ak wG ay))) aP Tryz.func72 (by kernel_rfl) (by kernel_rfl) (by exact @link _ (aR bm (br [(70,fU),(71,cQ),(98,mG)]) R0 Tryz.f72 qK xQ) (by kernel_rfl) GJ)
theorem DE:PK 112 pF :=
 mk (A:=vM) (ak xz (ak AX ay)) aP Tryz.func112 (by kernel_rfl) (by kernel_rfl) (by exact @link _ (aR bm (br [(97,ql),(94,p9)]) R0 Tryz.f112 pF vM) (by kernel_rfl) DS)
theorem DB:PK 111 pC :=
 mk (A:=vJ) (ak iR (ak qp (ak iT ay))) aP Tryz.func111 (by kernel_rfl) (by kernel_rfl) (by exact @link _ (aR bm (br [(70,fU),(93,lU),(80,fV)]) R0 Tryz.f111 pC vJ) (by kernel_rfl) DN)
theorem Mj:PK 113 vU :=
 mk (A:=b_) ay aP Tryz.func113 (by kernel_rfl) (by kernel_rfl) (by exact @link _ (aR bm (br []) R0 Tryz.f113 vU b_) (by kernel_rfl) MK)
theorem Hj:PK 110 sq :=
 mk (A:=zK) (ak iR (ak Mj (ak ID (ak iT ay)))) aP Tryz.func110 (by kernel_rfl) (by kernel_rfl) (by exact @link _ (aR bm (br [(70,fU),(113,vU),(109,xn),(80,fV)]) R0 Tryz.f110 sq zK) (by kernel_rfl) HE)
theorem tJ:PK 100 km :=
 mk (A:=ve) (ak xz (ak qp (ak oW (ak DE (ak DB (ak Hj (ak iT ay))))))) aP Tryz.func100 (by kernel_rfl) (by kernel_rfl) (by exact @link _ (aR bm (br [(97,ql),(93,lU),(92,jm),(112,pF),(111,pC),(110,sq),(80,fV)]) R0 Tryz.f100 km ve) (by kernel_rfl) Ce)
theorem AU:PK 73 mH :=
 mk (A:=b_) (ak wJ (ak dC (ak tJ ay))) aP Tryz.func73 (by kernel_rfl) (by kernel_rfl) (by exact @link _ (aR bm (br [(99,mI),(71,cQ),(100,km)]) R0 Tryz.f73 mH b_) (by kernel_rfl) Bb)
theorem DD:PK 101 pE :=
 mk (A:=vL) (ak jo (ak oW (ak qp (ak xz (ak iT ay))))) aP Tryz.func101 (by kernel_rfl) (by kernel_rfl) (by exact @link _ (aR bm (br [(49,fZ),(92,jm),(93,lU),(97,ql),(80,fV)]) R0 Tryz.f101 pE vL) (by kernel_rfl) DR)
theorem J4:PK 74 uf :=
 mk (A:=b_) (ak iR (ak DD ay)) aP Tryz.func74 (by kernel_rfl) (by kernel_rfl) (by exact @link _ (aR bm (br [(70,fU),(101,pE)]) R0 Tryz.f74 uf b_) (by kernel_rfl) Kr)
theorem J3:PK 103 ue :=
 mk (A:=Co) ay aP Tryz.func103 (by kernel_rfl) (by kernel_rfl) (by exact @link _ (aR bm (br []) R0 Tryz.f103 ue Co) (by kernel_rfl) Kq)
theorem BP:PK 75 nU :=
 mk (A:=u9) (ak yA (ak dC (ak tJ (ak tI (ak J3 ay))))) aP Tryz.func75 (by kernel_rfl) (by kernel_rfl) (by exact @link _ (aR bm (br [(102,oN),(71,cQ),(100,km),(104,kj),(103,ue)]) R0 Tryz.f75 nU u9) (by kernel_rfl) Cb)
theorem J5:PK 48 ug :=
 mk (A:=b_) (ak wH (ak m3 (ak Hk (ak FZ (ak uM (ak J2 (ak Hm (ak Hl (ak Dy (ak DC (ak iR (ak dC (ak F0 (ak AU (ak J4 (ak BP ay)))))))))))))))) aP Tryz.func48 (by kernel_rfl) (by kernel_rfl) (by exact @link _ (aR bm (br [(47,o5),(61,iq),(62,su),(63,qJ),(64,mN),(65,ud),(66,sw),(67,sv),(68,pz),(69,pD),(70,fU),(71,cQ),(72,qK),(73,mH),(74,uf),(75,nU)]) R0 Tryz.f48 ug b_) (by kernel_rfl) Kv)
theorem pK:PK 32 jb :=
 mk (A:=mn) ay aP Tryz.func32 (by kernel_rfl) (by kernel_rfl) (by exact @link _ (aR bm (br []) R0 Tryz.f32 jb mn) (by kernel_rfl) DQ)
theorem yy:PK 76 oL :=
 mk (A:=zO) (ak pK ay) aP Tryz.func76 (by kernel_rfl) (by kernel_rfl) (by exact @link _ (aR bm (br [(32,jb)]) R0 Tryz.f76 oL zO) (by kernel_rfl) HM)
theorem vu:PK 77 lq :=
 mk (A:=vI) (ak fC ay) aP Tryz.func77 (by kernel_rfl) (by kernel_rfl) (by exact @link _ (aR bm (br [(17,eA)]) R0 Tryz.f77 lq vI) (by kernel_rfl) DM)
theorem BR:PK 78 nW :=
 mk (A:=vf) (ak vu (ak yy ay)) aP Tryz.func78 (by kernel_rfl) (by kernel_rfl) (by exact @link _ (aR bm (br [(77,lq),(76,oL)]) R0 Tryz.f78 nW vf) (by kernel_rfl) Cf)
theorem Dz:PK 50 pA :=
 mk (A:=b_) (ak wH (ak yy (ak vu (ak BR ay)))) aP Tryz.func50 (by kernel_rfl) (by kernel_rfl) (by exact @link _ (aR bm (br [(47,o5),(76,oL),(77,lq),(78,nW)]) R0 Tryz.f50 pA b_) (by kernel_rfl) DK)
theorem yz:PK 26 oM :=
 mk (A:=zQ) ay aP Tryz.func26 (by kernel_rfl) (by kernel_rfl) (by exact @link _ (aR bm (br []) R0 Tryz.f26 oM zQ) (by kernel_rfl) HO)
theorem pL:PK 19 jc :=
 mk (A:=b_) ay aP Tryz.func19 (by kernel_rfl) (by kernel_rfl) (by exact @link _ (aR bm (br []) R0 Tryz.f19 jc b_) (by kernel_rfl) DT)
theorem yx:PK 12 oK :=
 mk (A:=zL) (ak fC (ak yz (ak pL ay))) aP Tryz.func12 (by kernel_rfl) (by kernel_rfl) (by exact @link _ (aR bm (br [(17,eA),(26,oM),(19,jc)]) R0 Tryz.f12 oK zL) (by kernel_rfl) HF)
theorem wM:PK 32 mK :=
 mk (A:=xU) ay aP Tryz.func32 (by kernel_rfl) (by kernel_rfl) (by exact @link _ (aR bm (br []) R0 Tryz.f32 mK xU) (by kernel_rfl) GR)
theorem tK:PK 34 kn :=
 mk (A:=b_) (ak jo ay) aP Tryz.func34 (by kernel_rfl) (by kernel_rfl) (by exact @link _ (aR bm (br [(49,fZ)]) R0 Tryz.f34 kn b_) (by kernel_rfl) Cg)
theorem sJ:PK 20 oO :=
 mk (A:=zV) (ak wM (ak tK ay)) aP Tryz.func20 (by kernel_rfl) (by kernel_rfl) (by exact @link _ (aR bm (br [(32,mK),(34,kn)]) R0 Tryz.f20 oO zV) (by kernel_rfl) HQ)
theorem F7:RK 20 (fN vV):=⟨pn (w5 (p:=oO) rfl sJ.1 rfl rfl),sJ.2⟩
theorem wO:PK 22 qR :=
 mk (A:=xX) (ak wM (ak tK (ak sJ (ak yz ay)))) aP Tryz.func22 (by kernel_rfl) (by kernel_rfl) (by exact @link _ (aR bm (br [(32,mK),(34,kn),(20,oO),(26,oM)]) R0 Tryz.f22 qR xX) (by kernel_rfl) G0)
theorem DF:RK 22 (fN vk):=⟨pn (w5 (p:=qR) rfl wO.1 rfl rfl),wO.2⟩
theorem J6:PK 35 uh :=
 mk (A:=Ct) (ak pL ay) aP Tryz.func35 (by kernel_rfl) (by kernel_rfl) (by exact @link _ (aR bm (br [(19,jc)]) R0 Tryz.f35 uh Ct) (by kernel_rfl) KC)
theorem Ho:RK 21 (lC sy) :=
 L5 (A:=zW) (ak J6 ay) aP Tryz.func21 (by kernel_rfl) (by kernel_rfl) rfl (by exact @link _ (tN bm (br [(35,uh)]) R0 Tryz.f21 sy zW) (by kernel_rfl) HR)
theorem yD:TK 6 Ak :=
 tv (A:=b_) (ak yx (ak pL ay)) (og (aG F7 (aG DF (aG Ho cP)))) Tryz.func6 (by kernel_rfl) (by kernel_rfl) (by exact @link _ (nh bm (br [(12,oK),(19,jc)]) (fP [(1000000,uV),(20,fN vV),(22,fN vk),(21,lC sy)]) Tryz.f6 Ak b_) (by kernel_rfl) Kw)
theorem C_:PK 6 vT:=⟨rk yD.1,yD.2⟩
theorem xJ:RK 28 (aU kN) :=
 j9 (A:=qC) (ak wH (ak J5 (ak jo (ak Dz (ak C_ (ak pK ay)))))) (aG cr (aG ec (aG zl (aG en cP)))) Tryz.func28 (by kernel_rfl) (by kernel_rfl) (by exact @link _ (h_ bm (br [(47,o5),(48,ug),(49,fZ),(50,pA),(6,vT),(32,jb)]) (fP [(15,aU b7),(45,aU da),(46,aU lH),(14,aU dp)]) Tryz.f28 kN qC) (by kernel_rfl) xN)
theorem A1:RK 13 (rl mQ) :=
 R9 (A:=b_) ay (aG Hn (aG F3 (aG cr (aG xJ cP)))) Tryz.func13 (by kernel_rfl) (by kernel_rfl) (by exact @link _ (Cl bm (br []) (fP [(27,rl sx),(29,AS qN),(15,aU b7),(28,aU kN)]) Tryz.f13 mQ b_) (by kernel_rfl) Bh)
theorem xH:RK 33 (aU kL) :=
 j9 (A:=qA) ay (aG cr (aG ec cP)) Tryz.func33 (by kernel_rfl) (by kernel_rfl) (by exact @link _ (h_ bm (br []) (fP [(15,aU b7),(45,aU da)]) Tryz.f33 kL qA) (by kernel_rfl) xK)
theorem A0:RK 18 (aU mP) :=
 j9 (A:=sV) (ak pK ay) (aG en (aG cr (aG xH cP))) Tryz.func18 (by kernel_rfl) (by kernel_rfl) (by exact @link _ (h_ bm (br [(32,jb)]) (fP [(14,aU dp),(15,aU b7),(33,aU kL)]) Tryz.f18 mP sV) (by kernel_rfl) Bg)
theorem BQ:RK 5 (wP nV) :=
 U3 (A:=u_) (ak fC ay) (aG A1 (aG en (aG cr (aG iS (aG A0 cP))))) Tryz.func5 (by kernel_rfl) (by kernel_rfl) (by exact @link _ (KF bm (br [(17,eA)]) (fP [(13,rl mQ),(14,aU dp),(15,aU b7),(16,aU fg),(18,aU mP)]) Tryz.f5 nV u_) (by kernel_rfl) Cc)
end Go.SF
