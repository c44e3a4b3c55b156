/- FnExactRunCached: the functions keep their contracts. No condition. -/
import Derived.Test.YtobmiihdfklmaaaGreatSxM1
import Derived.Test.YtobmiihdfklmaaaGreatSxM2
import Derived.Test.YtobmiihdfklmaaaGreatSxM3
import Derived.Test.YtobmiihdfklmaaaGreatSxPFnExactRunCached
import Derived.Shelf.RegionOpenPlain
import Derived.WalkKit
import Derived.Deep.LoopGhost
import Derived.Deep.RegionLaw
import Derived.Lib.Walk
import Derived.Test.YtobmiihdfklmaaaGreatSxTab
import Derived.Test.YtobmiihdfklmaaaGreatChecked
import Derived.KernelRfl
namespace Go.SF
open Go.SX Go.Proofs
set_option maxRecDepth 100000
set_option linter.unusedVariables false
theorem ax{P:Program}:cV P R0:=fun f r h _=>by cases h
theorem al{P:Program}:eI P (aP []):=fun f c h=>by cases h
theorem ah{P:Program}{k:Nat}{c:PC}{r:List (Nat×PC)}(h:n8 P k c/\h_ P k)(hr:eI P (aP r)):eI P (aP ((k,c)::r)):=by
 intro f c' h'
 unfold aP at h'
 split at h'
 ·rename_i e
  injection h' with h'
  subst h';subst e
  exact h
 ·exact hr f c' h'
theorem fw{P:Program}:cV P (kK []):=fun f c h _=>by cases h
theorem cz{P:Program}{k:Nat}{c:cL}{r:List (Nat×cL)}(h:fS P k c/\h_ P k)(hr:cV P (kK r)):cV P (kK ((k,c)::r)):=by
 intro f c' h' bo
 unfold kK at h'
 split at h'
 ·rename_i e
  injection h' with h'
  subst h';subst e
  exact h
 ·exact hr f c' h' bo
theorem mO{P:Program}{r:List (Nat×cL)}(hr:cV P (kK r)):cV P (kK ((1000000,ud)::r)):=by
 intro f c' h' bo
 unfold kK at h'
 split at h'
 ·rename_i e
  exact absurd e bo
 ·exact hr f c' h' bo
abbrev PK(n:Nat)(c:PC):Prop:=n8 Tryz.prog n c/\h_ Tryz.prog n
abbrev RK(n:Nat)(c:cL):Prop:=fS Tryz.prog n c/\h_ Tryz.prog n
abbrev TK(n:Nat)(c:TC):Prop:=xE Tryz.prog n c/\h_ Tryz.prog n
theorem C5:cv Tryz.prog aO:=N5 (by kernel_rfl)
theorem mixed:Tryz.prog.follows .mixedOrders=true:=by kernel_rfl
theorem mk {Γ : FuncId → Option PC} {f : FuncId} {fn : Func} {c : PC} {A : cj c.ts → Nat → Option bg} {R : FuncId → Option cL} (hΓ : eI Tryz.prog Γ) (hR : cV Tryz.prog R) (hf : Tryz.prog.funcs[f]? = some fn) (h1 : (fn.name == "runtime.NumGoroutine") = false) (h2 : fn.body.isNone = false)
    (h : aw aO Γ R fn c A) : n8 Tryz.prog f c ∧ h_ Tryz.prog f := ⟨P6 mixed C5 hΓ hR hf h, fn, hf, h1, h2⟩
theorem YG {Γ : FuncId → Option PC} {R : FuncId → Option cL} {f : FuncId} {fn : Func} {c : MC} {A : c.t.den → Int → Nat → Option bg} (hΓ : eI Tryz.prog Γ) (hR : cV Tryz.prog R) (hf : Tryz.prog.funcs[f]? = some fn) (h1 : (fn.name == "runtime.NumGoroutine") = false) (h2 : fn.body.isNone = false)
    (hl : c.t.MK = true) (h : z9 aO Γ R fn c A) : fS Tryz.prog f (ib c) ∧ h_ Tryz.prog f := ⟨Tz mixed C5 hΓ hR hf hl h, fn, hf, h1, h2⟩
theorem sD {Γ : FuncId → Option PC} {R : FuncId → Option cL} {f : FuncId} {fn : Func} {c : TC} {A : cj c.ts → Nat → Option bg} (hΓ : eI Tryz.prog Γ) (hR : cV Tryz.prog R) (hf : Tryz.prog.funcs[f]? = some fn) (h1 : (fn.name == "runtime.NumGoroutine") = false) (h2 : fn.body.isNone = false)
    (h : mV aO Γ R fn c A) : xE Tryz.prog f c ∧ h_ Tryz.prog f := ⟨Wl mixed C5 hΓ hR hf h, fn, hf, h1, h2⟩
theorem Va {Γ : FuncId → Option PC} {R : FuncId → Option cL} {f : FuncId} {fn : Func} {c : MT} {A : c.t.den → Int → Nat → Option bg} (hΓ : eI Tryz.prog Γ) (hR : cV Tryz.prog R) (hf : Tryz.prog.funcs[f]? = some fn) (h1 : (fn.name == "runtime.NumGoroutine") = false) (h2 : fn.body.isNone = false)
    (hl : c.t.ko Ty.ir = true) (h : yE aO Γ R fn c A) : fS Tryz.prog f (oK c) ∧ h_ Tryz.prog f := ⟨U7 mixed C5 hΓ hR hf hl h, fn, hf, h1, h2⟩
theorem adb {Γ : FuncId → Option PC} {R : FuncId → Option cL} {f : FuncId} {fn : Func} {c : CC} {A : List c.e.den → Nat → Option bg} (hΓ : eI Tryz.prog Γ) (hR : cV Tryz.prog R) (hf : Tryz.prog.funcs[f]? = some fn) (h1 : (fn.name == "runtime.NumGoroutine") = false) (h2 : fn.body.isNone = false)
    (hl : c.e.flat = true) (h : G5 aO Γ R fn c A) : fS Tryz.prog f (mW c) ∧ h_ Tryz.prog f := ⟨Tx mixed C5 hΓ hR hf hl h, fn, hf, h1, h2⟩
theorem link{p q:Prop}(h:p=q)(hp:p):q:=h▸hp
theorem U_ {Γ : FuncId → Option PC} {R : FuncId → Option cL} {f : FuncId} {fn : Func} {c : CT} {A : Int × List c.e.den → Nat → Option bg} (hΓ : eI Tryz.prog Γ) (hR : cV Tryz.prog R) (hf : Tryz.prog.funcs[f]? = some fn) (h1 : (fn.name == "runtime.NumGoroutine") = false) (h2 : fn.body.isNone = false)
    (hl : c.e.ir = true) (h : yD aO Γ R fn c A) : fS Tryz.prog f (oD c) ∧ h_ Tryz.prog f := ⟨TP mixed C5 hΓ hR hf hl h, fn, hf, h1, h2⟩
theorem O8:PK 154 w7 :=
 mk (A:=aY) al ax Tryz.func154 (by kernel_rfl) (by kernel_rfl) (by exact @link _ (aw aO (aP []) R0 Tryz.f154 w7 aY) (by kernel_rfl) PM)
theorem Gv:PK 24 tK :=
 mk (A:=aY) al ax Tryz.func24 (by kernel_rfl) (by kernel_rfl) (by exact @link _ (aw aO (aP []) R0 Tryz.f24 tK aY) (by kernel_rfl) Tg)
theorem Nx:PK 155 uU :=
 mk (A:=aY) (ah Gv al) ax Tryz.func155 (by kernel_rfl) (by kernel_rfl) (by exact @link _ (aw aO (aP [(24,tK)]) R0 Tryz.f155 uU aY) (by kernel_rfl) Ov)
theorem O_:PK 99 w_ :=
 mk (A:=aY) (ah O8 (ah Nx al)) ax Tryz.func99 (by kernel_rfl) (by kernel_rfl) (by exact @link _ (aw aO (aP [(154,w7),(155,uU)]) R0 Tryz.f99 w_ aY) (by kernel_rfl) PO)
theorem Nw:PK 46 uT :=
 mk (A:=Dl) (ah O_ al) ax Tryz.func46 (by kernel_rfl) (by kernel_rfl) (by exact @link _ (aw aO (aP [(99,w_)]) R0 Tryz.f46 uT Dl) (by kernel_rfl) Ou)
theorem O9:PK 15 w9 :=
 mk (A:=aY) (ah Nw al) ax Tryz.func15 (by kernel_rfl) (by kernel_rfl) (by exact @link _ (aw aO (aP [(46,uT)]) R0 Tryz.f15 w9 aY) (by kernel_rfl) PN)
theorem Vs:PK 6 Bj :=
 mk (A:=aY) (ah Gv al) ax Tryz.func6 (by kernel_rfl) (by kernel_rfl) (by exact @link _ (aw aO (aP [(24,tK)]) R0 Tryz.f6 Bj aY) (by kernel_rfl) Wd)
theorem Pa:PK 156 xd :=
 mk (A:=Fb) al ax Tryz.func156 (by kernel_rfl) (by kernel_rfl) (by exact @link _ (aw aO (aP []) R0 Tryz.f156 xd Fb) (by kernel_rfl) PQ)
theorem Gw:PK 41 tL :=
 mk (A:=IF) al ax Tryz.func41 (by kernel_rfl) (by kernel_rfl) (by exact @link _ (aw aO (aP []) R0 Tryz.f41 tL IF) (by kernel_rfl) Th)
theorem NA:PK 157 uW :=
 mk (A:=aY) (ah Gw al) ax Tryz.func157 (by kernel_rfl) (by kernel_rfl) (by exact @link _ (aw aO (aP [(41,tL)]) R0 Tryz.f157 uW aY) (by kernel_rfl) Oy)
theorem DT:PK 105 rY :=
 mk (A:=aY) (ah Pa (ah NA al)) ax Tryz.func105 (by kernel_rfl) (by kernel_rfl) (by exact @link _ (aw aO (aP [(156,xd),(157,uW)]) R0 Tryz.f105 rY aY) (by kernel_rfl) PS)
theorem Nz:PK 50 uV :=
 mk (A:=Dm) (ah DT al) ax Tryz.func50 (by kernel_rfl) (by kernel_rfl) (by exact @link _ (aw aO (aP [(105,rY)]) R0 Tryz.f50 uV Dm) (by kernel_rfl) Ox)
theorem Pb:PK 17 xe :=
 mk (A:=aY) (ah Nz al) ax Tryz.func17 (by kernel_rfl) (by kernel_rfl) (by exact @link _ (aw aO (aP [(50,uV)]) R0 Tryz.f17 xe aY) (by kernel_rfl) PR)
theorem yv:TK 50 n_ :=
 sD (A:=A2) (ah DT al) (mO fw) Tryz.func50 (by kernel_rfl) (by kernel_rfl) (by exact @link _ (mV aO (aP [(105,rY)]) (kK [(1000000,ud)]) Tryz.f50 n_ A2) (by kernel_rfl) KF)
theorem Ke:RK 50 (dw n_):=⟨jG yv.1,yv.2⟩
theorem AJ:TK 17 pL :=
 sD (A:=aY) al (mO (cz Ke fw)) Tryz.func17 (by kernel_rfl) (by kernel_rfl) (by exact @link _ (mV aO (aP []) (kK [(1000000,ud),(50,dw n_)]) Tryz.f17 pL aY) (by kernel_rfl) Ow)
theorem Ny:RK 17 (dw pL):=⟨jG AJ.1,AJ.2⟩
theorem Vt:PK 8 Bk :=
 mk (A:=aY) (ah Gw al) ax Tryz.func8 (by kernel_rfl) (by kernel_rfl) (by exact @link _ (aw aO (aP [(41,tL)]) R0 Tryz.f8 Bk aY) (by kernel_rfl) We)
theorem iz:PK 63 gf :=
 mk (A:=aY) al ax Tryz.func63 (by kernel_rfl) (by kernel_rfl) (by exact @link _ (aw aO (aP []) R0 Tryz.f63 gf aY) (by kernel_rfl) Wi)
theorem xy:PK 100 nM :=
 mk (A:=Fi) al ax Tryz.func100 (by kernel_rfl) (by kernel_rfl) (by exact @link _ (aw aO (aP []) R0 Tryz.f100 nM Fi) (by kernel_rfl) P2)
theorem tr:PK 101 ln :=
 mk (A:=aY) al ax Tryz.func101 (by kernel_rfl) (by kernel_rfl) (by exact @link _ (aw aO (aP []) R0 Tryz.f101 ln aY) (by kernel_rfl) KQ)
theorem xx:PK 47 nL :=
 mk (A:=Fe) (ah iz (ah xy (ah tr al))) ax Tryz.func47 (by kernel_rfl) (by kernel_rfl) (by exact @link _ (aw aO (aP [(63,gf),(100,nM),(101,ln)]) R0 Tryz.f47 nL Fe) (by kernel_rfl) PU)
theorem B_:PK 111 pQ :=
 mk (A:=rO) al ax Tryz.func111 (by kernel_rfl) (by kernel_rfl) (by exact @link _ (aw aO (aP []) R0 Tryz.f111 pQ rO) (by kernel_rfl) OG)
theorem sd:PK 133 lG :=
 mk (A:=Fg) al ax Tryz.func133 (by kernel_rfl) (by kernel_rfl) (by exact @link _ (aw aO (aP []) R0 Tryz.f133 lG Fg) (by kernel_rfl) P0)
theorem yu:PK 112 m_ :=
 mk (A:=aY) (ah sd al) ax Tryz.func112 (by kernel_rfl) (by kernel_rfl) (by exact @link _ (aw aO (aP [(133,lG)]) R0 Tryz.f112 m_ aY) (by kernel_rfl) Iv)
theorem n0:PK 55 lH :=
 mk (A:=Fj) (ah B_ (ah yu al)) ax Tryz.func55 (by kernel_rfl) (by kernel_rfl) (by exact @link _ (aw aO (aP [(111,pQ),(112,m_)]) R0 Tryz.f55 lH Fj) (by kernel_rfl) P4)
theorem eA:PK 64 dK :=
 mk (A:=aY) al ax Tryz.func64 (by kernel_rfl) (by kernel_rfl) (by exact @link _ (aw aO (aP []) R0 Tryz.f64 dK aY) (by kernel_rfl) PX)
theorem NI:PK 65 u6 :=
 mk (A:=Du) (ah iz al) ax Tryz.func65 (by kernel_rfl) (by kernel_rfl) (by exact @link _ (aw aO (aP [(63,gf)]) R0 Tryz.f65 u6 Du) (by kernel_rfl) OJ)
theorem Gz:PK 124 tN :=
 mk (A:=IJ) al ax Tryz.func124 (by kernel_rfl) (by kernel_rfl) (by exact @link _ (aw aO (aP []) R0 Tryz.f124 tN IJ) (by kernel_rfl) Tr)
theorem NH:PK 66 u5 :=
 mk (A:=aY) (ah Gz al) ax Tryz.func66 (by kernel_rfl) (by kernel_rfl) (by exact @link _ (aw aO (aP [(124,tN)]) R0 Tryz.f66 u5 aY) (by kernel_rfl) OI)
theorem B5:PK 25 so :=
 mk (A:=aY) (ah iz (ah eA (ah NI (ah NH al)))) ax Tryz.func25 (by kernel_rfl) (by kernel_rfl) (by exact @link _ (aw aO (aP [(63,gf),(64,dK),(65,u6),(66,u5)]) R0 Tryz.f25 so aY) (by kernel_rfl) Wf)
theorem B6:PK 67 sq :=
 mk (A:=Lg) al ax Tryz.func67 (by kernel_rfl) (by kernel_rfl) (by exact @link _ (aw aO (aP []) R0 Tryz.f67 sq Lg) (by kernel_rfl) Wg)
theorem B9:PK 68 pP :=
 mk (A:=Ds) (ah eA al) ax Tryz.func68 (by kernel_rfl) (by kernel_rfl) (by exact @link _ (aw aO (aP [(64,dK)]) R0 Tryz.f68 pP Ds) (by kernel_rfl) OE)
theorem eM:PK 36 dE :=
 mk (A:=xK) (ah eA (ah iz al)) ax Tryz.func36 (by kernel_rfl) (by kernel_rfl) (by exact @link _ (aw aO (aP [(64,dK),(63,gf)]) R0 Tryz.f36 dE xK) (by kernel_rfl) G3)
theorem ql:PK 26 kg :=
 mk (A:=aY) (ah B6 (ah B9 (ah eM al))) ax Tryz.func26 (by kernel_rfl) (by kernel_rfl) (by exact @link _ (aw aO (aP [(67,sq),(68,pP),(36,dE)]) R0 Tryz.f26 kg aY) (by kernel_rfl) OF)
theorem Kh:PK 126 tg :=
 mk (A:=aY) al ax Tryz.func126 (by kernel_rfl) (by kernel_rfl) (by exact @link _ (aw aO (aP []) R0 Tryz.f126 tg aY) (by kernel_rfl) KI)
theorem tX:PK 127 m8 :=
 mk (A:=aY) (ah eA al) ax Tryz.func127 (by kernel_rfl) (by kernel_rfl) (by exact @link _ (aw aO (aP [(64,dK)]) R0 Tryz.f127 m8 aY) (by kernel_rfl) Tn)
theorem B8:PK 125 su :=
 mk (A:=Lh) (ah eA (ah tX al)) ax Tryz.func125 (by kernel_rfl) (by kernel_rfl) (by exact @link _ (aw aO (aP [(64,dK),(127,m8)]) R0 Tryz.f125 su Lh) (by kernel_rfl) Wh)
theorem Gy:PK 70 tM :=
 mk (A:=aY) (ah eA (ah B9 (ah iz (ah Kh (ah B8 al))))) ax Tryz.func70 (by kernel_rfl) (by kernel_rfl) (by exact @link _ (aw aO (aP [(64,dK),(68,pP),(63,gf),(126,tg),(125,su)]) R0 Tryz.f70 tM aY) (by kernel_rfl) To)
theorem GD:PK 69 tP :=
 mk (A:=IM) (ah eA al) ax Tryz.func69 (by kernel_rfl) (by kernel_rfl) (by exact @link _ (aw aO (aP [(64,dK)]) R0 Tryz.f69 tP IM) (by kernel_rfl) Tu)
theorem Pd:PK 27 xg :=
 mk (A:=aY) (ah ql (ah B6 (ah Gy (ah GD al)))) ax Tryz.func27 (by kernel_rfl) (by kernel_rfl) (by exact @link _ (aw aO (aP [(26,kg),(67,sq),(70,tM),(69,tP)]) R0 Tryz.f27 xg aY) (by kernel_rfl) PV)
theorem r_:PK 71 lF :=
 mk (A:=aY) (ah B8 al) ax Tryz.func71 (by kernel_rfl) (by kernel_rfl) (by exact @link _ (aw aO (aP [(125,su)]) R0 Tryz.f71 lF aY) (by kernel_rfl) PW)
theorem ux:PK 72 oX :=
 mk (A:=aY) (ah eA (ah tX al)) ax Tryz.func72 (by kernel_rfl) (by kernel_rfl) (by exact @link _ (aw aO (aP [(64,dK),(127,m8)]) R0 Tryz.f72 oX aY) (by kernel_rfl) Z9)
theorem NB:PK 28 uX :=
 mk (A:=Dn) (ah ql (ah B6 (ah Gy (ah r_ (ah GD (ah ux al)))))) ax Tryz.func28 (by kernel_rfl) (by kernel_rfl) (by exact @link _ (aw aO (aP [(26,kg),(67,sq),(70,tM),(71,lF),(69,tP),(72,oX)]) R0 Tryz.f28 uX Dn) (by kernel_rfl) Oz)
theorem zJ:PK 29 pR :=
 mk (A:=aY) (ah ql al) ax Tryz.func29 (by kernel_rfl) (by kernel_rfl) (by exact @link _ (aw aO (aP [(26,kg)]) R0 Tryz.f29 pR aY) (by kernel_rfl) Tv)
theorem Sz:PK 30 y1 :=
 mk (A:=IG) (ah zJ (ah eA al)) ax Tryz.func30 (by kernel_rfl) (by kernel_rfl) (by exact @link _ (aw aO (aP [(29,pR),(64,dK)]) R0 Tryz.f30 y1 IG) (by kernel_rfl) Ti)
theorem Pf:PK 31 xi :=
 mk (A:=Ff) (ah zJ (ah eA al)) ax Tryz.func31 (by kernel_rfl) (by kernel_rfl) (by exact @link _ (aw aO (aP [(29,pR),(64,dK)]) R0 Tryz.f31 xi Ff) (by kernel_rfl) PZ)
theorem k8:PK 35 ij :=
 mk (A:=aY) (ah eM al) ax Tryz.func35 (by kernel_rfl) (by kernel_rfl) (by exact @link _ (aw aO (aP [(36,dE)]) R0 Tryz.f35 ij aY) (by kernel_rfl) Tm)
theorem nk:PK 128 jw :=
 mk (A:=IK) (ah sd al) ax Tryz.func128 (by kernel_rfl) (by kernel_rfl) (by exact @link _ (aw aO (aP [(133,lG)]) R0 Tryz.f128 jw IK) (by kernel_rfl) Ts)
theorem GC:PK 73 tO :=
 mk (A:=IL) (ah eA (ah nk al)) ax Tryz.func73 (by kernel_rfl) (by kernel_rfl) (by exact @link _ (aw aO (aP [(64,dK),(128,jw)]) R0 Tryz.f73 tO IL) (by kernel_rfl) Tt)
theorem Pe:PK 32 xh :=
 mk (A:=aY) (ah k8 (ah GC al)) ax Tryz.func32 (by kernel_rfl) (by kernel_rfl) (by exact @link _ (aw aO (aP [(35,ij),(73,tO)]) R0 Tryz.f32 xh aY) (by kernel_rfl) PY)
theorem NG:PK 74 u0 :=
 mk (A:=Dt) (ah iz al) ax Tryz.func74 (by kernel_rfl) (by kernel_rfl) (by exact @link _ (aw aO (aP [(63,gf)]) R0 Tryz.f74 u0 Dt) (by kernel_rfl) OH)
theorem Kf:PK 33 td :=
 mk (A:=A3) (ah NG al) ax Tryz.func33 (by kernel_rfl) (by kernel_rfl) (by exact @link _ (aw aO (aP [(74,u0)]) R0 Tryz.f33 td A3) (by kernel_rfl) KG)
theorem NF:PK 75 uZ :=
 mk (A:=aY) (ah iz (ah eM al)) ax Tryz.func75 (by kernel_rfl) (by kernel_rfl) (by exact @link _ (aw aO (aP [(63,gf),(36,dE)]) R0 Tryz.f75 uZ aY) (by kernel_rfl) OD)
theorem CZ:PK 76 um :=
 mk (A:=aY) (ah eA (ah tX al)) ax Tryz.func76 (by kernel_rfl) (by kernel_rfl) (by exact @link _ (aw aO (aP [(64,dK),(127,m8)]) R0 Tryz.f76 um aY) (by kernel_rfl) Z_)
theorem Kk:PK 34 tk :=
 mk (A:=A6) (ah NF (ah r_ (ah ux (ah CZ al)))) ax Tryz.func34 (by kernel_rfl) (by kernel_rfl) (by exact @link _ (aw aO (aP [(75,uZ),(71,lF),(72,oX),(76,um)]) R0 Tryz.f34 tk A6) (by kernel_rfl) KM)
theorem QW:PK 129 CO :=
 mk (A:=aY) (ah eA (ah tX al)) ax Tryz.func129 (by kernel_rfl) (by kernel_rfl) (by exact @link _ (aw aO (aP [(64,dK),(127,m8)]) R0 Tryz.f129 CO aY) (by kernel_rfl) Z8)
theorem B4:PK 77 pM :=
 mk (A:=Dq) (ah k8 (ah B8 (ah ux (ah QW al)))) ax Tryz.func77 (by kernel_rfl) (by kernel_rfl) (by exact @link _ (aw aO (aP [(35,ij),(125,su),(72,oX),(129,CO)]) R0 Tryz.f77 pM Dq) (by kernel_rfl) OB)
theorem ND:PK 37 uY :=
 mk (A:=Dp) (ah k8 (ah eM (ah B4 al))) ax Tryz.func37 (by kernel_rfl) (by kernel_rfl) (by exact @link _ (aw aO (aP [(35,ij),(36,dE),(77,pM)]) R0 Tryz.f37 uY Dp) (by kernel_rfl) OA)
theorem B7:PK 78 pO :=
 mk (A:=Dr) (ah iz (ah eM (ah Gz al))) ax Tryz.func78 (by kernel_rfl) (by kernel_rfl) (by exact @link _ (aw aO (aP [(63,gf),(36,dE),(124,tN)]) R0 Tryz.f78 pO Dr) (by kernel_rfl) OC)
theorem Kn:PK 132 tq :=
 mk (A:=A8) (ah CZ (ah GC al)) ax Tryz.func132 (by kernel_rfl) (by kernel_rfl) (by exact @link _ (aw aO (aP [(76,um),(73,tO)]) R0 Tryz.f132 tq A8) (by kernel_rfl) KP)
theorem Kj:PK 131 tj :=
 mk (A:=A5) (ah k8 (ah ux (ah nk al))) ax Tryz.func131 (by kernel_rfl) (by kernel_rfl) (by exact @link _ (aw aO (aP [(35,ij),(72,oX),(128,jw)]) R0 Tryz.f131 tj A5) (by kernel_rfl) KL)
theorem Vv:PK 169 Bl :=
 mk (A:=aY) al ax Tryz.func169 (by kernel_rfl) (by kernel_rfl) (by exact @link _ (aw aO (aP []) R0 Tryz.f169 Bl aY) (by kernel_rfl) Wj)
theorem Pc:PK 130 xf :=
 mk (A:=Fc) (ah k8 (ah Vv (ah QW (ah nk al)))) ax Tryz.func130 (by kernel_rfl) (by kernel_rfl) (by exact @link _ (aw aO (aP [(35,ij),(169,Bl),(129,CO),(128,jw)]) R0 Tryz.f130 xf Fc) (by kernel_rfl) PT)
theorem yq:PK 79 m9 :=
 mk (A:=Ap) (ah CZ (ah ux (ah r_ (ah Kn (ah Kj (ah Pc (ah nk al))))))) ax Tryz.func79 (by kernel_rfl) (by kernel_rfl) (by exact @link _ (aw aO (aP [(76,um),(72,oX),(71,lF),(132,tq),(131,tj),(130,xf),(128,jw)]) R0 Tryz.f79 m9 Ap) (by kernel_rfl) It)
theorem Gx:PK 38 pN :=
 mk (A:=aY) (ah B7 (ah eM (ah yq al))) ax Tryz.func38 (by kernel_rfl) (by kernel_rfl) (by exact @link _ (aw aO (aP [(78,pO),(36,dE),(79,m9)]) R0 Tryz.f38 pN aY) (by kernel_rfl) G2)
theorem Km:PK 80 tp :=
 mk (A:=A7) (ah sd (ah r_ (ah ux (ah CZ (ah nk al))))) ax Tryz.func80 (by kernel_rfl) (by kernel_rfl) (by exact @link _ (aw aO (aP [(133,lG),(71,lF),(72,oX),(76,um),(128,jw)]) R0 Tryz.f80 tp A7) (by kernel_rfl) KO)
theorem SC:PK 39 y3 :=
 mk (A:=aY) (ah k8 (ah Km al)) ax Tryz.func39 (by kernel_rfl) (by kernel_rfl) (by exact @link _ (aw aO (aP [(35,ij),(80,tp)]) R0 Tryz.f39 y3 aY) (by kernel_rfl) Tk)
theorem DV:PK 81 r4 :=
 mk (A:=aY) (ah B7 (ah iz al)) ax Tryz.func81 (by kernel_rfl) (by kernel_rfl) (by exact @link _ (aw aO (aP [(78,pO),(63,gf)]) R0 Tryz.f81 r4 aY) (by kernel_rfl) P3)
theorem HS:PK 83 rm :=
 mk (A:=Ao) (ah DV (ah eM (ah nk (ah B4 al)))) ax Tryz.func83 (by kernel_rfl) (by kernel_rfl) (by exact @link _ (aw aO (aP [(81,r4),(36,dE),(128,jw),(77,pM)]) R0 Tryz.f83 rm Ao) (by kernel_rfl) Is)
theorem SA:PK 82 y2 :=
 mk (A:=IH) al ax Tryz.func82 (by kernel_rfl) (by kernel_rfl) (by exact @link _ (aw aO (aP []) R0 Tryz.f82 y2 IH) (by kernel_rfl) Tj)
theorem HR:PK 40 rl :=
 mk (A:=An) (ah DV (ah eM (ah yq (ah HS (ah SA al))))) ax Tryz.func40 (by kernel_rfl) (by kernel_rfl) (by exact @link _ (aw aO (aP [(81,r4),(36,dE),(79,m9),(83,rm),(82,y2)]) R0 Tryz.f40 rl An) (by kernel_rfl) Ir)
theorem SE:PK 7 y5 :=
 mk (A:=aY) (ah B5 (ah ql (ah Pd (ah NB (ah zJ (ah Sz (ah Pf (ah Pe (ah Kf (ah Kk (ah k8 (ah eM (ah ND (ah Gx (ah SC (ah HR al)))))))))))))))) ax Tryz.func7 (by kernel_rfl) (by kernel_rfl) (by exact @link _ (aw aO (aP [(25,so),(26,kg),(27,xg),(28,uX),(29,pR),(30,y1),(31,xi),(32,xh),(33,td),(34,tk),(35,ij),(36,dE),(37,uY),(38,pN),(39,y3),(40,rl)]) R0 Tryz.f7 y5 aY) (by kernel_rfl) Tp)
theorem Kl:PK 111 tm :=
 mk (A:=rO) al ax Tryz.func111 (by kernel_rfl) (by kernel_rfl) (by exact @link _ (aw aO (aP []) R0 Tryz.f111 tm rO) (by kernel_rfl) KN)
theorem DU:PK 113 rZ :=
 mk (A:=Fh) (ah Kl al) ax Tryz.func113 (by kernel_rfl) (by kernel_rfl) (by exact @link _ (aw aO (aP [(111,tm)]) R0 Tryz.f113 rZ Fh) (by kernel_rfl) P1)
theorem AI:PK 114 oa :=
 mk (A:=A4) (ah iz al) ax Tryz.func114 (by kernel_rfl) (by kernel_rfl) (by exact @link _ (aw aO (aP [(63,gf)]) R0 Tryz.f114 oa A4) (by kernel_rfl) KJ)
theorem HT:PK 115 rn :=
 mk (A:=Aq) (ah AI (ah DU al)) ax Tryz.func115 (by kernel_rfl) (by kernel_rfl) (by exact @link _ (aw aO (aP [(114,oa),(113,rZ)]) R0 Tryz.f115 rn Aq) (by kernel_rfl) Iu)
theorem Kg:PK 56 tf :=
 mk (A:=aY) (ah B5 (ah DU (ah AI (ah HT al)))) ax Tryz.func56 (by kernel_rfl) (by kernel_rfl) (by exact @link _ (aw aO (aP [(25,so),(113,rZ),(114,oa),(115,rn)]) R0 Tryz.f56 tf aY) (by kernel_rfl) KH)
theorem vA:PK 116 pT :=
 mk (A:=Dv) (ah B_ (ah yu (ah n0 (ah xy al)))) ax Tryz.func116 (by kernel_rfl) (by kernel_rfl) (by exact @link _ (aw aO (aP [(111,pQ),(112,m_),(55,lH),(100,nM)]) R0 Tryz.f116 pT Dv) (by kernel_rfl) OK)
theorem GF:PK 112 pS :=
 mk (A:=aY) (ah sd al) ax Tryz.func112 (by kernel_rfl) (by kernel_rfl) (by exact @link _ (aw aO (aP [(133,lG)]) R0 Tryz.f112 pS aY) (by kernel_rfl) G4)
theorem SD:PK 57 y4 :=
 mk (A:=II) (ah xx (ah n0 (ah xy (ah vA (ah GF al))))) ax Tryz.func57 (by kernel_rfl) (by kernel_rfl) (by exact @link _ (aw aO (aP [(47,nL),(55,lH),(100,nM),(116,pT),(112,pS)]) R0 Tryz.f57 y4 II) (by kernel_rfl) Tl)
theorem NJ:RK 55 (dw Bm):=⟨jG (Ct (p:=lH) rfl n0.1 rfl rfl),n0.2⟩
theorem Ko:RK 116 (dw Aw):=⟨jG (Ct (p:=pT) rfl vA.1 rfl rfl),vA.2⟩
theorem SG:PK 163 y6 :=
 mk (A:=IN) (ah tr al) ax Tryz.func163 (by kernel_rfl) (by kernel_rfl) (by exact @link _ (aw aO (aP [(101,ln)]) R0 Tryz.f163 y6 IN) (by kernel_rfl) Tw)
theorem Pg:RK 117 (oD xj) :=
 U_ (A:=Fk) (ah SG al) ax Tryz.func117 (by kernel_rfl) (by kernel_rfl) rfl (by exact @link _ (yD aO (aP [(163,y6)]) R0 Tryz.f117 xj Fk) (by kernel_rfl) P5)
theorem DX:TK 58 FG :=
 sD (A:=aY) (ah xx (ah tr al)) (mO (cz NJ (cz Ko (cz Pg fw)))) Tryz.func58 (by kernel_rfl) (by kernel_rfl) (by exact @link _ (mV aO (aP [(47,nL),(101,ln)]) (kK [(1000000,ud),(55,dw Bm),(116,dw Aw),(117,oD xj)]) Tryz.f58 FG aY) (by kernel_rfl) Tq)
theorem Vu:PK 58 I2:=⟨BY DX.1,DX.2⟩
theorem Ki:PK 20 th :=
 mk (A:=aY) (ah xx (ah n0 (ah B5 (ah SE (ah Kg (ah SD (ah Vu al))))))) ax Tryz.func20 (by kernel_rfl) (by kernel_rfl) (by exact @link _ (aw aO (aP [(47,nL),(55,lH),(25,so),(7,y5),(56,tf),(57,y4),(58,I2)]) R0 Tryz.f20 th aY) (by kernel_rfl) KK)
theorem DS:PK 158 rX :=
 mk (A:=aY) al ax Tryz.func158 (by kernel_rfl) (by kernel_rfl) (by exact @link _ (aw aO (aP []) R0 Tryz.f158 rX aY) (by kernel_rfl) PF)
theorem B1:PK 106 pI :=
 mk (A:=Dh) (ah DS al) ax Tryz.func106 (by kernel_rfl) (by kernel_rfl) (by exact @link _ (aw aO (aP [(158,rX)]) R0 Tryz.f106 pI Dh) (by kernel_rfl) Om)
theorem HI:PK 161 re :=
 mk (A:=aY) al ax Tryz.func161 (by kernel_rfl) (by kernel_rfl) (by exact @link _ (aw aO (aP []) R0 Tryz.f161 re aY) (by kernel_rfl) Ib)
theorem Ns:PK 160 uP :=
 mk (A:=aY) (ah HI al) ax Tryz.func160 (by kernel_rfl) (by kernel_rfl) (by exact @link _ (aw aO (aP [(161,re)]) R0 Tryz.f160 uP aY) (by kernel_rfl) Oi)
theorem Gp:PK 159 (pB 160) :=
 mk (A:=xF) (ah Ns al) ax Tryz.func159 (by kernel_rfl) (by kernel_rfl) (by exact @link _ (aw aO (aP [(160,uP)]) R0 Tryz.f159 (pB 160) xF) (by kernel_rfl) GU)
theorem xu:PK 107 nI :=
 mk (A:=aY) (ah Gp al) ax Tryz.func107 (by kernel_rfl) (by kernel_rfl) (by exact @link _ (aw aO (aP [(159,(pB 160))]) R0 Tryz.f107 nI aY) (by kernel_rfl) Pu)
theorem xw:PK 51 nK :=
 mk (A:=E6) (ah B1 (ah xu al)) ax Tryz.func51 (by kernel_rfl) (by kernel_rfl) (by exact @link _ (aw aO (aP [(106,pI),(107,nI)]) R0 Tryz.f51 nK E6) (by kernel_rfl) Py)
theorem yo:PK 164 m5 :=
 mk (A:=aY) al ax Tryz.func164 (by kernel_rfl) (by kernel_rfl) (by exact @link _ (aw aO (aP []) R0 Tryz.f164 m5 aY) (by kernel_rfl) Ig)
theorem AG:PK 118 n9 :=
 mk (A:=aY) (ah yo al) ax Tryz.func118 (by kernel_rfl) (by kernel_rfl) (by exact @link _ (aw aO (aP [(164,m5)]) R0 Tryz.f118 n9 aY) (by kernel_rfl) Kt)
theorem wC:TK 59 gC :=
 sD (A:=AS) (ah AG al) (mO fw) Tryz.func59 (by kernel_rfl) (by kernel_rfl) (by exact @link _ (mV aO (aP [(118,n9)]) (kK [(1000000,ud)]) Tryz.f59 gC AS) (by kernel_rfl) Ie)
theorem nj:RK 59 (dw gC):=⟨jG wC.1,wC.2⟩
theorem jT:PK 134 gL :=
 mk (A:=aY) al ax Tryz.func134 (by kernel_rfl) (by kernel_rfl) (by exact @link _ (aw aO (aP []) R0 Tryz.f134 gL aY) (by kernel_rfl) Pv)
theorem Nr:PK 135 uO :=
 mk (A:=Dc) al ax Tryz.func135 (by kernel_rfl) (by kernel_rfl) (by exact @link _ (aw aO (aP []) R0 Tryz.f135 uO Dc) (by kernel_rfl) Og)
theorem Vq:PK 136 Bh :=
 mk (A:=aY) al ax Tryz.func136 (by kernel_rfl) (by kernel_rfl) (by exact @link _ (aw aO (aP []) R0 Tryz.f136 Bh aY) (by kernel_rfl) Wb)
theorem JB:PK 84 vU :=
 mk (A:=aY) (ah jT (ah Nr (ah Vq al))) ax Tryz.func84 (by kernel_rfl) (by kernel_rfl) (by exact @link _ (aw aO (aP [(134,gL),(135,uO),(136,Bh)]) R0 Tryz.f84 vU aY) (by kernel_rfl) V8)
theorem wA:PK 140 oW :=
 mk (A:=Lc) al ax Tryz.func140 (by kernel_rfl) (by kernel_rfl) (by exact @link _ (aw aO (aP []) R0 Tryz.f140 oW Lc) (by kernel_rfl) V9)
theorem eK:PK 141 dD :=
 mk (A:=xG) al ax Tryz.func141 (by kernel_rfl) (by kernel_rfl) (by exact @link _ (aw aO (aP []) R0 Tryz.f141 dD xG) (by kernel_rfl) GX)
theorem qj:PK 89 jv :=
 mk (A:=xI) (ah jT (ah wA (ah eK al))) ax Tryz.func89 (by kernel_rfl) (by kernel_rfl) (by exact @link _ (aw aO (aP [(134,gL),(140,oW),(141,dD)]) R0 Tryz.f89 jv xI) (by kernel_rfl) G1)
theorem Nu:PK 185 uR :=
 mk (A:=Dg) al ax Tryz.func185 (by kernel_rfl) (by kernel_rfl) (by exact @link _ (aw aO (aP []) R0 Tryz.f185 uR Dg) (by kernel_rfl) Ol)
theorem Nt:PK 170 uQ :=
 mk (A:=Df) (ah wA (ah Nu al)) ax Tryz.func170 (by kernel_rfl) (by kernel_rfl) (by exact @link _ (aw aO (aP [(140,oW),(185,uR)]) R0 Tryz.f170 uQ Df) (by kernel_rfl) Ok)
theorem kv:PK 173 iD :=
 mk (A:=aY) al ax Tryz.func173 (by kernel_rfl) (by kernel_rfl) (by exact @link _ (aw aO (aP []) R0 Tryz.f173 iD aY) (by kernel_rfl) Z6)
theorem JC:PK 187 vV :=
 mk (A:=Ld) (ah kv al) ax Tryz.func187 (by kernel_rfl) (by kernel_rfl) (by exact @link _ (aw aO (aP [(173,iD)]) R0 Tryz.f187 vV Ld) (by kernel_rfl) V_)
theorem Xq:PK 186 Ef :=
 mk (A:=aY) (ah JC al) ax Tryz.func186 (by kernel_rfl) (by kernel_rfl) (by exact @link _ (aw aO (aP [(187,vV)]) R0 Tryz.f186 Ef aY) (by kernel_rfl) XR)
theorem CY:PK 174 uk :=
 mk (A:=aY) al ax Tryz.func174 (by kernel_rfl) (by kernel_rfl) (by exact @link _ (aw aO (aP []) R0 Tryz.f174 uk aY) (by kernel_rfl) Z5)
theorem pa:PK 175 lE :=
 mk (A:=aY) al ax Tryz.func175 (by kernel_rfl) (by kernel_rfl) (by exact @link _ (aw aO (aP []) R0 Tryz.f175 lE aY) (by kernel_rfl) Z7)
theorem Vp:PK 171 Bg :=
 mk (A:=Le) (ah Xq (ah kv (ah CY (ah pa al)))) ax Tryz.func171 (by kernel_rfl) (by kernel_rfl) (by exact @link _ (aw aO (aP [(186,Ef),(173,iD),(174,uk),(175,lE)]) R0 Tryz.f171 Bg Le) (by kernel_rfl) Wa)
theorem xv:PK 137 nJ :=
 mk (A:=E5) (ah Nt (ah wA (ah Vp al))) ax Tryz.func137 (by kernel_rfl) (by kernel_rfl) (by exact @link _ (aw aO (aP [(170,uQ),(140,oW),(171,Bg)]) R0 Tryz.f137 nJ E5) (by kernel_rfl) Pw)
theorem OX:PK 85 wR :=
 mk (A:=aY) (ah qj (ah xv al)) ax Tryz.func85 (by kernel_rfl) (by kernel_rfl) (by exact @link _ (aw aO (aP [(89,jv),(137,nJ)]) R0 Tryz.f85 wR aY) (by kernel_rfl) Pp)
theorem Np:PK 86 uM :=
 mk (A:=aY) (ah qj al) ax Tryz.func86 (by kernel_rfl) (by kernel_rfl) (by exact @link _ (aw aO (aP [(89,jv)]) R0 Tryz.f86 uM aY) (by kernel_rfl) Oe)
theorem nY:PK 172 jM :=
 mk (A:=aY) (ah JC al) ax Tryz.func172 (by kernel_rfl) (by kernel_rfl) (by exact @link _ (aw aO (aP [(187,vV)]) R0 Tryz.f172 jM aY) (by kernel_rfl) Px)
theorem BZ:PK 138 pD :=
 mk (A:=Dd) (ah nY (ah xv (ah kv al))) ax Tryz.func138 (by kernel_rfl) (by kernel_rfl) (by exact @link _ (aw aO (aP [(172,jM),(137,nJ),(173,iD)]) R0 Tryz.f138 pD Dd) (by kernel_rfl) Oh)
theorem Nn:PK 87 uK :=
 mk (A:=aY) (ah qj (ah BZ al)) ax Tryz.func87 (by kernel_rfl) (by kernel_rfl) (by exact @link _ (aw aO (aP [(89,jv),(138,pD)]) R0 Tryz.f87 uK aY) (by kernel_rfl) Oc)
theorem oN:PK 89 iK :=
 mk (A:=vL) (ah jT (ah wA (ah eK al))) ax Tryz.func89 (by kernel_rfl) (by kernel_rfl) (by exact @link _ (aw aO (aP [(134,gL),(140,oW),(141,dD)]) R0 Tryz.f89 iK vL) (by kernel_rfl) EU)
theorem J5:PK 139 s5 :=
 mk (A:=AU) (ah kv al) ax Tryz.func139 (by kernel_rfl) (by kernel_rfl) (by exact @link _ (aw aO (aP [(173,iD)]) R0 Tryz.f139 s5 AU) (by kernel_rfl) Kv)
theorem Sp:PK 88 yS :=
 mk (A:=aY) (ah oN (ah xv (ah J5 (ah BZ al)))) ax Tryz.func88 (by kernel_rfl) (by kernel_rfl) (by exact @link _ (aw aO (aP [(89,iK),(137,nJ),(139,s5),(138,pD)]) R0 Tryz.f88 yS aY) (by kernel_rfl) S7)
theorem O3:PK 142 wW :=
 mk (A:=E_) (ah kv (ah CY (ah pa al))) ax Tryz.func142 (by kernel_rfl) (by kernel_rfl) (by exact @link _ (aw aO (aP [(173,iD),(174,uk),(175,lE)]) R0 Tryz.f142 wW E_) (by kernel_rfl) PE)
theorem OZ:PK 90 wT :=
 mk (A:=aY) (ah oN (ah O3 al)) ax Tryz.func90 (by kernel_rfl) (by kernel_rfl) (by exact @link _ (aw aO (aP [(89,iK),(142,wW)]) R0 Tryz.f90 wT aY) (by kernel_rfl) Pr)
theorem rA:PK 143 kf :=
 mk (A:=Aj) (ah jT (ah eK al)) ax Tryz.func143 (by kernel_rfl) (by kernel_rfl) (by exact @link _ (aw aO (aP [(134,gL),(141,dD)]) R0 Tryz.f143 kf Aj) (by kernel_rfl) Ij)
theorem nZ:RK 176 (mW jN) :=
 adb (A:=E9) al ax Tryz.func176 (by kernel_rfl) (by kernel_rfl) rfl (by exact @link _ (G5 aO (aP []) R0 Tryz.f176 jN E9) (by kernel_rfl) PD)
theorem DQ:PK 144 rV :=
 mk (A:=E7) al (cz nZ fw) Tryz.func144 (by kernel_rfl) (by kernel_rfl) (by exact @link _ (aw aO (aP []) (kK [(176,mW jN)]) Tryz.f144 rV E7) (by kernel_rfl) PA)
theorem OY:PK 91 wS :=
 mk (A:=aY) (ah rA (ah DQ al)) ax Tryz.func91 (by kernel_rfl) (by kernel_rfl) (by exact @link _ (aw aO (aP [(143,kf),(144,rV)]) R0 Tryz.f91 wS aY) (by kernel_rfl) Pq)
theorem Nq:PK 145 uN :=
 mk (A:=Db) al ax Tryz.func145 (by kernel_rfl) (by kernel_rfl) (by exact @link _ (aw aO (aP []) R0 Tryz.f145 uN Db) (by kernel_rfl) Of)
theorem J0:PK 92 sX :=
 mk (A:=AR) (ah Nq al) ax Tryz.func92 (by kernel_rfl) (by kernel_rfl) (by exact @link _ (aw aO (aP [(145,uN)]) R0 Tryz.f92 sX AR) (by kernel_rfl) Kq)
theorem Gt:PK 146 pH :=
 mk (A:=xH) (ah jT (ah eK al)) ax Tryz.func146 (by kernel_rfl) (by kernel_rfl) (by exact @link _ (aw aO (aP [(134,gL),(141,dD)]) R0 Tryz.f146 pH xH) (by kernel_rfl) G0)
theorem J9:PK 147 s9 :=
 mk (A:=AY) (ah nY (ah CY (ah kv (ah pa al)))) ax Tryz.func147 (by kernel_rfl) (by kernel_rfl) (by exact @link _ (aw aO (aP [(172,jM),(174,uk),(173,iD),(175,lE)]) R0 Tryz.f147 s9 AY) (by kernel_rfl) Kz)
theorem J2:PK 93 sY :=
 mk (A:=aY) (ah Gt (ah J9 al)) ax Tryz.func93 (by kernel_rfl) (by kernel_rfl) (by exact @link _ (aw aO (aP [(146,pH),(147,s9)]) R0 Tryz.f93 sY aY) (by kernel_rfl) Kr)
theorem J6:PK 143 s6 :=
 mk (A:=AV) (ah jT (ah eK al)) ax Tryz.func143 (by kernel_rfl) (by kernel_rfl) (by exact @link _ (aw aO (aP [(134,gL),(141,dD)]) R0 Tryz.f143 s6 AV) (by kernel_rfl) Kw)
end Go.SF
