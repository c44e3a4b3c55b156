/- FnExactHonest: the functions keep their contracts. No condition. -/
import Derived.Test.YtobmiihdfklmaaaGreatSxM1
import Derived.Test.YtobmiihdfklmaaaGreatSxM2
import Derived.Test.YtobmiihdfklmaaaGreatSxM3
import Derived.Test.YtobmiihdfklmaaaGreatSxPFnExactHonest
import Derived.Test.YtobmiihdfklmaaaGreatSxTab
import Derived.Test.YtobmiihdfklmaaaGreatChecked
import Derived.KernelRfl
namespace Go.SF
open Go.SX Go.Proofs
set_option maxRecDepth 100000
set_option linter.unusedVariables false
theorem au{P:Program}:dP P R0:=fun f r h _=>by cases h
theorem ao{P:Program}:eQ P (aM []):=fun f c h=>by cases h
theorem af{P:Program}{k:Nat}{c:PC}{r:List (Nat×PC)}(h:vq P k c/\iP P k)(hr:eQ P (aM r)):eQ P (aM ((k,c)::r)):=by
 intro f c' h'
 unfold aM at h'
 split at h'
 ·rename_i e
  injection h' with h'
  subst h';subst e
  exact h
 ·exact hr f c' h'
theorem rP{P:Program}:dP P (wT []):=fun f c h _=>by cases h
theorem pH{P:Program}{k:Nat}{c:dk}{r:List (Nat×dk)}(h:tV P k c/\iP P k)(hr:dP P (wT r)):dP P (wT ((k,c)::r)):=by
 intro f c' h' bo
 unfold wT at h'
 split at h'
 ·rename_i e
  injection h' with h'
  subst h';subst e
  exact h
 ·exact hr f c' h' bo
abbrev PK(n:Nat)(c:PC):Prop:=vq Tryz.prog n c/\iP Tryz.prog n
abbrev RK(n:Nat)(c:dk):Prop:=tV Tryz.prog n c/\iP Tryz.prog n
theorem Oj:bJ Tryz.prog aN:=E_ (by kernel_rfl)
theorem mixed:Tryz.prog.follows .mixedOrders=true:=by kernel_rfl
theorem mk {Γ : FuncId → Option PC} {f : FuncId} {fn : Func} {c : PC} {A : bU c.ts → Nat → Option bk} {R : FuncId → Option dk} (hΓ : eQ Tryz.prog Γ) (hR : dP Tryz.prog R) (hf : Tryz.prog.funcs[f]? = some fn) (h1 : (fn.name == "runtime.NumGoroutine") = false) (h2 : fn.body.isNone = false)
    (h : ar aN Γ R fn c A) : vq Tryz.prog f c ∧ iP Tryz.prog f := ⟨G6 mixed Oj hΓ hR hf h, fn, hf, h1, h2⟩
theorem RH {Γ : FuncId → Option PC} {R : FuncId → Option dk} {f : FuncId} {fn : Func} {c : CC} {A : List c.e.den → Nat → Option bk} (hΓ : eQ Tryz.prog Γ) (hR : dP Tryz.prog R) (hf : Tryz.prog.funcs[f]? = some fn) (h1 : (fn.name == "runtime.NumGoroutine") = false) (h2 : fn.body.isNone = false)
    (hl : c.e.flat = true) (h : zI aN Γ R fn c A) : tV Tryz.prog f (jl c) ∧ iP Tryz.prog f := ⟨J2 mixed Oj hΓ hR hf hl h, fn, hf, h1, h2⟩
theorem link{p q:Prop}(h:p=q)(hp:p):q:=h▸hp
theorem F_:PK 154 qC :=
 mk (A:=aV) ao au Tryz.func154 (by kernel_rfl) (by kernel_rfl) (by exact @link _ (ar aN (aM []) R0 Tryz.f154 qC aV) (by kernel_rfl) GM)
theorem Jh:PK 24 sq :=
 mk (A:=aV) ao au Tryz.func24 (by kernel_rfl) (by kernel_rfl) (by exact @link _ (ar aN (aM []) R0 Tryz.f24 sq aV) (by kernel_rfl) JN)
theorem EI:PK 155 pa :=
 mk (A:=aV) (af Jh ao) au Tryz.func155 (by kernel_rfl) (by kernel_rfl) (by exact @link _ (ar aN (aM [(24,sq)]) R0 Tryz.f155 pa aV) (by kernel_rfl) Fx)
theorem Gb:PK 99 qE :=
 mk (A:=aV) (af F_ (af EI ao)) au Tryz.func99 (by kernel_rfl) (by kernel_rfl) (by exact @link _ (ar aN (aM [(154,qC),(155,pa)]) R0 Tryz.f99 qE aV) (by kernel_rfl) GO)
theorem EH:PK 46 o_ :=
 mk (A:=v_) (af Gb ao) au Tryz.func46 (by kernel_rfl) (by kernel_rfl) (by exact @link _ (ar aN (aM [(99,qE)]) R0 Tryz.f46 o_ v_) (by kernel_rfl) Fw)
theorem Ga:PK 15 qD :=
 mk (A:=aV) (af EH ao) au Tryz.func15 (by kernel_rfl) (by kernel_rfl) (by exact @link _ (ar aN (aM [(46,o_)]) R0 Tryz.f15 qD aV) (by kernel_rfl) GN)
theorem eB:PK 63 dS :=
 mk (A:=aV) ao au Tryz.func63 (by kernel_rfl) (by kernel_rfl) (by exact @link _ (ar aN (aM []) R0 Tryz.f63 dS aV) (by kernel_rfl) Mm)
theorem wR:PK 100 mQ :=
 mk (A:=yd) ao au Tryz.func100 (by kernel_rfl) (by kernel_rfl) (by exact @link _ (ar aN (aM []) R0 Tryz.f100 mQ yd) (by kernel_rfl) G4)
theorem B8:PK 101 nQ :=
 mk (A:=aV) ao au Tryz.func101 (by kernel_rfl) (by kernel_rfl) (by exact @link _ (ar aN (aM []) R0 Tryz.f101 nQ aV) (by kernel_rfl) Cq)
theorem Gg:PK 47 qJ :=
 mk (A:=ya) (af eB (af wR (af B8 ao))) au Tryz.func47 (by kernel_rfl) (by kernel_rfl) (by exact @link _ (ar aN (aM [(63,dS),(100,mQ),(101,nQ)]) R0 Tryz.f47 qJ ya) (by kernel_rfl) GX)
theorem B3:PK 114 nL :=
 mk (A:=uc) (af eB ao) au Tryz.func114 (by kernel_rfl) (by kernel_rfl) (by exact @link _ (ar aN (aM [(63,dS)]) R0 Tryz.f114 nL uc) (by kernel_rfl) Cl)
theorem rL:PK 102 jt :=
 mk (A:=tD) (af B3 (af wR ao)) au Tryz.func102 (by kernel_rfl) (by kernel_rfl) (by exact @link _ (ar aN (aM [(114,nL),(100,mQ)]) R0 Tryz.f102 jt tD) (by kernel_rfl) AD)
theorem zh:PK 103 ln :=
 mk (A:=qZ) (af rL (af eB ao)) au Tryz.func103 (by kernel_rfl) (by kernel_rfl) (by exact @link _ (ar aN (aM [(102,jt),(63,dS)]) R0 Tryz.f103 ln qZ) (by kernel_rfl) zG)
theorem cT:PK 64 cv :=
 mk (A:=aV) ao au Tryz.func64 (by kernel_rfl) (by kernel_rfl) (by exact @link _ (ar aN (aM []) R0 Tryz.f64 cv aV) (by kernel_rfl) G0)
theorem ES:PK 65 pk :=
 mk (A:=wq) (af eB ao) au Tryz.func65 (by kernel_rfl) (by kernel_rfl) (by exact @link _ (ar aN (aM [(63,dS)]) R0 Tryz.f65 pk wq) (by kernel_rfl) FJ)
theorem ze:PK 124 oa :=
 mk (A:=AT) ao au Tryz.func124 (by kernel_rfl) (by kernel_rfl) (by exact @link _ (ar aN (aM []) R0 Tryz.f124 oa AT) (by kernel_rfl) JX)
theorem EP:PK 66 pj :=
 mk (A:=aV) (af ze ao) au Tryz.func66 (by kernel_rfl) (by kernel_rfl) (by exact @link _ (ar aN (aM [(124,oa)]) R0 Tryz.f66 pj aV) (by kernel_rfl) FI)
theorem Bx:PK 25 pS :=
 mk (A:=aV) (af eB (af cT (af ES (af EP ao)))) au Tryz.func25 (by kernel_rfl) (by kernel_rfl) (by exact @link _ (ar aN (aM [(63,dS),(64,cv),(65,pk),(66,pj)]) R0 Tryz.f25 pS aV) (by kernel_rfl) Mj)
theorem B1:PK 48 nJ :=
 mk (A:=aV) (af rL (af zh (af Bx ao))) au Tryz.func48 (by kernel_rfl) (by kernel_rfl) (by exact @link _ (ar aN (aM [(102,jt),(103,ln),(25,pS)]) R0 Tryz.f48 nJ aV) (by kernel_rfl) Cj)
theorem uX:PK 67 m8 :=
 mk (A:=CT) ao au Tryz.func67 (by kernel_rfl) (by kernel_rfl) (by exact @link _ (ar aN (aM []) R0 Tryz.f67 m8 CT) (by kernel_rfl) Mk)
theorem u0:PK 68 lj :=
 mk (A:=wm) (af cT ao) au Tryz.func68 (by kernel_rfl) (by kernel_rfl) (by exact @link _ (ar aN (aM [(64,cv)]) R0 Tryz.f68 lj wm) (by kernel_rfl) FF)
theorem c8:PK 36 cu :=
 mk (A:=qY) (af cT (af eB ao)) au Tryz.func36 (by kernel_rfl) (by kernel_rfl) (by exact @link _ (ar aN (aM [(64,cv),(63,dS)]) R0 Tryz.f36 cu qY) (by kernel_rfl) zF)
theorem lG:PK 26 gE :=
 mk (A:=aV) (af uX (af u0 (af c8 ao))) au Tryz.func26 (by kernel_rfl) (by kernel_rfl) (by exact @link _ (ar aN (aM [(67,m8),(68,lj),(36,cu)]) R0 Tryz.f26 gE aV) (by kernel_rfl) FG)
theorem B2:PK 126 nK :=
 mk (A:=aV) ao au Tryz.func126 (by kernel_rfl) (by kernel_rfl) (by exact @link _ (ar aN (aM []) R0 Tryz.f126 nK aV) (by kernel_rfl) Ck)
theorem ot:PK 127 js :=
 mk (A:=aV) (af cT ao) au Tryz.func127 (by kernel_rfl) (by kernel_rfl) (by exact @link _ (ar aN (aM [(64,cv)]) R0 Tryz.f127 js aV) (by kernel_rfl) JU)
theorem uZ:PK 125 m9 :=
 mk (A:=CU) (af cT (af ot ao)) au Tryz.func125 (by kernel_rfl) (by kernel_rfl) (by exact @link _ (ar aN (aM [(64,cv),(127,js)]) R0 Tryz.f125 m9 CU) (by kernel_rfl) Ml)
theorem zd:PK 70 n_ :=
 mk (A:=aV) (af cT (af u0 (af eB (af B2 (af uZ ao))))) au Tryz.func70 (by kernel_rfl) (by kernel_rfl) (by exact @link _ (ar aN (aM [(64,cv),(68,lj),(63,dS),(126,nK),(125,m9)]) R0 Tryz.f70 n_ aV) (by kernel_rfl) JV)
theorem zg:PK 69 oe :=
 mk (A:=AW) (af cT ao) au Tryz.func69 (by kernel_rfl) (by kernel_rfl) (by exact @link _ (ar aN (aM [(64,cv)]) R0 Tryz.f69 oe AW) (by kernel_rfl) J0)
theorem Gh:PK 27 qK :=
 mk (A:=aV) (af lG (af uX (af zd (af zg ao)))) au Tryz.func27 (by kernel_rfl) (by kernel_rfl) (by exact @link _ (ar aN (aM [(26,gE),(67,m8),(70,n_),(69,oe)]) R0 Tryz.f27 qK aV) (by kernel_rfl) GY)
theorem mY:PK 71 iu :=
 mk (A:=aV) (af uZ ao) au Tryz.func71 (by kernel_rfl) (by kernel_rfl) (by exact @link _ (ar aN (aM [(125,m9)]) R0 Tryz.f71 iu aV) (by kernel_rfl) GZ)
theorem oM:PK 72 kB :=
 mk (A:=aV) (af cT (af ot ao)) au Tryz.func72 (by kernel_rfl) (by kernel_rfl) (by exact @link _ (ar aN (aM [(64,cv),(127,js)]) R0 Tryz.f72 kB aV) (by kernel_rfl) Pv)
theorem EL:PK 28 pe :=
 mk (A:=we) (af lG (af uX (af zd (af mY (af zg (af oM ao)))))) au Tryz.func28 (by kernel_rfl) (by kernel_rfl) (by exact @link _ (ar aN (aM [(26,gE),(67,m8),(70,n_),(71,iu),(69,oe),(72,kB)]) R0 Tryz.f28 pe we) (by kernel_rfl) FA)
theorem sX:PK 29 ll :=
 mk (A:=aV) (af lG ao) au Tryz.func29 (by kernel_rfl) (by kernel_rfl) (by exact @link _ (ar aN (aM [(26,gE)]) R0 Tryz.f29 ll aV) (by kernel_rfl) J1)
theorem Jj:PK 30 sv :=
 mk (A:=AQ) (af sX (af cT ao)) au Tryz.func30 (by kernel_rfl) (by kernel_rfl) (by exact @link _ (ar aN (aM [(29,ll),(64,cv)]) R0 Tryz.f30 sv AQ) (by kernel_rfl) JP)
theorem Gj:PK 31 qM :=
 mk (A:=yb) (af sX (af cT ao)) au Tryz.func31 (by kernel_rfl) (by kernel_rfl) (by exact @link _ (ar aN (aM [(29,ll),(64,cv)]) R0 Tryz.f31 qM yb) (by kernel_rfl) G2)
theorem hD:PK 35 eS :=
 mk (A:=aV) (af c8 ao) au Tryz.func35 (by kernel_rfl) (by kernel_rfl) (by exact @link _ (ar aN (aM [(36,cu)]) R0 Tryz.f35 eS aV) (by kernel_rfl) JT)
theorem wQ:PK 133 mP :=
 mk (A:=yc) ao au Tryz.func133 (by kernel_rfl) (by kernel_rfl) (by exact @link _ (ar aN (aM []) R0 Tryz.f133 mP yc) (by kernel_rfl) G3)
theorem jD:PK 128 fK :=
 mk (A:=AU) (af wQ ao) au Tryz.func128 (by kernel_rfl) (by kernel_rfl) (by exact @link _ (ar aN (aM [(133,mP)]) R0 Tryz.f128 fK AU) (by kernel_rfl) JY)
theorem zf:PK 73 oc :=
 mk (A:=AV) (af cT (af jD ao)) au Tryz.func73 (by kernel_rfl) (by kernel_rfl) (by exact @link _ (ar aN (aM [(64,cv),(128,fK)]) R0 Tryz.f73 oc AV) (by kernel_rfl) JZ)
theorem Gi:PK 32 qL :=
 mk (A:=aV) (af hD (af zf ao)) au Tryz.func32 (by kernel_rfl) (by kernel_rfl) (by exact @link _ (ar aN (aM [(35,eS),(73,oc)]) R0 Tryz.f32 qL aV) (by kernel_rfl) G1)
theorem EO:PK 74 ph :=
 mk (A:=wo) (af eB ao) au Tryz.func74 (by kernel_rfl) (by kernel_rfl) (by exact @link _ (ar aN (aM [(63,dS)]) R0 Tryz.f74 ph wo) (by kernel_rfl) FH)
theorem B0:PK 33 nI :=
 mk (A:=ub) (af EO ao) au Tryz.func33 (by kernel_rfl) (by kernel_rfl) (by exact @link _ (ar aN (aM [(74,ph)]) R0 Tryz.f33 nI ub) (by kernel_rfl) Ci)
theorem EN:PK 75 pg :=
 mk (A:=aV) (af eB (af c8 ao)) au Tryz.func75 (by kernel_rfl) (by kernel_rfl) (by exact @link _ (ar aN (aM [(63,dS),(36,cu)]) R0 Tryz.f75 pg aV) (by kernel_rfl) FE)
theorem vL:PK 76 oI :=
 mk (A:=aV) (af cT (af ot ao)) au Tryz.func76 (by kernel_rfl) (by kernel_rfl) (by exact @link _ (ar aN (aM [(64,cv),(127,js)]) R0 Tryz.f76 oI aV) (by kernel_rfl) Pw)
theorem B5:PK 34 nN :=
 mk (A:=ue) (af EN (af mY (af oM (af vL ao)))) au Tryz.func34 (by kernel_rfl) (by kernel_rfl) (by exact @link _ (ar aN (aM [(75,pg),(71,iu),(72,kB),(76,oI)]) R0 Tryz.f34 nN ue) (by kernel_rfl) Cn)
theorem HT:PK 129 vE :=
 mk (A:=aV) (af cT (af ot ao)) au Tryz.func129 (by kernel_rfl) (by kernel_rfl) (by exact @link _ (ar aN (aM [(64,cv),(127,js)]) R0 Tryz.f129 vE aV) (by kernel_rfl) Pu)
theorem uW:PK 77 lf :=
 mk (A:=wj) (af hD (af uZ (af oM (af HT ao)))) au Tryz.func77 (by kernel_rfl) (by kernel_rfl) (by exact @link _ (ar aN (aM [(35,eS),(125,m9),(72,kB),(129,vE)]) R0 Tryz.f77 lf wj) (by kernel_rfl) FC)
theorem EM:PK 37 pf :=
 mk (A:=wg) (af hD (af c8 (af uW ao))) au Tryz.func37 (by kernel_rfl) (by kernel_rfl) (by exact @link _ (ar aN (aM [(35,eS),(36,cu),(77,lf)]) R0 Tryz.f37 pf wg) (by kernel_rfl) FB)
theorem uY:PK 78 lh :=
 mk (A:=wk) (af eB (af c8 (af ze ao))) au Tryz.func78 (by kernel_rfl) (by kernel_rfl) (by exact @link _ (ar aN (aM [(63,dS),(36,cu),(124,oa)]) R0 Tryz.f78 lh wk) (by kernel_rfl) FD)
theorem B7:PK 132 nP :=
 mk (A:=ug) (af vL (af zf ao)) au Tryz.func132 (by kernel_rfl) (by kernel_rfl) (by exact @link _ (ar aN (aM [(76,oI),(73,oc)]) R0 Tryz.f132 nP ug) (by kernel_rfl) Cp)
theorem B4:PK 131 nM :=
 mk (A:=ud) (af hD (af oM (af jD ao))) au Tryz.func131 (by kernel_rfl) (by kernel_rfl) (by exact @link _ (ar aN (aM [(35,eS),(72,kB),(128,fK)]) R0 Tryz.f131 nM ud) (by kernel_rfl) Cm)
theorem LH:PK 169 ur :=
 mk (A:=aV) ao au Tryz.func169 (by kernel_rfl) (by kernel_rfl) (by exact @link _ (ar aN (aM []) R0 Tryz.f169 ur aV) (by kernel_rfl) Mn)
theorem Gf:PK 130 qI :=
 mk (A:=x_) (af hD (af LH (af HT (af jD ao)))) au Tryz.func130 (by kernel_rfl) (by kernel_rfl) (by exact @link _ (ar aN (aM [(35,eS),(169,ur),(129,vE),(128,fK)]) R0 Tryz.f130 qI x_) (by kernel_rfl) GV)
theorem rM:PK 79 ju :=
 mk (A:=tE) (af vL (af oM (af mY (af B7 (af B4 (af Gf (af jD ao))))))) au Tryz.func79 (by kernel_rfl) (by kernel_rfl) (by exact @link _ (ar aN (aM [(76,oI),(72,kB),(71,iu),(132,nP),(131,nM),(130,qI),(128,fK)]) R0 Tryz.f79 ju tE) (by kernel_rfl) AE)
theorem zc:PK 38 lg :=
 mk (A:=aV) (af uY (af c8 (af rM ao))) au Tryz.func38 (by kernel_rfl) (by kernel_rfl) (by exact @link _ (ar aN (aM [(78,lh),(36,cu),(79,ju)]) R0 Tryz.f38 lg aV) (by kernel_rfl) zE)
theorem B6:PK 80 nO :=
 mk (A:=uf) (af wQ (af mY (af oM (af vL (af jD ao))))) au Tryz.func80 (by kernel_rfl) (by kernel_rfl) (by exact @link _ (ar aN (aM [(133,mP),(71,iu),(72,kB),(76,oI),(128,fK)]) R0 Tryz.f80 nO uf) (by kernel_rfl) Co)
theorem Jl:PK 39 sx :=
 mk (A:=aV) (af hD (af B6 ao)) au Tryz.func39 (by kernel_rfl) (by kernel_rfl) (by exact @link _ (ar aN (aM [(35,eS),(80,nO)]) R0 Tryz.f39 sx aV) (by kernel_rfl) JR)
theorem wS:PK 81 mR :=
 mk (A:=aV) (af uY (af eB ao)) au Tryz.func81 (by kernel_rfl) (by kernel_rfl) (by exact @link _ (ar aN (aM [(78,lh),(63,dS)]) R0 Tryz.f81 mR aV) (by kernel_rfl) G5)
theorem Ad:PK 83 mj :=
 mk (A:=tC) (af wS (af c8 (af jD (af uW ao)))) au Tryz.func83 (by kernel_rfl) (by kernel_rfl) (by exact @link _ (ar aN (aM [(81,mR),(36,cu),(128,fK),(77,lf)]) R0 Tryz.f83 mj tC) (by kernel_rfl) AB)
theorem Jk:PK 82 sw :=
 mk (A:=AR) ao au Tryz.func82 (by kernel_rfl) (by kernel_rfl) (by exact @link _ (ar aN (aM []) R0 Tryz.f82 sw AR) (by kernel_rfl) JQ)
theorem Ac:PK 40 mi :=
 mk (A:=tB) (af wS (af c8 (af rM (af Ad (af Jk ao))))) au Tryz.func40 (by kernel_rfl) (by kernel_rfl) (by exact @link _ (ar aN (aM [(81,mR),(36,cu),(79,ju),(83,mj),(82,sw)]) R0 Tryz.f40 mi tB) (by kernel_rfl) AA)
theorem Jn:PK 7 sA :=
 mk (A:=aV) (af Bx (af lG (af Gh (af EL (af sX (af Jj (af Gj (af Gi (af B0 (af B5 (af hD (af c8 (af EM (af zc (af Jl (af Ac ao)))))))))))))))) au Tryz.func7 (by kernel_rfl) (by kernel_rfl) (by exact @link _ (ar aN (aM [(25,pS),(26,gE),(27,qK),(28,pe),(29,ll),(30,sv),(31,qM),(32,qL),(33,nI),(34,nN),(35,eS),(36,cu),(37,pf),(38,lg),(39,sx),(40,mi)]) R0 Tryz.f7 sA aV) (by kernel_rfl) JW)
theorem zi:PK 104 lp :=
 mk (A:=q7) ao au Tryz.func104 (by kernel_rfl) (by kernel_rfl) (by exact @link _ (ar aN (aM []) R0 Tryz.f104 lp q7) (by kernel_rfl) zH)
theorem Ae:PK 49 ml :=
 mk (A:=aV) (af zi ao) au Tryz.func49 (by kernel_rfl) (by kernel_rfl) (by exact @link _ (ar aN (aM [(104,lp)]) R0 Tryz.f49 ml aV) (by kernel_rfl) AF)
theorem Jm:PK 16 sy :=
 mk (A:=AS) (af Gg (af B1 (af Jn (af Ae ao)))) au Tryz.func16 (by kernel_rfl) (by kernel_rfl) (by exact @link _ (ar aN (aM [(47,qJ),(48,nJ),(7,sA),(49,ml)]) R0 Tryz.f16 sy AS) (by kernel_rfl) JS)
theorem Gc:PK 156 qF :=
 mk (A:=x9) ao au Tryz.func156 (by kernel_rfl) (by kernel_rfl) (by exact @link _ (ar aN (aM []) R0 Tryz.f156 qF x9) (by kernel_rfl) GQ)
theorem Ji:PK 41 su :=
 mk (A:=AP) ao au Tryz.func41 (by kernel_rfl) (by kernel_rfl) (by exact @link _ (ar aN (aM []) R0 Tryz.f41 su AP) (by kernel_rfl) JO)
theorem EK:PK 157 pd :=
 mk (A:=aV) (af Ji ao) au Tryz.func157 (by kernel_rfl) (by kernel_rfl) (by exact @link _ (ar aN (aM [(41,su)]) R0 Tryz.f157 pd aV) (by kernel_rfl) Fz)
theorem Ge:PK 105 qH :=
 mk (A:=aV) (af Gc (af EK ao)) au Tryz.func105 (by kernel_rfl) (by kernel_rfl) (by exact @link _ (ar aN (aM [(156,qF),(157,pd)]) R0 Tryz.f105 qH aV) (by kernel_rfl) GU)
theorem EJ:PK 50 pb :=
 mk (A:=wc) (af Ge ao) au Tryz.func50 (by kernel_rfl) (by kernel_rfl) (by exact @link _ (ar aN (aM [(105,qH)]) R0 Tryz.f50 pb wc) (by kernel_rfl) Fy)
theorem Gd:PK 17 qG :=
 mk (A:=aV) (af EJ ao) au Tryz.func17 (by kernel_rfl) (by kernel_rfl) (by exact @link _ (ar aN (aM [(50,pb)]) R0 Tryz.f17 qG aV) (by kernel_rfl) GR)
theorem F6:PK 158 qy :=
 mk (A:=aV) ao au Tryz.func158 (by kernel_rfl) (by kernel_rfl) (by exact @link _ (ar aN (aM []) R0 Tryz.f158 qy aV) (by kernel_rfl) GI)
theorem EE:PK 106 o7 :=
 mk (A:=v8) (af F6 ao) au Tryz.func106 (by kernel_rfl) (by kernel_rfl) (by exact @link _ (ar aN (aM [(158,qy)]) R0 Tryz.f106 o7 v8) (by kernel_rfl) Ft)
end Go.SF
