/- FnExactRunCached: the law, from the functions' contracts. No condition. -/
import Derived.Test.YtobmiihdfklmaaaGreatSxR2FnExactRunCached
namespace Go.SF
open Go.SX Go.Proofs
set_option maxRecDepth 100000
set_option linter.unusedVariables false
theorem Vw:PK 5 (HB [Ba,R7]) :=
 mk (A:=XW) (ah O9 (ah Vs (ah Pb (ah Vt (ah Ki (ah J1 (ah O5 (ah B2 (ah Vr (ah Kb (ah HN al))))))))))) (cz Ny (cz HJ (cz Kc (cz O7 (cz HQ fw))))) Tryz.func5 (by kernel_rfl) (by kernel_rfl) (by exact @link _ (aw aO (aP [(15,w9),(6,Bj),(17,xe),(8,Bk),(20,th),(21,Au),(19,wY),(10,pJ),(11,Bi),(23,tb),(14,ri)]) (kK [(17,dw pL),(21,dw m4),(22,oK tc),(12,ib w6),(13,ib rk)]) Tryz.f5 (HB [Ba,R7]) XW) (by kernel_rfl) Cx)
theorem adh:PK 5 (HB [bq,eF]):=⟨R_ (ts:=[Ba,R7]) (by kernel_rfl) Vw.1,Vw.2⟩
end Go.SF
