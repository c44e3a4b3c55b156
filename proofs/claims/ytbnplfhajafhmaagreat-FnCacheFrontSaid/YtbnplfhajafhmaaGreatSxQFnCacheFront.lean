/- FnCacheFront: the law, from the functions' contracts. No condition. -/
import Derived.Test.YtbnplfhajafhmaaGreatSxR2FnCacheFront
namespace Go.SF
open Go.SX Go.Proofs
set_option maxRecDepth 100000
set_option linter.unusedVariables false
theorem Ta:PK 3 (Nz [.sl (.int .u8)]) :=
 mk (A:=b_) (ak PY (ak C_ (ak Hh (ak Mi (ak J0 (ak Hi (ak Dx (ak yx ay)))))))) (aG BQ cP) Tryz.func3 (by kernel_rfl) (by kernel_rfl) (by exact @link _ (aR bm (br [(4,By),(6,vT),(8,sn),(7,CH),(9,Ai),(10,so),(11,py),(12,oK)]) (fP [(5,wP nV)]) Tryz.f3 (Nz [.sl (.int .u8)]) b_) (by kernel_rfl) B7)
end Go.SF
