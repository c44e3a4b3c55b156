/- FnExactHonest: the law, from the functions' contracts. No condition. -/
import Derived.Test.YtobmiihdfklmaaaGreatSxR2FnExactHonest
namespace Go.SF
open Go.SX Go.Proofs
set_option maxRecDepth 100000
set_option linter.unusedVariables false
theorem RN:PK 4 (MZ [cA]) :=
 mk (A:=aV) (af Ga (af Jm (af Gd (af I9 (af F8 ao))))) au Tryz.func4 (by kernel_rfl) (by kernel_rfl) (by exact @link _ (ar aN (aM [(15,qD),(16,sy),(17,qG),(18,sf),(19,qA)]) R0 Tryz.f4 (MZ [cA]) aV) (by kernel_rfl) zw)
end Go.SF
