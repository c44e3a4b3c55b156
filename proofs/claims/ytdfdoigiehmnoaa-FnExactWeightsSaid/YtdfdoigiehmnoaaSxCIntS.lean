/- Contracts: lists of numbers. No condition. -/
import Derived.Test.YtdfdoigiehmnoaaSxCBase
namespace Go.SF
open Go.SX Go
set_option linter.unusedVariables false
def fL_eqIntSC : PC := { ts := [.sl i64T, .sl i64T], rs := [.bool], pre := fun _ => True, F := fun x => decide (x.1 = x.2) }
def aL_eqIntS (x : List Int × List Int) := eqA (e := i64T) x 4 5 6
end Go.SF
