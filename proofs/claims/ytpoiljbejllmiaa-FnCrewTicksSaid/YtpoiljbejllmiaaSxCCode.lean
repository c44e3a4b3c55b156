/- Contracts: a law's code. No condition. -/
import Derived.Test.YtpoiljbejllmiaaSxCBase
namespace Go.SF
open Go.SX Go
set_option linter.unusedVariables false
abbrev codeT : Ty := .sl (.int .u8)
def atF (c : List Int) (i : Int) : Int := if i < (c.length : Int) then c.getD i.toNat 0 else (w64 (w64 (i * 13) + w64 ((c.length : Int) * 5))).tmod 256
def bigF (c : List Int) : Bool := decide (1048576 < (c.length : Int))
def fL_bigC : PC := { ts := [codeT], rs := [.bool], pre := fun _ => True, F := fun x => bigF x }
def fL_atC : PC := { ts := [codeT, i64T], rs := [i64T], pre := fun x => 0 ≤ x.2, F := fun x => atF x.1 x.2 }
end Go.SF
