/- What is owed of the code of lists of numbers. No condition. -/
import Derived.Test.YtdfdoigiehmnoaaSxC
import Derived.Test.YtdfdoigiehmnoaaSxPBase
import Derived.Test.YtdfdoigiehmnoaaSxPLine
namespace Go.SF
open Go.SX Go
set_option linter.unusedVariables false
set_option linter.unusedSimpArgs false
end Go.SF
