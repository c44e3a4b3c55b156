/- What is owed of the code of lists of numbers. No condition. -/
import Derived.Test.YtmnndbfmeppaeaaSxC
import Derived.Test.YtmnndbfmeppaeaaSxPBase
import Derived.Test.YtmnndbfmeppaeaaSxPLine
namespace Go.SF
open Go.SX Go
set_option linter.unusedVariables false
set_option linter.unusedSimpArgs false
end Go.SF
