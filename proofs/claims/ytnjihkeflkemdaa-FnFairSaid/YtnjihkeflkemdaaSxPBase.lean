/- What is owed of the code of shared functions. No condition. -/
import Derived.Test.YtnjihkeflkemdaaSxC
namespace Go.SF
open Go.SX Go
set_option linter.unusedVariables false
set_option linter.unusedSimpArgs false
end Go.SF
