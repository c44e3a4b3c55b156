/- What is owed of the code of lists of numbers. No condition. -/
import Derived.Test.YtnjihkeflkemdaaSxC
import Derived.Test.YtnjihkeflkemdaaSxPBase
import Derived.Test.YtnjihkeflkemdaaSxPLine
namespace Go.SF
open Go.SX Go
set_option linter.unusedVariables false
set_option linter.unusedSimpArgs false
end Go.SF
