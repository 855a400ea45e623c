/- Lemmas for walks: frames known by slots, heaps known by chunks. No conditions of its own. -/
import Derived.Test.YteklgnhfgdhdiaaGreatZ18
namespace Go.Z
set_option linter.unusedVariables false
set_option linter.unusedSimpArgs false
open Go
end Go.Z
