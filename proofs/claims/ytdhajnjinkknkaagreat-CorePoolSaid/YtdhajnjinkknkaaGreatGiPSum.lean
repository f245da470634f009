/- part 41 -/
import Derived.Test.YtdhajnjinkknkaaGreatGiXS
import Derived.Test.YtdhajnjinkknkaaGreatGiP0
set_option linter.unusedVariables false
set_option linter.unusedSimpArgs false
namespace Go.Ab.Gi
open Go.Ab
end Go.Ab.Gi
