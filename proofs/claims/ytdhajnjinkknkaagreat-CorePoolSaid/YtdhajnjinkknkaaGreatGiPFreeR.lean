/- part 42 -/
import Derived.Test.YtdhajnjinkknkaaGreatGiPGoes
set_option linter.unusedVariables false
set_option linter.unusedSimpArgs false
namespace Go.Ab.Gi
open Go.Ab
end Go.Ab.Gi
