/- part 40 -/
import Derived.Test.YtdhajnjinkknkaaGreatGiPView
set_option linter.unusedVariables false
set_option linter.unusedSimpArgs false
namespace Go.Ab.Gi
open Go.Ab
instance instDecPay : DecidableEq PayT := fun a b => inferInstanceAs (Decidable (a = b))
end Go.Ab.Gi
