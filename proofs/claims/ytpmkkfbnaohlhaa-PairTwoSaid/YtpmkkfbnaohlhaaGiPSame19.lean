/- What girolaw19.same and girolaw19.known say. -/
import Derived.Test.YtpmkkfbnaohlhaaGiPSame11
import Derived.Test.YtpmkkfbnaohlhaaGiPPairRun
set_option linter.unusedVariables false
set_option linter.unusedSimpArgs false
namespace Go.Ab.Gi
open Go.Ab

theorem known19 : girolaw19_known 200 = some true := by kernel_rfl
end Go.Ab.Gi
