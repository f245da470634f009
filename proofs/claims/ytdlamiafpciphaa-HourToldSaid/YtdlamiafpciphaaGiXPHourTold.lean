/- HourTold: the plain law. -/
import Derived.Test.YtdlamiafpciphaaGiXR
import Derived.Test.YtdlamiafpciphaaGiPHourTold
set_option linter.unusedVariables false
namespace Go.Ab.Gi
theorem pure_girolaw22_HourTold (d : AD as_girolaw22_HourTold) (hd : WfL _ d) : ∃ k, girolaw22_HourTold k d.1 = some true :=
  ⟨200, hourTold _⟩
end Go.Ab.Gi
