/- HourLate: the plain law. -/
import Derived.Test.YtdlamiafpciphaaGiXR
import Derived.Test.YtdlamiafpciphaaGiPHourLate
set_option linter.unusedVariables false
namespace Go.Ab.Gi
theorem pure_girolaw22_HourLate (d : AD as_girolaw22_HourLate) (hd : WfL _ d) : ∃ k, girolaw22_HourLate k d.1 d.2.1 d.2.2.1 = some true :=
  ⟨200, hourLate _ _ _⟩
end Go.Ab.Gi
