/- HourSettles: the plain law. -/
import Derived.Test.YtdlamiafpciphaaGreatGiXR
import Derived.Test.YtdlamiafpciphaaGreatGiPHourSettles
set_option linter.unusedVariables false
namespace Go.Ab.Gi
theorem pure_girolaw22_HourSettles (d : AD as_girolaw22_HourSettles) (hd : WfL _ d) : ∃ k, girolaw22_HourSettles k d.1 d.2.1 d.2.2.1 d.2.2.2.1 d.2.2.2.2.1 = some true :=
  ⟨200, hourSettles _ _ _ _ _⟩
end Go.Ab.Gi
