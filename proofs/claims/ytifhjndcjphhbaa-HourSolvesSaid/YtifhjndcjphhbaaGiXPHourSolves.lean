/- HourSolves: the plain law. -/
import Derived.Test.YtifhjndcjphhbaaGiXR
import Derived.Test.YtifhjndcjphhbaaGiPSolves
set_option linter.unusedVariables false
namespace Go.Ab.Gi
theorem pure_girolaw22_HourSolves (d : AD as_girolaw22_HourSolves) (hd : WfL _ d) : ∃ k, girolaw22_HourSolves k d.1 d.2.1 d.2.2.1 = some true :=
  ⟨200, hourSolves _ _ _⟩
end Go.Ab.Gi
