/- LimZero: the plain law. -/
import Derived.Test.YtpmkkfbnaohlhaaGiXR
import Derived.Test.YtpmkkfbnaohlhaaGiPLim10
set_option linter.unusedVariables false
namespace Go.Ab.Gi
theorem pure_girolaw10_LimZero (d : AD as_girolaw10_LimZero) (hd : WfL _ d) : ∃ k, girolaw10_LimZero k d.1 d.2.1 d.2.2.1 d.2.2.2.1 = some true :=
  ⟨200, limZero _ _ _ _⟩
end Go.Ab.Gi
