/- FreeRuns: the plain law. -/
import Derived.Test.YtpmkkfbnaohlhaaGiXR
import Derived.Test.YtpmkkfbnaohlhaaGiPFreeRuns
set_option linter.unusedVariables false
namespace Go.Ab.Gi
theorem pure_girolaw18_FreeRuns (d : AD as_girolaw18_FreeRuns) (hd : WfL _ d) : ∃ k, girolaw18_FreeRuns k d.1 d.2.1 d.2.2.1 d.2.2.2.1 = some true :=
  ⟨200, freeRuns _ _ _ _⟩
end Go.Ab.Gi
