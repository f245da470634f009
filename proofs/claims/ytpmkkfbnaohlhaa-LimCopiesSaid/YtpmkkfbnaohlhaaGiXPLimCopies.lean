/- LimCopies: the plain law. -/
import Derived.Test.YtpmkkfbnaohlhaaGiXR
import Derived.Test.YtpmkkfbnaohlhaaGiPLim10
set_option linter.unusedVariables false
namespace Go.Ab.Gi
theorem pure_girolaw10_LimCopies (d : AD as_girolaw10_LimCopies) (hd : WfL _ d) : ∃ k, girolaw10_LimCopies k d.1 d.2.1 = some true :=
  ⟨200, limCopies _ _⟩
end Go.Ab.Gi
