/- LimSquares: the plain law. -/
import Derived.Test.YtpmkkfbnaohlhaaGiXR
import Derived.Test.YtpmkkfbnaohlhaaGiPLim10
set_option linter.unusedVariables false
namespace Go.Ab.Gi
theorem pure_girolaw10_LimSquares (d : AD as_girolaw10_LimSquares) (hd : WfL _ d) : ∃ k, girolaw10_LimSquares k d.1 d.2.1 d.2.2.1 d.2.2.2.1 = some true :=
  ⟨200, limSquares _ _ _ _⟩
end Go.Ab.Gi
