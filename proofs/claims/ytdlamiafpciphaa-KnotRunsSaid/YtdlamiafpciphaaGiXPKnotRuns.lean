/- KnotRuns: the plain law. -/
import Derived.Test.YtdlamiafpciphaaGiXR
import Derived.Test.YtdlamiafpciphaaGiPKnotRunsL
set_option linter.unusedVariables false
namespace Go.Ab.Gi
theorem pure_girolaw20_KnotRuns (d : AD as_girolaw20_KnotRuns) (hd : WfL _ d) : ∃ k, girolaw20_KnotRuns k d.1 d.2.1 d.2.2.1 d.2.2.2.1 = some true :=
  ⟨200, knotRuns _ _ _ _⟩
end Go.Ab.Gi
