/- PairRuns: the plain law. -/
import Derived.Test.YtpmkkfbnaohlhaaGiXR
import Derived.Test.YtpmkkfbnaohlhaaGiPPairRuns
set_option linter.unusedVariables false
namespace Go.Ab.Gi
theorem pure_girolaw19_PairRuns (d : AD as_girolaw19_PairRuns) (hd : WfL _ d) : ∃ k, girolaw19_PairRuns k d.1 d.2.1 d.2.2.1 d.2.2.2.1 = some true :=
  ⟨200, pairRuns _ _ _ _⟩
end Go.Ab.Gi
