/- PairEnds: the plain law. -/
import Derived.Test.YtpmkkfbnaohlhaaGiXR
import Derived.Test.YtpmkkfbnaohlhaaGiPPairEnds
set_option linter.unusedVariables false
namespace Go.Ab.Gi
theorem pure_girolaw19_PairEnds (d : AD as_girolaw19_PairEnds) (hd : WfL _ d) : ∃ k, girolaw19_PairEnds k d.1 d.2.1 d.2.2.1 d.2.2.2.1 = some true :=
  ⟨200, pairEnds _ _ _ _⟩
end Go.Ab.Gi
