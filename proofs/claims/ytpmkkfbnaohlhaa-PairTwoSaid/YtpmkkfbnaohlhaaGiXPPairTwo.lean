/- PairTwo: the plain law. -/
import Derived.Test.YtpmkkfbnaohlhaaGiXR
import Derived.Test.YtpmkkfbnaohlhaaGiPPairTwo
set_option linter.unusedVariables false
namespace Go.Ab.Gi
theorem pure_girolaw19_PairTwo (d : AD as_girolaw19_PairTwo) (hd : WfL _ d) : ∃ k, girolaw19_PairTwo k d.1 d.2.1 d.2.2.1 d.2.2.2.1 = some true :=
  ⟨200, pairTwo _ _ _ _⟩
end Go.Ab.Gi
