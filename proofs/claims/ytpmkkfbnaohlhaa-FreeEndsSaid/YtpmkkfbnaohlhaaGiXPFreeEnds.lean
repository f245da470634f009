/- FreeEnds: the plain law. -/
import Derived.Test.YtpmkkfbnaohlhaaGiXR
import Derived.Test.YtpmkkfbnaohlhaaGiPFreeEnds
set_option linter.unusedVariables false
namespace Go.Ab.Gi
theorem pure_girolaw18_FreeEnds (d : AD as_girolaw18_FreeEnds) (hd : WfL _ d) : ∃ k, girolaw18_FreeEnds k d.1 d.2.1 d.2.2.1 d.2.2.2.1 = some true :=
  ⟨200, freeEnds _ _ _ _⟩
end Go.Ab.Gi
