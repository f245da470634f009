/- KnotAll: the plain law. -/
import Derived.Test.YtdlamiafpciphaaGiXR
import Derived.Test.YtdlamiafpciphaaGiPKnotAll
set_option linter.unusedVariables false
namespace Go.Ab.Gi
theorem pure_girolaw20_KnotAll (d : AD as_girolaw20_KnotAll) (hd : WfL _ d) : ∃ k, girolaw20_KnotAll k d.1 d.2.1 d.2.2.1 d.2.2.2.1 = some true :=
  ⟨200, knotAll _ _ _ _⟩
end Go.Ab.Gi
