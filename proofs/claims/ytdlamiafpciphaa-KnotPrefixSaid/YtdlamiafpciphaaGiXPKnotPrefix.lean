/- KnotPrefix: the plain law. -/
import Derived.Test.YtdlamiafpciphaaGiXR
import Derived.Test.YtdlamiafpciphaaGiPKnotPrefix
set_option linter.unusedVariables false
namespace Go.Ab.Gi
theorem pure_girolaw20_KnotPrefix (d : AD as_girolaw20_KnotPrefix) (hd : WfL _ d) : ∃ k, girolaw20_KnotPrefix k d.1 d.2.1 = some true :=
  ⟨200, knotPrefix _ _⟩
end Go.Ab.Gi
