/- KnotRing: the plain law. -/
import Derived.Test.YtdlamiafpciphaaGiXR
import Derived.Test.YtdlamiafpciphaaGiPKnotRing
set_option linter.unusedVariables false
namespace Go.Ab.Gi
theorem pure_girolaw20_KnotRing (d : AD as_girolaw20_KnotRing) (hd : WfL _ d) : ∃ k, girolaw20_KnotRing k d.1 d.2.1 d.2.2.1 d.2.2.2.1 = some true :=
  ⟨200, knotRing _ _ _ _⟩
end Go.Ab.Gi
