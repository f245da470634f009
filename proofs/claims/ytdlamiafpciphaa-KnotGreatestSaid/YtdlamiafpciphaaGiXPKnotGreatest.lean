/- KnotGreatest: the plain law. -/
import Derived.Test.YtdlamiafpciphaaGiXR
import Derived.Test.YtdlamiafpciphaaGiPKnotGreatest
set_option linter.unusedVariables false
namespace Go.Ab.Gi
theorem pure_girolaw20_KnotGreatest (d : AD as_girolaw20_KnotGreatest) (hd : WfL _ d) : ∃ k, girolaw20_KnotGreatest k d.1 d.2.1 d.2.2.1 d.2.2.2.1 = some true :=
  ⟨200, knotGreatest _ _ _ _⟩
end Go.Ab.Gi
