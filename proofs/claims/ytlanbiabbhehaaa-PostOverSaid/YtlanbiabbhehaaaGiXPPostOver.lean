/- PostOver: the plain law. -/
import Derived.Test.YtlanbiabbhehaaaGiXR
import Derived.Test.YtlanbiabbhehaaaGiPOver
set_option linter.unusedVariables false
namespace Go.Ab.Gi
theorem pure_girolaw16_PostOver (d : AD as_girolaw16_PostOver) (hd : WfL _ d) : ∃ k, girolaw16_PostOver k d.1 d.2.1 d.2.2.1 = some true :=
  ⟨200, postOver _ _ _⟩
end Go.Ab.Gi
