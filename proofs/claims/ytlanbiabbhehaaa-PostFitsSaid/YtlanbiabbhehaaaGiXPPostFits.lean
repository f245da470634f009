/- PostFits: the plain law. -/
import Derived.Test.YtlanbiabbhehaaaGiXR
import Derived.Test.YtlanbiabbhehaaaGiPFits16
set_option linter.unusedVariables false
namespace Go.Ab.Gi
theorem pure_girolaw16_PostFits (d : AD as_girolaw16_PostFits) (hd : WfL _ d) : ∃ k, girolaw16_PostFits k d.1 d.2.1 d.2.2.1 = some true :=
  ⟨200, postFits _ _ _⟩
end Go.Ab.Gi
