/- PostOrder: the plain law. -/
import Derived.Test.YtlanbiabbhehaaaGiXR
import Derived.Test.YtlanbiabbhehaaaGiPOrder
set_option linter.unusedVariables false
namespace Go.Ab.Gi
theorem pure_girolaw16_PostOrder (d : AD as_girolaw16_PostOrder) (hd : WfL _ d) : ∃ k, girolaw16_PostOrder k d.1 d.2.1 d.2.2.1 d.2.2.2.1 = some true :=
  ⟨200, postOrder _ _ _ _⟩
end Go.Ab.Gi
