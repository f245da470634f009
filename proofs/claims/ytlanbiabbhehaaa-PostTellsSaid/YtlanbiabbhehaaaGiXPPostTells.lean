/- PostTells: the plain law. -/
import Derived.Test.YtlanbiabbhehaaaGiXR
import Derived.Test.YtlanbiabbhehaaaGiPTells
set_option linter.unusedVariables false
namespace Go.Ab.Gi
theorem pure_girolaw16_PostTells (d : AD as_girolaw16_PostTells) (hd : WfL _ d) : ∃ k, girolaw16_PostTells k d.1 d.2.1 d.2.2.1 d.2.2.2.1 d.2.2.2.2.1 = some true :=
  ⟨200, postTells _ _ _ _ _⟩
end Go.Ab.Gi
