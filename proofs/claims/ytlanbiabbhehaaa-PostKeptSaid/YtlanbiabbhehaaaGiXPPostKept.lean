/- PostKept: the plain law. -/
import Derived.Test.YtlanbiabbhehaaaGiXR
import Derived.Test.YtlanbiabbhehaaaGiPKept
set_option linter.unusedVariables false
namespace Go.Ab.Gi
theorem pure_girolaw16_PostKept (d : AD as_girolaw16_PostKept) (hd : WfL _ d) : ∃ k, girolaw16_PostKept k d.1 d.2.1 = some true :=
  ⟨200, postKept _ _⟩
end Go.Ab.Gi
