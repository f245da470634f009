/- PostStays: the plain law. -/
import Derived.Test.YtlanbiabbhehaaaGiXR
import Derived.Test.YtlanbiabbhehaaaGiPStays
set_option linter.unusedVariables false
namespace Go.Ab.Gi
theorem pure_girolaw16_PostStays (d : AD as_girolaw16_PostStays) (hd : WfL _ d) : ∃ k, girolaw16_PostStays k d.1 d.2.1 d.2.2.1 d.2.2.2.1 d.2.2.2.2.1 = some true :=
  ⟨200, postStays _ _ _ _ _⟩
end Go.Ab.Gi
