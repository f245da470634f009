/- part 46 -/
import Derived.Test.YtdhajnjinkknkaaGreatGiXR
import Derived.Test.YtdhajnjinkknkaaGreatGiPCTotal
set_option linter.unusedVariables false
namespace Go.Ab.Gi
theorem pure_girolaw23_CoreTotal (d : AD as_girolaw23_CoreTotal) (hd : WfL _ d) : ∃ k, girolaw23_CoreTotal k d.1 d.2.1 = some true :=
  ⟨1000, coreTotal _ _⟩
end Go.Ab.Gi
