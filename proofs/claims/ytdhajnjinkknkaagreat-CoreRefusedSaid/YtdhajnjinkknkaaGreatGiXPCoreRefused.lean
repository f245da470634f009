/- part 46 -/
import Derived.Test.YtdhajnjinkknkaaGreatGiXR
import Derived.Test.YtdhajnjinkknkaaGreatGiPCLaws
set_option linter.unusedVariables false
namespace Go.Ab.Gi
theorem pure_girolaw23_CoreRefused (d : AD as_girolaw23_CoreRefused) (hd : WfL _ d) : ∃ k, girolaw23_CoreRefused k d.1 d.2.1 (g2_8 d) = some true :=
  ⟨1000, coreRefused _ _ _⟩
end Go.Ab.Gi
