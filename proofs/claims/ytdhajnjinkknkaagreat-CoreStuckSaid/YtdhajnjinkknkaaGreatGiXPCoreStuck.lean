/- part 46 -/
import Derived.Test.YtdhajnjinkknkaaGreatGiXR
import Derived.Test.YtdhajnjinkknkaaGreatGiPCLaws
set_option linter.unusedVariables false
namespace Go.Ab.Gi
theorem pure_girolaw23_CoreStuck (d : AD as_girolaw23_CoreStuck) (hd : WfL _ d) : ∃ k, girolaw23_CoreStuck k d.1 d.2.1 = some true :=
  ⟨1000, coreStuck _ _⟩
end Go.Ab.Gi
