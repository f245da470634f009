/- part 49 -/
import Derived.Test.YtdhajnjinkknkaaGreatGiXR
import Derived.Test.YtdhajnjinkknkaaGreatGiPCPool4
set_option linter.unusedVariables false
namespace Go.Ab.Gi
theorem pure_girolaw23_CorePool (d : AD as_girolaw23_CorePool) (hd : WfL _ d) : ∃ k, girolaw23_CorePool k d.1 d.2.1 d.2.2.1 = some true :=
  ⟨1000, corePool _ _ _⟩
end Go.Ab.Gi
