/- part 45 -/
import Derived.Test.YtbejmoaalcabdaaGreatGiXR
import Derived.Test.YtbejmoaalcabdaaGreatGiQB
set_option linter.unusedVariables false
namespace Go.Ab.Gi
theorem vDh (d : AD qK0) (hd : WfL _ d) : ∃ k, zWf k d.1 d.2.1 = some true :=
  ⟨1000, vEa _ _⟩
end Go.Ab.Gi
