/- part 53 -/
import Derived.Test.YtdhajnjinkknkaaGreatGiXR
import Derived.Test.YtdhajnjinkknkaaGreatGiQB
set_option linter.unusedVariables false
namespace Go.Ab.Gi
theorem vGy (d : AD qKx) (hd : WfL _ d) : ∃ k, zZ9 k d.1 d.2.1 = some true :=
  ⟨1000, yWq _ _⟩
end Go.Ab.Gi
