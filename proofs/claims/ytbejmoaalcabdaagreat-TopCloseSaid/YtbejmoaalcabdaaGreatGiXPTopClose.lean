/- part 59 -/
import Derived.Test.YtbejmoaalcabdaaGreatGiXR
import Derived.Test.YtbejmoaalcabdaaGreatGiQB
set_option linter.unusedVariables false
namespace Go.Ab.Gi
theorem vIg (d:AD Q6)(hd:qd _ d):∃k,JZ k d.1 d.2.1=some true:=
  ⟨20000,yX8 _ _⟩
end Go.Ab.Gi
