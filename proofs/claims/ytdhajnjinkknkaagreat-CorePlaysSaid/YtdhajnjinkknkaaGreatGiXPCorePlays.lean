/- part 64 -/
import Derived.Test.YtdhajnjinkknkaaGreatGiXR
import Derived.Test.YtdhajnjinkknkaaGreatGiQC
set_option linter.unusedVariables false
namespace Go.Ab.Gi
theorem vIh (d:AD R4)(hd:pD _ d):∃k,KY k d.1 d.2.1=some true:=
  ⟨1000,vMg _ _⟩
end Go.Ab.Gi
