/- part 82 -/
import Derived.Test.YtbejmoaalcabdaaGreatGiXR
import Derived.Test.YtbejmoaalcabdaaGreatGiQC
set_option linter.unusedVariables false
namespace Go.Ab.Gi
theorem vJ0 (d:AD VM)(hd:sm _ d):∃k,N5 k d.1 d.2.1 d.2.2.1=some true:=
  ⟨1000,vGw _ _ _⟩
end Go.Ab.Gi
