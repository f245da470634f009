/- part 101 -/
import Derived.Test.YthpehdcmpldloaaGreatGiXR
import Derived.Test.YthpehdcmpldloaaGreatGiQC
set_option linter.unusedVariables false
namespace Go.Ab.Gi
theorem vX6 (d:AD Yj)(hd:td _ d):∃k,PK k d.1 d.2.1 d.2.2.1 d.2.2.2.1=some true:=by
  obtain⟨r,h1,h2,h3⟩:=vFo d.1
  exact⟨1000,vVz h1 h2 h3 _ _ (fun c hc=>(yJo hd.2.1 c hc).2) (yJo hd.2.2.1)⟩
end Go.Ab.Gi
