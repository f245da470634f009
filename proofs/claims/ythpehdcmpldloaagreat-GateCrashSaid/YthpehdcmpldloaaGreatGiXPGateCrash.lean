/- part 101 -/
import Derived.Test.YthpehdcmpldloaaGreatGiXR
import Derived.Test.YthpehdcmpldloaaGreatGiQC
set_option linter.unusedVariables false
namespace Go.Ab.Gi
theorem Xo (d:AD Xn)(hd:tN _ d):∃k,PK k d.1 d.2.1 d.2.2.1 (d.2.2.2.1,d.2.2.2.2.1)=some true:=by
  obtain⟨r,h1,h2,h3⟩:=Xm d.1
  exact⟨1000,vQi h1 h2 h3 _ _ _ (vWa hd.2.2.1) (wx hd.2.2.2.2.1).2⟩
end Go.Ab.Gi
