/- part 101 -/
import Derived.Test.YthpehdcmpldloaaGreatGiXR
import Derived.Test.YthpehdcmpldloaaGreatGiQC
set_option linter.unusedVariables false
namespace Go.Ab.Gi
theorem XO (d:AD XN)(hd:ub _ d):∃k,Qc k d.1 d.2.1 d.2.2.1 d.2.2.2.1=some true:=by
  obtain⟨r,h1,h2,h3⟩:=vH2 d.1
  exact⟨1000,XJ h1 h2 h3 _ _ (XM hd.2.2.1)⟩
end Go.Ab.Gi
