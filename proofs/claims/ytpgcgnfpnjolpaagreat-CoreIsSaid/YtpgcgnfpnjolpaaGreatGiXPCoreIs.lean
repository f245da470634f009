/- part 76 -/
import Derived.Test.YtpgcgnfpnjolpaaGreatGiXR
import Derived.Test.YtpgcgnfpnjolpaaGreatGiQA
set_option linter.unusedVariables false
namespace Go.Ab.Gi
theorem yQy (d:AD Ig)(hd:kL _ d):∃k,Ch k (yE d) (jx d)=some true:=by
  have hr:reachBytes≤140737488355328:=by decide
  obtain⟨_,h1,_,_,_,_,h5,_,h6,_,h4,_,h2,h3,_⟩:=hd
  exact⟨1000,yHf (yE d) ⟨d.2.2.2.2.2.1,(d.2.2.2.2.2.2.1,d.2.2.2.2.2.2.2.1,d.2.2.2.2.2.2.2.2.1,d.2.2.2.2.2.2.2.2.2.1),d.2.2.2.2.2.2.2.2.2.2.1,d.2.2.2.2.2.2.2.2.2.2.2.1,d.2.2.2.2.2.2.2.2.2.2.2.2.1,d.2.2.2.2.2.2.2.2.2.2.2.2.2.1,d.2.2.2.2.2.2.2.2.2.2.2.2.2.2.1,d.2.2.2.2.2.2.2.2.2.2.2.2.2.2.2.1⟩ (Nat.le_trans h1.1 hr) (Nat.le_trans h2.1 hr) (Nat.le_trans h3.1 hr) (Nat.le_trans h4.1 hr) (Nat.le_trans h5.1 hr) (Nat.le_trans h6.1 hr)⟩
end Go.Ab.Gi
