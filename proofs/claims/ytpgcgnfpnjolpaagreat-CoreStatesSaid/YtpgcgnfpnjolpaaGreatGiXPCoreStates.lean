/- part 73 -/
import Derived.Test.YtpgcgnfpnjolpaaGreatGiXR
import Derived.Test.YtpgcgnfpnjolpaaGreatGiQC
set_option linter.unusedVariables false
namespace Go.Ab.Gi
theorem yYb (d:AD R8)(hd:pJ _ d):∃k,L9 k (qZ d) (mo d) (xG d)=some true:=by
  have hr:reachBytes≤140737488355328:=by decide
  obtain⟨_,h1,_,_,_,_,h5,_,h6,_,h4,_,h2,h3,_⟩:=hd
  exact⟨1000,vAq (qZ d) ⟨d.2.2.2.2.2.1,(d.2.2.2.2.2.2.1,d.2.2.2.2.2.2.2.1,d.2.2.2.2.2.2.2.2.1,d.2.2.2.2.2.2.2.2.2.1),d.2.2.2.2.2.2.2.2.2.2.1,d.2.2.2.2.2.2.2.2.2.2.2.1,d.2.2.2.2.2.2.2.2.2.2.2.2.1,d.2.2.2.2.2.2.2.2.2.2.2.2.2.1,d.2.2.2.2.2.2.2.2.2.2.2.2.2.2.1,d.2.2.2.2.2.2.2.2.2.2.2.2.2.2.2.1⟩ (xG d) (Nat.le_trans h1.1 hr) (Nat.le_trans h2.1 hr) (Nat.le_trans h3.1 hr) (Nat.le_trans h4.1 hr) (Nat.le_trans h5.1 hr) (Nat.le_trans h6.1 hr)⟩
end Go.Ab.Gi
