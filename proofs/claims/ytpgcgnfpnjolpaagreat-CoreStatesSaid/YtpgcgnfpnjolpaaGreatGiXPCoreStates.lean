/- part 73 -/
import Derived.Test.YtpgcgnfpnjolpaaGreatGiXR
import Derived.Test.YtpgcgnfpnjolpaaGreatGiQC
set_option linter.unusedVariables false
namespace Go.Ab.Gi
theorem vQ4 (d:AD R5)(hd:pI _ d):∃k,L7 k (qX d) (mn d) (xF d)=some true:=by
  have hr:reachBytes=140737488351232:=rfl
  obtain⟨_,h1,_,_,_,_,h5,_,h6,_,h4,_,h2,h3,_⟩:=hd
  have h1:=h1.1
  have h2:=h2.1
  have h3:=h3.1
  have h4:=h4.1
  have h5:=h5.1
  have h6:=h6.1
  exact⟨1000,vLa (qX d) ⟨d.2.2.2.2.2.1,(d.2.2.2.2.2.2.1,d.2.2.2.2.2.2.2.1,d.2.2.2.2.2.2.2.2.1,d.2.2.2.2.2.2.2.2.2.1),d.2.2.2.2.2.2.2.2.2.2.1,d.2.2.2.2.2.2.2.2.2.2.2.1,d.2.2.2.2.2.2.2.2.2.2.2.2.1,d.2.2.2.2.2.2.2.2.2.2.2.2.2.1,d.2.2.2.2.2.2.2.2.2.2.2.2.2.2.1,d.2.2.2.2.2.2.2.2.2.2.2.2.2.2.2.1⟩ (xF d) (by show d.2.1.length≤_;omega) (by show List.length _≤_;omega) (by show List.length _≤_;omega) (by show List.length _≤_;omega) (by show List.length _≤_;omega) (by show List.length _≤_;omega)⟩
end Go.Ab.Gi
