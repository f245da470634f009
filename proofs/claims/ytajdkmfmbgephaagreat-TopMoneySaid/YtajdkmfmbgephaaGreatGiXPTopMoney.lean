/- part 103 -/
import Derived.Test.YtajdkmfmbgephaaGreatGiXR
import Derived.Test.YtajdkmfmbgephaaGreatGiQC
set_option linter.unusedVariables false
namespace Go.Ab.Gi
theorem yQo (d:AD QL)(hd:oY _ d):∃k,Kn k d.1 d.2.1=some true:=
  ⟨1000, yZd _ _ (fun a ha=>by
    obtain⟨i,h,rfl⟩:=List.mem_iff_getElem.1 ha
    have:=(hd.2.1.2 i h).2.2.1.1
    have hr:reachBytes=140737488351232:=rfl
    omega) fun a ha=>by
    obtain⟨i,h,rfl⟩:=List.mem_iff_getElem.1 ha
    have:=hd.2.1.2 i h
    exact⟨Z5 this.2.1,(Z5 this.2.2.2.2).2⟩⟩
end Go.Ab.Gi
