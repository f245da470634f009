/- part 102 -/
import Derived.Test.YtmbkgcillafidaaGreatGiXR
import Derived.Test.YtmbkgcillafidaaGreatGiQC
set_option linter.unusedVariables false
namespace Go.Ab.Gi
theorem acy (d:AD qWj)(hd:uw _ d):∃k,SJ k d.1 d.2.1 d.2.2.1 d.2.2.2.1=some true:=
  ⟨9999, acx _ _ _ (fun a ha=>by
    obtain⟨i,h,rfl⟩:=List.mem_iff_getElem.1 ha
    have:=(hd.2.2.2.1.2 i h).2.2.1.1
    have hr:reachBytes=140737488351232:=rfl
    omega) fun a ha=>by
    obtain⟨i,h,rfl⟩:=List.mem_iff_getElem.1 ha
    exact(wfi (hd.2.2.2.1.2 i h).2.2.2.2).2⟩
end Go.Ab.Gi
