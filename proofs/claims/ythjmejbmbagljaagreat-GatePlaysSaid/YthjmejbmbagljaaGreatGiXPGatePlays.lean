/- part 101 -/
import Derived.Test.YthjmejbmbagljaaGreatGiXR
import Derived.Test.YthjmejbmbagljaaGreatGiQC
set_option linter.unusedVariables false
namespace Go.Ab.Gi
theorem vUj (d:AD qRm)(hd:ur _ d):∃k,Sr k d.1 d.2.1 d.2.2.1 d.2.2.2.1=some true:=
  ⟨9999, vUz _ _ _ (fun a ha=>by
    obtain⟨i,h,rfl⟩:=List.mem_iff_getElem.1 ha
    have:=(hd.2.2.2.1.2 i h).2.2.1.1
    have hr:reachBytes=140737488351232:=rfl
    omega) fun a ha=>by
    obtain⟨i,h,rfl⟩:=List.mem_iff_getElem.1 ha
    exact(wfi (hd.2.2.2.1.2 i h).2.2.2.2).2⟩
end Go.Ab.Gi
