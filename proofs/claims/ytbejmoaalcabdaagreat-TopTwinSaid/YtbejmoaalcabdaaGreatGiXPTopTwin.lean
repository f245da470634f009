/- part 81 -/
import Derived.Test.YtbejmoaalcabdaaGreatGiXR
import Derived.Test.YtbejmoaalcabdaaGreatGiQC
set_option linter.unusedVariables false
namespace Go.Ab.Gi
theorem vFx (d:AD Wr)(hd:su _ d):∃k,Oh k d.1 d.2.1 d.2.2.1=some true:=
  ⟨1000,vL5 _ _ _ fun a ha=>by
    obtain⟨i,h,rfl⟩:=List.mem_iff_getElem.1 ha
    have:=(hd.2.2.1.2 i h).2.2.1.1
    have hr:reachBytes=140737488351232:=rfl
    omega⟩
end Go.Ab.Gi
