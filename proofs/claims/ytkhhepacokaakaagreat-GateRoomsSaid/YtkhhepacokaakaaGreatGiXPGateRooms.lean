/- part 98 -/
import Derived.Test.YtkhhepacokaakaaGreatGiXR
import Derived.Test.YtkhhepacokaakaaGreatGiQB
set_option linter.unusedVariables false
namespace Go.Ab.Gi
theorem yUd (d:AD P9)(hd:oW _ d):∃k,JV k d.1 d.2.1=some true:=
  ⟨1000, vA2 _ _ (fun a ha=>by
    obtain⟨i,h,rfl⟩:=List.mem_iff_getElem.1 ha
    exact wfi (hd.2.1.2 i h).1)⟩
end Go.Ab.Gi
