/- part 100 -/
import Derived.Test.YthpehdcmpldloaaGreatGiXR
import Derived.Test.YthpehdcmpldloaaGreatGiQC
set_option linter.unusedVariables false
namespace Go.Ab.Gi
theorem vPr (d:AD qQ1)(hd:ui _ d):∃k,Q9 k d.1 d.2.1 d.2.2.1=some true:=
  ⟨1000, vXr _ _ _ (fun a ha=>by
    obtain⟨i,h,rfl⟩:=List.mem_iff_getElem.1 ha
    have:=hd.2.2.1.2 i h
    have hr:reachBytes=140737488351232:=rfl
    have hl:=this.2.2.1.1
    exact⟨wfi this.2.1,by omega,(wfi this.2.2.2.2).2⟩)⟩
end Go.Ab.Gi
