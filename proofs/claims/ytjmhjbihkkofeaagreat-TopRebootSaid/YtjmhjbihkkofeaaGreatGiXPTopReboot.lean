/- part 97 -/
import Derived.Test.YtjmhjbihkkofeaaGreatGiXR
import Derived.Test.YtjmhjbihkkofeaaGreatGiQB
set_option linter.unusedVariables false
namespace Go.Ab.Gi
theorem yT2 (d:AD QG)(hd:pj _ d):∃k,Kl k d.1 d.2.1 d.2.2.1=some true:=
  ⟨1000, yTj _ _ _ (fun a ha=>by
    obtain⟨i,h,rfl⟩:=List.mem_iff_getElem.1 ha
    exact ZZ (hd.2.1.2 i h).1) fun a ha=>by
    obtain⟨i,h,rfl⟩:=List.mem_iff_getElem.1 ha
    exact(ZZ (hd.2.2.1.2 i h).2).2⟩
end Go.Ab.Gi
