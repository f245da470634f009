/- part 105 -/
import Derived.Test.YtnojdbmhfbhdjaaGreatGiXR
import Derived.Test.YtnojdbmhfbhdjaaGreatGiQC
set_option linter.unusedVariables false
namespace Go.Ab.Gi
open Go.RowKit
theorem yTy {l:AC}(h:l.length≤reachBytes∧∀i (hi:i<l.length),Wf (.int .u8) l[i]):u9 l:=fun x hx=>by
  obtain⟨i,hi,rfl⟩:=List.mem_iff_getElem.1 hx
  have t:(Lit.int .u8 l[i]).wf=true:=h.2 i hi
  simp[Lit.wf,IntKind.min,IntKind.max,IntKind.bits,IntKind.signed] at t
  omega
theorem abq (d:AD yDa)(hd:uk _ d):∃k,R3 k d.1 d.2.1 d.2.2.1=some true:=
  ⟨1000,vX9 _ _ _ (yTy hd.1) (yTy hd.2.1) fun c hc=>(vWb hd.2.2.1 c hc).2⟩
end Go.Ab.Gi
