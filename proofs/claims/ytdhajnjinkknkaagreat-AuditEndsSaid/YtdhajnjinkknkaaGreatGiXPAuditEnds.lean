/- part 45 -/
import Derived.Test.YtdhajnjinkknkaaGreatGiXR
import Derived.Test.YtdhajnjinkknkaaGreatGiPCEnds
set_option linter.unusedVariables false
namespace Go.Ab.Gi
theorem pure_girolaw27_AuditEnds (d : AD as_girolaw27_AuditEnds) (hd : WfL _ d) : ∃ k, girolaw27_AuditEnds k d.1 d.2.1 = some true :=
  ⟨20000, auditEnds _ _⟩
end Go.Ab.Gi
