/- AuditStuck: the plain law. -/
import Derived.Test.YtnlkofpiaeoekaaGreatGiXR
import Derived.Test.YtnlkofpiaeoekaaGreatGiPStuck27
set_option linter.unusedVariables false
namespace Go.Ab.Gi
theorem pure_girolaw27_AuditStuck (d : AD as_girolaw27_AuditStuck) (hd : WfL _ d) : ∃ k, girolaw27_AuditStuck k d.1 d.2.1 d.2.2.1 d.2.2.2.1 = some true :=
  ⟨500, auditStuck _ _ _ _⟩
end Go.Ab.Gi
