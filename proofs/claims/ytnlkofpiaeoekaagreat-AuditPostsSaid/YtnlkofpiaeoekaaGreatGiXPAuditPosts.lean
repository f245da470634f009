/- AuditPosts: the plain law. -/
import Derived.Test.YtnlkofpiaeoekaaGreatGiXR
import Derived.Test.YtnlkofpiaeoekaaGreatGiPPosts27
set_option linter.unusedVariables false
namespace Go.Ab.Gi
theorem pure_girolaw27_AuditPosts (d : AD as_girolaw27_AuditPosts) (hd : WfL _ d) : ∃ k, girolaw27_AuditPosts k d.1 d.2.1 d.2.2.1 d.2.2.2.1 = some true :=
  ⟨500, auditPosts _ _ _ _⟩
end Go.Ab.Gi
