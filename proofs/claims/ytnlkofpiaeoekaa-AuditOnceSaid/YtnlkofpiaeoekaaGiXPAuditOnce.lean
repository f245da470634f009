/- AuditOnce: the plain law. -/
import Derived.Test.YtnlkofpiaeoekaaGiXR
import Derived.Test.YtnlkofpiaeoekaaGiPOnce
set_option linter.unusedVariables false
namespace Go.Ab.Gi
theorem pure_girolaw27_AuditOnce (d : AD as_girolaw27_AuditOnce) (hd : WfL _ d) : ∃ k, girolaw27_AuditOnce k d.1 d.2.1 = some true :=
  ⟨500, auditOnce _ _⟩
end Go.Ab.Gi
