/- AuditBooks: the plain law. -/
import Derived.Test.YtnlkofpiaeoekaaGiXR
import Derived.Test.YtnlkofpiaeoekaaGiPAuditB
set_option linter.unusedVariables false
namespace Go.Ab.Gi
theorem pure_girolaw27_AuditBooks (d : AD as_girolaw27_AuditBooks) (hd : WfL _ d) : ∃ k, girolaw27_AuditBooks k d.1 d.2.1 d.2.2.1 d.2.2.2.1 d.2.2.2.2.1 d.2.2.2.2.2.1 d.2.2.2.2.2.2.1 d.2.2.2.2.2.2.2.1 = some true := by
  refine ⟨500, auditBooks _ _ _ _ _ _ _ _ ?_ ?_⟩
  · intro i hi
    have h : Wf _ _ := hd.2.2.2.1.2 i hi
    rw [List.getD_eq_getElem?_getD, List.getElem?_eq_getElem hi]
    exact Nat.lt_of_le_of_lt h.1 (Nat.lt_of_succ_le (Nat.le_of_ble_eq_true rfl))
  · intro i hi
    have h : Wf _ _ := hd.2.2.2.2.1.2 i hi
    rw [List.getD_eq_getElem?_getD, List.getElem?_eq_getElem hi]
    exact ⟨wfi h.1, wfi h.2.1⟩
end Go.Ab.Gi
