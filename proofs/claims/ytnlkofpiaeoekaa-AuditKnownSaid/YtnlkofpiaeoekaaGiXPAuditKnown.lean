/- AuditKnown: the plain law. -/
import Derived.Test.YtnlkofpiaeoekaaGiXR
import Derived.Test.YtnlkofpiaeoekaaGiP0
set_option linter.unusedVariables false
namespace Go.Ab.Gi
theorem auditKnown0 : girolaw27_AuditKnown 500 0 = some true := by kernel_rfl
theorem auditKnown1 : girolaw27_AuditKnown 500 1 = some true := by kernel_rfl
theorem auditKnown2 : girolaw27_AuditKnown 500 2 = some true := by kernel_rfl
theorem auditKnown3 : girolaw27_AuditKnown 500 3 = some true := by kernel_rfl
theorem auditKnown4 : girolaw27_AuditKnown 500 4 = some true := by kernel_rfl
theorem auditKnown5 : girolaw27_AuditKnown 500 5 = some true := by kernel_rfl
theorem auditKnown6 : girolaw27_AuditKnown 500 6 = some true := by kernel_rfl
theorem auditKnown7 : girolaw27_AuditKnown 500 7 = some true := by kernel_rfl
theorem of500 : ∃ a, giroref3_Of 500 18 [1, 0, 1, 5] = some a := ⟨(18, 1, 0, 1, 5, 0, 0), by kernel_rfl⟩
theorem of501 : ∃ a, giroref3_Of 500 21 [1] = some a := ⟨(21, 1, 0, 0, 0, 0, 0), by kernel_rfl⟩
theorem of502 : ∃ a, giroref3_Of 500 19 [1] = some a := ⟨(19, 1, 0, 0, 0, 0, 0), by kernel_rfl⟩
theorem auditKnown (way : Int) : girolaw27_AuditKnown 500 way = some true := by
  by_cases h : way < 0
  · unfold girolaw27_AuditKnown
    obtain ⟨a, ha⟩ := of500
    obtain ⟨b, hb⟩ := of501
    obtain ⟨c, hc⟩ := of502
    rw [ha, hb, hc]
    simp only [Option.bind_some, decide_eq_true h, cond_true]
  by_cases h' : way ≥ 8
  · unfold girolaw27_AuditKnown
    obtain ⟨a, ha⟩ := of500
    obtain ⟨b, hb⟩ := of501
    obtain ⟨c, hc⟩ := of502
    rw [ha, hb, hc]
    simp only [Option.bind_some, decide_eq_false h, decide_eq_true h', cond_true, cond_false]
  have : way = 0 ∨ way = 1 ∨ way = 2 ∨ way = 3 ∨ way = 4 ∨ way = 5 ∨ way = 6 ∨ way = 7 := by omega
  rcases this with rfl | rfl | rfl | rfl | rfl | rfl | rfl | rfl
  · exact auditKnown0
  · exact auditKnown1
  · exact auditKnown2
  · exact auditKnown3
  · exact auditKnown4
  · exact auditKnown5
  · exact auditKnown6
  · exact auditKnown7
theorem pure_girolaw27_AuditKnown (d : AD as_girolaw27_AuditKnown) (hd : WfL _ d) : ∃ k, girolaw27_AuditKnown k d.1 = some true :=
  ⟨500, auditKnown _⟩
end Go.Ab.Gi
