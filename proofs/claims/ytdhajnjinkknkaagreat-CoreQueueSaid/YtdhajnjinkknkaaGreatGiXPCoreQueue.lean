/- CoreQueue: the plain law. -/
import Derived.Test.YtdhajnjinkknkaaGreatGiXR
import Derived.Test.YtdhajnjinkknkaaGreatGiP0
set_option linter.unusedVariables false
set_option maxRecDepth 100000
namespace Go.Ab.Gi
theorem bind_isSome {α β : Type} {x : Option α} (h : x.isSome = true) (f : α → Option β) : x.bind f = f (x.get h) := by
  cases x with
  | none => cases h
  | some a => rfl
theorem coreQueue0 : girolaw23_CoreQueue 60 0 = some true := by kernel_rfl
theorem coreQueue1 : girolaw23_CoreQueue 60 1 = some true := by kernel_rfl
theorem coreQueue2 : girolaw23_CoreQueue 60 2 = some true := by kernel_rfl
theorem coreQueue3 : girolaw23_CoreQueue 60 3 = some true := by kernel_rfl
theorem coreQueue4 : girolaw23_CoreQueue 60 4 = some true := by kernel_rfl
theorem coreQueue (a0 : Int) : girolaw23_CoreQueue 60 a0 = some true := by
  by_cases e0 : a0 = 0
  · subst e0; exact coreQueue0
  by_cases e1 : a0 = 1
  · subst e1; exact coreQueue1
  by_cases e2 : a0 = 2
  · subst e2; exact coreQueue2
  by_cases e3 : a0 = 3
  · subst e3; exact coreQueue3
  by_cases e4 : a0 = 4
  · subst e4; exact coreQueue4
  unfold girolaw23_CoreQueue
  repeat' (refine (bind_isSome (by kernel_rfl) _).trans ?_)
  simp only [decide_eq_false e0, decide_eq_false e1, decide_eq_false e2, decide_eq_false e3, decide_eq_false e4, cond_false]
theorem pure_girolaw23_CoreQueue (d : AD as_girolaw23_CoreQueue) (hd : WfL _ d) : ∃ k, girolaw23_CoreQueue k d.1 = some true :=
  ⟨60, coreQueue _⟩
end Go.Ab.Gi
