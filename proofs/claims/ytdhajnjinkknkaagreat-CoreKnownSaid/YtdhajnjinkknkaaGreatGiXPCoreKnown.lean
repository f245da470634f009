/- CoreKnown: the plain law. -/
import Derived.Test.YtdhajnjinkknkaaGreatGiXR
import Derived.Test.YtdhajnjinkknkaaGreatGiP0
set_option linter.unusedVariables false
set_option maxRecDepth 100000
namespace Go.Ab.Gi
theorem bind_isSome {α β : Type} {x : Option α} (h : x.isSome = true) (f : α → Option β) : x.bind f = f (x.get h) := by
  cases x with
  | none => cases h
  | some a => rfl
theorem coreKnown0 : girolaw23_CoreKnown 60 0 = some true := by kernel_rfl
theorem coreKnown1 : girolaw23_CoreKnown 60 1 = some true := by kernel_rfl
theorem coreKnown2 : girolaw23_CoreKnown 60 2 = some true := by kernel_rfl
theorem coreKnown3 : girolaw23_CoreKnown 60 3 = some true := by kernel_rfl
theorem coreKnown4 : girolaw23_CoreKnown 60 4 = some true := by kernel_rfl
theorem coreKnown5 : girolaw23_CoreKnown 60 5 = some true := by kernel_rfl
theorem coreKnown6 : girolaw23_CoreKnown 60 6 = some true := by kernel_rfl
theorem coreKnown7 : girolaw23_CoreKnown 60 7 = some true := by kernel_rfl
theorem coreKnown8 : girolaw23_CoreKnown 60 8 = some true := by kernel_rfl
theorem coreKnown9 : girolaw23_CoreKnown 60 9 = some true := by kernel_rfl
theorem coreKnown10 : girolaw23_CoreKnown 60 10 = some true := by kernel_rfl
theorem coreKnown11 : girolaw23_CoreKnown 60 11 = some true := by kernel_rfl
theorem coreKnown12 : girolaw23_CoreKnown 60 12 = some true := by kernel_rfl
theorem coreKnown13 : girolaw23_CoreKnown 60 13 = some true := by kernel_rfl
theorem coreKnown14 : girolaw23_CoreKnown 60 14 = some true := by kernel_rfl
theorem coreKnown15 : girolaw23_CoreKnown 60 15 = some true := by kernel_rfl
theorem coreKnown16 : girolaw23_CoreKnown 60 16 = some true := by kernel_rfl
theorem coreKnown17 : girolaw23_CoreKnown 60 17 = some true := by kernel_rfl
theorem coreKnown18 : girolaw23_CoreKnown 60 18 = some true := by kernel_rfl
theorem coreKnown19 : girolaw23_CoreKnown 60 19 = some true := by kernel_rfl
theorem coreKnown20 : girolaw23_CoreKnown 60 20 = some true := by kernel_rfl
theorem coreKnown21 : girolaw23_CoreKnown 60 21 = some true := by kernel_rfl
theorem coreKnown22 : girolaw23_CoreKnown 60 22 = some true := by kernel_rfl
theorem coreKnown23 : girolaw23_CoreKnown 60 23 = some true := by kernel_rfl
theorem coreKnown_out (a0 : Int) (h : decide (a0 < 0) = true ∨ decide (a0 < 0) = false ∧ decide (a0 ≥ 24) = true) : girolaw23_CoreKnown 60 a0 = some true := by
  unfold girolaw23_CoreKnown
  repeat' (refine (bind_isSome (by kernel_rfl) _).trans ?_)
  rcases h with h | ⟨h1, h2⟩
  · rw [h]; rfl
  · rw [h1, h2]; rfl
theorem coreKnown (a0 : Int) : girolaw23_CoreKnown 60 a0 = some true := by
  by_cases h : a0 < 0
  · exact coreKnown_out a0 (.inl (decide_eq_true h))
  by_cases h2 : a0 ≥ 24
  · exact coreKnown_out a0 (.inr ⟨decide_eq_false h, decide_eq_true h2⟩)
  by_cases e0 : a0 = 0
  · subst e0; exact coreKnown0
  by_cases e1 : a0 = 1
  · subst e1; exact coreKnown1
  by_cases e2 : a0 = 2
  · subst e2; exact coreKnown2
  by_cases e3 : a0 = 3
  · subst e3; exact coreKnown3
  by_cases e4 : a0 = 4
  · subst e4; exact coreKnown4
  by_cases e5 : a0 = 5
  · subst e5; exact coreKnown5
  by_cases e6 : a0 = 6
  · subst e6; exact coreKnown6
  by_cases e7 : a0 = 7
  · subst e7; exact coreKnown7
  by_cases e8 : a0 = 8
  · subst e8; exact coreKnown8
  by_cases e9 : a0 = 9
  · subst e9; exact coreKnown9
  by_cases e10 : a0 = 10
  · subst e10; exact coreKnown10
  by_cases e11 : a0 = 11
  · subst e11; exact coreKnown11
  by_cases e12 : a0 = 12
  · subst e12; exact coreKnown12
  by_cases e13 : a0 = 13
  · subst e13; exact coreKnown13
  by_cases e14 : a0 = 14
  · subst e14; exact coreKnown14
  by_cases e15 : a0 = 15
  · subst e15; exact coreKnown15
  by_cases e16 : a0 = 16
  · subst e16; exact coreKnown16
  by_cases e17 : a0 = 17
  · subst e17; exact coreKnown17
  by_cases e18 : a0 = 18
  · subst e18; exact coreKnown18
  by_cases e19 : a0 = 19
  · subst e19; exact coreKnown19
  by_cases e20 : a0 = 20
  · subst e20; exact coreKnown20
  by_cases e21 : a0 = 21
  · subst e21; exact coreKnown21
  by_cases e22 : a0 = 22
  · subst e22; exact coreKnown22
  by_cases e23 : a0 = 23
  · subst e23; exact coreKnown23
  omega
theorem pure_girolaw23_CoreKnown (d : AD as_girolaw23_CoreKnown) (hd : WfL _ d) : ∃ k, girolaw23_CoreKnown k d.1 = some true :=
  ⟨60, coreKnown _⟩
end Go.Ab.Gi
