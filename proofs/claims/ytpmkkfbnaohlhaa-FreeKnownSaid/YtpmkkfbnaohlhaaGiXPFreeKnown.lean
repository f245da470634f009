/- FreeKnown: the plain law. -/
import Derived.Test.YtpmkkfbnaohlhaaGiXR
import Derived.Test.YtpmkkfbnaohlhaaGiP0
set_option linter.unusedVariables false
namespace Go.Ab.Gi
theorem freeKnown0 : girolaw18_FreeKnown 200 0 = some true := by kernel_rfl
theorem freeKnown1 : girolaw18_FreeKnown 200 1 = some true := by kernel_rfl
theorem freeKnown2 : girolaw18_FreeKnown 200 2 = some true := by kernel_rfl
theorem freeKnown3 : girolaw18_FreeKnown 200 3 = some true := by kernel_rfl
theorem freeKnown4 : girolaw18_FreeKnown 200 4 = some true := by kernel_rfl
theorem freeKnownS : ∃ x, girolaw18_some 200 [4] 0 = some x := ⟨([(4, 0, 0), (0, 0, 0), (0, 0, 0)], [[-1, -1, -1], [-1, -1, -1], [-1, -1, -1]], [-1, -1, -1], [[0, 0, 0], [0, 0, 0], [0, 0, 0]]), by kernel_rfl⟩
theorem freeKnown (way : Int) : girolaw18_FreeKnown 200 way = some true := by
  by_cases h0 : way = 0
  · subst h0; exact freeKnown0
  by_cases h1 : way = 1
  · subst h1; exact freeKnown1
  by_cases h2 : way = 2
  · subst h2; exact freeKnown2
  by_cases h3 : way = 3
  · subst h3; exact freeKnown3
  by_cases h4 : way = 4
  · subst h4; exact freeKnown4
  obtain ⟨x, hx⟩ := freeKnownS
  unfold girolaw18_FreeKnown
  rw [hx]
  simp only [Option.bind_some, decide_eq_false h0, decide_eq_false h1, decide_eq_false h2, decide_eq_false h3, decide_eq_false h4, cond_false]
theorem pure_girolaw18_FreeKnown (d : AD as_girolaw18_FreeKnown) (hd : WfL _ d) : ∃ k, girolaw18_FreeKnown k d.1 = some true :=
  ⟨200, freeKnown _⟩
end Go.Ab.Gi
