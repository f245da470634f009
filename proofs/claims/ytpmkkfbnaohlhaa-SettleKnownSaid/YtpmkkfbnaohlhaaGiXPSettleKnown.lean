/- SettleKnown: each way by hand. -/
import Derived.Test.YtpmkkfbnaohlhaaGiXS
import Derived.Test.YtpmkkfbnaohlhaaGiP0
import Derived.Test.YtpmkkfbnaohlhaaGiXR
import Derived.KernelRfl
set_option maxRecDepth 100000
namespace Go.Ab.Gi
open Go.Ab
theorem girolaw21_SettleKnown_at0 : girolaw21_SettleKnown 200 0 = some true := by kernel_rfl
theorem girolaw21_SettleKnown_at1 : girolaw21_SettleKnown 200 1 = some true := by kernel_rfl
theorem girolaw21_SettleKnown_at2 : girolaw21_SettleKnown 200 2 = some true := by kernel_rfl
theorem pure_girolaw21_SettleKnown (d : AD as_girolaw21_SettleKnown) (hd : WfL _ d) : ∃ k, girolaw21_SettleKnown k d.1 = some true := by
  refine ⟨200, ?_⟩
  generalize d.1 = w
  by_cases h0 : w = 0
  · subst h0; exact girolaw21_SettleKnown_at0
  by_cases h1 : w = 1
  · subst h1; exact girolaw21_SettleKnown_at1
  by_cases h2 : w = 2
  · subst h2; exact girolaw21_SettleKnown_at2
  have g0 : decide (w = 0) = false := decide_eq_false h0
  have g1 : decide (w = 1) = false := decide_eq_false h1
  have g2 : decide (w = 2) = false := decide_eq_false h2
  unfold girolaw21_SettleKnown
  simp only [g0, g1, g2, cond_false]
  first | rfl | (refine Eq.trans (b := some true) ?_ rfl; kernel_rfl)
end Go.Ab.Gi
