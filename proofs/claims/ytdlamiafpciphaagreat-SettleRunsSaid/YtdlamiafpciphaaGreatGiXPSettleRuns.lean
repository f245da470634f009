/- SettleRuns: the plain law. -/
import Derived.Test.YtdlamiafpciphaaGreatGiXR
import Derived.Test.YtdlamiafpciphaaGreatGiPSettleRuns
set_option linter.unusedVariables false
namespace Go.Ab.Gi
theorem pure_girolaw21_SettleRuns (d : AD as_girolaw21_SettleRuns) (hd : WfL _ d) : ∃ k, girolaw21_SettleRuns k d.1 d.2.1 d.2.2.1 d.2.2.2.1 d.2.2.2.2.1 = some true :=
  ⟨200, settleRuns _ _ _ _ _⟩
end Go.Ab.Gi
