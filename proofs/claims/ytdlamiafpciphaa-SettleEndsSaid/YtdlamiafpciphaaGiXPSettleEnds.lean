/- SettleEnds: the plain law. -/
import Derived.Test.YtdlamiafpciphaaGiXR
import Derived.Test.YtdlamiafpciphaaGiPSettleEnds
set_option linter.unusedVariables false
namespace Go.Ab.Gi
theorem pure_girolaw21_SettleEnds (d : AD as_girolaw21_SettleEnds) (hd : WfL _ d) : ∃ k, girolaw21_SettleEnds k d.1 d.2.1 d.2.2.1 d.2.2.2.1 d.2.2.2.2.1 = some true :=
  ⟨200, settleEnds _ _ _ _ _⟩
end Go.Ab.Gi
