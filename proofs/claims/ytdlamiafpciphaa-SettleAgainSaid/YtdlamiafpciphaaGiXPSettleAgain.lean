/- SettleAgain: the plain law. -/
import Derived.Test.YtdlamiafpciphaaGiXR
import Derived.Test.YtdlamiafpciphaaGiPSettleAgain
set_option linter.unusedVariables false
namespace Go.Ab.Gi
theorem pure_girolaw21_SettleAgain (d : AD as_girolaw21_SettleAgain) (hd : WfL _ d) : ∃ k, girolaw21_SettleAgain k d.1 d.2.1 d.2.2.1 d.2.2.2.1 = some true :=
  ⟨200, settleAgain _ _ _ _⟩
end Go.Ab.Gi
