/- FreeBooks: the plain law. -/
import Derived.Test.YtpmkkfbnaohlhaaGiXR
import Derived.Test.YtpmkkfbnaohlhaaGiPFreeBooks
set_option linter.unusedVariables false
namespace Go.Ab.Gi
theorem pure_girolaw18_FreeBooks (d : AD as_girolaw18_FreeBooks) (hd : WfL _ d) : ∃ k, girolaw18_FreeBooks k d.1 d.2.1 d.2.2.1 d.2.2.2.1 d.2.2.2.2.1 d.2.2.2.2.2.1 = some true :=
  freeBooks _ _ _ _ _ _ (Nat.lt_of_le_of_lt hd.2.2.2.2.1.1 (Nat.lt_of_succ_le (Nat.le_of_ble_eq_true rfl)))
end Go.Ab.Gi
