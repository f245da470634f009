/- KnotBooks: the plain law. -/
import Derived.Test.YtdlamiafpciphaaGiXR
import Derived.Test.YtdlamiafpciphaaGiPKnotBooks
set_option linter.unusedVariables false
namespace Go.Ab.Gi
theorem pure_girolaw20_KnotBooks (d : AD as_girolaw20_KnotBooks) (hd : WfL _ d) : ∃ k, girolaw20_KnotBooks k d.1 d.2.1 d.2.2.1 d.2.2.2.1 d.2.2.2.2.1 d.2.2.2.2.2.1 = some true :=
  knotBooks _ _ _ _ _ _ (Nat.lt_of_le_of_lt hd.2.2.2.2.1.1 (Nat.lt_of_succ_le (Nat.le_of_ble_eq_true rfl)))
end Go.Ab.Gi
