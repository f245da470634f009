/- girolaw16: two of five, by hand. -/
import Derived.Test.YtlanbiabbhehaaaGiPPost
import Derived.KernelRfl
set_option maxRecDepth 100000
namespace Go.Ab.Gi
open Go.Ab
theorem girolaw16_known_eq : girolaw16_known 200 = some true := by kernel_rfl
end Go.Ab.Gi
