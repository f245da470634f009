/- What girolaw20.same says. -/
import Derived.Test.YtdlamiafpciphaaGiPSame11
import Derived.Test.YtdlamiafpciphaaGiPGoes
set_option linter.unusedVariables false
set_option linter.unusedSimpArgs false
namespace Go.Ab.Gi
open Go.Ab

theorem same20 {k : Nat} (hk : 100 < k) {B : BT} (h : BooksT B) {l m : List PayT} (hl : l.length ≤ 100) (hm : m.length ≤ 100) (hl' : l.length < k) (hm' : m.length < k) :
    girolaw20_same k B.1 B.2.1 B.2.2.1 B.2.2.2 l m B.1 B.2.1 B.2.2.1 B.2.2.2 l m = some true := by
  unfold girolaw20_same
  rw [giroref10_Same_eq (by omega) h.toSized, giroref11_Same_eq hl' (by omega), giroref11_Same_eq hm' (by omega)]
  simp
end Go.Ab.Gi
