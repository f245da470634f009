/- What girolaw18.same and girolaw18.known say. -/
import Derived.Test.YtpmkkfbnaohlhaaGiPSame11
set_option linter.unusedVariables false
set_option linter.unusedSimpArgs false
namespace Go.Ab.Gi
open Go.Ab

theorem same18 {k : Nat} (hk : 100 < k) {B : BT} (h : BooksT B) {l m : List PayT} (hl : l.length ≤ 100) (hm : m.length ≤ 100) (hl' : l.length < k) (hm' : m.length < k) :
    girolaw18_same k B.1 B.2.1 B.2.2.1 B.2.2.2 l m B.1 B.2.1 B.2.2.1 B.2.2.2 l m = some true := by
  unfold girolaw18_same
  rw [giroref10_Same_eq (by omega) h.toSized, giroref11_Same_eq hl' (by omega), giroref11_Same_eq hm' (by omega)]
  simp

theorem known18 : girolaw18_known 200 = some true := by kernel_rfl

theorem Ran.length {k : Nat} {t : Int} {B C : BT} {l done m : List PayT} (h : Ran k t B l done C m) : done.length + m.length = l.length := by
  induction h with
  | stop _ => simp
  | step h _ ih =>
    have := (dropL_of (mayL_mem (nextL_some h).1)).1
    simp only [List.length_cons]
    omega
end Go.Ab.Gi
