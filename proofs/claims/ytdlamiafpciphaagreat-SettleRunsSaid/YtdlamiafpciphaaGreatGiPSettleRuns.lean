/- SettleRuns. -/
import Derived.Test.YtdlamiafpciphaaGreatGiPSettleR
import Derived.Test.YtdlamiafpciphaaGreatGiPSame11
import Derived.Test.YtdlamiafpciphaaGreatGiPRowedM21
import Derived.Test.YtdlamiafpciphaaGreatGiPSome21
set_option linter.unusedVariables false
set_option linter.unusedSimpArgs false
namespace Go.Ab.Gi
open Go.Ab

theorem known21' : girolaw21_known 200 = some true := by kernel_rfl

theorem same21 {k : Nat} (hk : 100 < k) {B : BT} (h : BooksT B) {l m : List PayT} (hl : l.length ≤ 100) (hm : m.length ≤ 100) (hl' : l.length < k) (hm' : m.length < k) :
    girolaw21_same k B.1 B.2.1 B.2.2.1 B.2.2.2 l m B.1 B.2.1 B.2.2.1 B.2.2.2 l m = some true := by
  unfold girolaw21_same
  rw [giroref10_Same_eq (by omega) h.toSized, giroref11_Same_eq hl' (by omega), giroref11_Same_eq hm' (by omega)]
  simp

theorem settleRuns (have' : List Int) (way : Int) (l : List PayT) (t : Int) (all : Bool) : girolaw21_SettleRuns 200 have' way l t all = some true := by
  unfold girolaw21_SettleRuns
  cases h30 : decide (((l.length : Nat) : Int) > 30) with
  | true => rfl
  | false =>
    have hl : l.length ≤ 30 := by simp at h30; omega
    simp only [cond_false, some21_eq (k := 200) (by omega)]
    obtain ⟨r, h1, h2, h3, h4⟩ := rowedM21 (k := 200) (l := l) (by omega) (by omega)
    rw [h1]
    simp only [Option.bind_some]
    have hB : BooksT (sA have' way, sB way, sM way, sP way) := some_books have' way
    have hmay : ∀ q ∈ r, May 3 q := fun q hq => (h4 q hq).1
    obtain ⟨C, m, d, f1, fr, f2, f3, f4, f5, f6⟩ := settle_both (k := 200) (by omega) hB h2 hmay (by omega) t all
    have hlen := f5.length_eq
    rw [List.length_append] at hlen
    simp only at f1 fr
    rw [f1, fr]
    have hS := same21 (k := 200) (by omega) f2 (l := m) (m := d) (by omega) (by omega) (by omega) (by omega)
    simp only [Option.bind_some, hS, known21']
    rfl
end Go.Ab.Gi
