/- AuditStuck. -/
import Derived.Test.YtnlkofpiaeoekaaGreatGiPFreeP
import Derived.Test.YtnlkofpiaeoekaaGreatGiPFreeR
import Derived.Test.YtnlkofpiaeoekaaGreatGiPRowedM27
import Derived.Test.YtnlkofpiaeoekaaGreatGiPSome27
set_option linter.unusedVariables false
set_option linter.unusedSimpArgs false
namespace Go.Ab.Gi
open Go.Ab

theorem known27s : girolaw27_known 500 = some true := by kernel_rfl

theorem auditStuck (have' : List Int) (way : Int) (l : List PayT) (t : Int) : girolaw27_AuditStuck 500 have' way l t = some true := by
  unfold girolaw27_AuditStuck
  cases h30 : decide (((l.length : Nat) : Int) > 30) with
  | true => rfl
  | false =>
    have hl : l.length ≤ 30 := by simp at h30; omega
    simp only [cond_false, some27_eq (k := 500) (by omega)]
    obtain ⟨r, h1, h2, h3, h4⟩ := rowedM27 (k := 500) (l := l) (by omega) (by omega)
    rw [h1]
    simp only [Option.bind_some]
    have hB : BooksT (sA have' way, sB way, sM way, sP way) := some_books have' way
    have hN := free_next_eq (k := 500) (by omega) hB (l := r) (by omega) (by show r.length ≤ 1000; omega) h2 t
    have hM := giroref18_Next_eq (k := 500) (by omega) hB (l := r) (by omega) (by show r.length ≤ 1000; omega) t
    simp only at hN hM
    unfold audit_Stuck giroref27_Stuck free_Next
    rw [hN, hM, known27s]
    cases nextL 500 (sA have' way, sB way, sM way, sP way) (mayL r t) with
    | none => rfl
    | some x => simp [nextR, eqBool]
end Go.Ab.Gi
