/- FreeRuns. -/
import Derived.Test.YtpmkkfbnaohlhaaGiPSame18
import Derived.Test.YtpmkkfbnaohlhaaGiPRowed18
import Derived.Test.YtpmkkfbnaohlhaaGiPSome18
set_option linter.unusedVariables false
set_option linter.unusedSimpArgs false
namespace Go.Ab.Gi
open Go.Ab

theorem freeRuns (have' : List Int) (way : Int) (l : List PayT) (t : Int) : girolaw18_FreeRuns 200 have' way l t = some true := by
  unfold girolaw18_FreeRuns
  cases h30 : decide (((l.length : Nat) : Int) > 30) with
  | true => rfl
  | false =>
    have hl : l.length ≤ 30 := by simp at h30; omega
    simp only [cond_false, some18_eq (k := 200) (by omega)]
    obtain ⟨r, h1, h2, h3⟩ := rowed18 (k := 200) (l := l) (by omega) (by omega)
    rw [h1]
    simp only [Option.bind_some]
    have hB : BooksT (sA have' way, sB way, sM way, sP way) := some_books have' way
    have hN := free_next_eq (k := 200) (by omega) hB (l := r) (by omega) (by show r.length ≤ 1000; omega) h2 t
    have hM := giroref18_Next_eq (k := 200) (by omega) hB (l := r) (by omega) (by show r.length ≤ 1000; omega) t
    obtain ⟨C, m, done, g1, g2, g3, g4, g5, g6⟩ := run_both (k := 200) (by omega) hB h2 (by omega) t
    simp only at hN hM g1 g2
    unfold free_Next
    rw [hN, hM, g1, g2]
    have gl := g3.length
    have hS := same18 (k := 200) (by omega) g4 (l := m) (m := done) (by omega) (by omega) (by omega) (by omega)
    simp only [Option.bind_some, hS, known18]
    cases nextL 200 (sA have' way, sB way, sM way, sP way) (mayL r t) with
    | none => rfl
    | some x => simp [nextR, eqBool]
end Go.Ab.Gi
