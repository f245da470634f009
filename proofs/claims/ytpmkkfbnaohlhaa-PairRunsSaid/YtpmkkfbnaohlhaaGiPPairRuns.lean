/- PairRuns. -/
import Derived.Test.YtpmkkfbnaohlhaaGiPSame19
import Derived.Test.YtpmkkfbnaohlhaaGiPRowed19
import Derived.Test.YtpmkkfbnaohlhaaGiPSome19
set_option linter.unusedVariables false
set_option linter.unusedSimpArgs false
namespace Go.Ab.Gi
open Go.Ab

theorem same19 {k : Nat} (hk : 100 < k) {B : BT} (h : BooksT B) {l m : List PayT} (hl : l.length ≤ 100) (hm : m.length ≤ 100) (hl' : l.length < k) (hm' : m.length < k) :
    girolaw19_same k B.1 B.2.1 B.2.2.1 B.2.2.2 l m B.1 B.2.1 B.2.2.1 B.2.2.2 l m = some true := by
  unfold girolaw19_same
  rw [giroref10_Same_eq (by omega) h.toSized, giroref11_Same_eq hl' (by omega), giroref11_Same_eq hm' (by omega)]
  simp

theorem pairRuns (have' : List Int) (way : Int) (l : List PayT) (t : Int) : girolaw19_PairRuns 200 have' way l t = some true := by
  unfold girolaw19_PairRuns
  cases h30 : decide (((l.length : Nat) : Int) > 30) with
  | true => rfl
  | false =>
    have hl : l.length ≤ 30 := by simp at h30; omega
    simp only [cond_false, some19_eq (k := 200) (by omega)]
    obtain ⟨r, h1, h2, h3⟩ := rowed19 (k := 200) (l := l) (by omega) (by omega)
    rw [h1]
    simp only [Option.bind_some]
    have hB : BooksT (sA have' way, sB way, sM way, sP way) := some_books have' way
    have hN := pair_next_eq (k := 200) (by omega) hB (l := r) (by omega) (by show r.length ≤ 1000; omega) h2 t
    have hM := giroref19_Next_eq (k := 200) (by omega) hB (l := r) (by omega) (by show r.length ≤ 1000; omega) t
    obtain ⟨C, m, done, g1, g2, g3, g4, g5, g6⟩ := run2_both (k := 200) (by omega) hB h2 (by omega) t
    simp only at hN hM g1 g2
    unfold pair_Next
    rw [hN, hM, g1, g2]
    have gl := g3.length h2
    have hS := same19 (k := 200) (by omega) g4 (l := m) (m := done) (by omega) (by omega) (by omega) (by omega)
    simp only [Option.bind_some, hS, known19]
    cases pairs 200 (sA have' way, sB way, sM way, sP way) r t with
    | none => rfl
    | some x => simp [nextS, nextS', eqBool]
end Go.Ab.Gi
