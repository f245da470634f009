/- KnotBooks. -/
import Derived.Test.YtdlamiafpciphaaGiPKnotRuns
import Derived.Test.YtdlamiafpciphaaGiPIs13
set_option linter.unusedVariables false
set_option linter.unusedSimpArgs false
namespace Go.Ab.Gi
open Go.Ab

theorem knotBooks (a : List Acc) (b : List (List Int)) (m : List Int) (p : List (List Int)) (l : List PayT) (t : Int) (hlen : l.length < 9223372036854775808) : ∃ k, girolaw20_KnotBooks k a b m p l t = some true := by
  by_cases h30 : l.length ≤ 30
  case neg =>
    refine ⟨200 + l.length, ?_⟩
    unfold girolaw20_KnotBooks
    rw [giroref10_Is_eq (by omega)]
    simp only [Option.bind_some]
    cases isB a b m p with
    | false => rfl
    | true =>
      obtain ⟨x, h1, _⟩ := is13_some (k := 200 + l.length) (l := l) (by omega) hlen
      have e : decide (((l.length : Nat) : Int) > 30) = true := decide_eq_true (by omega)
      simp only [Bool.not_true, cond_false, h1, Option.bind_some, e, cond_true]
      cases x <;> rfl
  case pos =>
    refine ⟨200, ?_⟩
    unfold girolaw20_KnotBooks
    rw [giroref10_Is_eq (by omega)]
    simp only [Option.bind_some]
    cases hB : isB a b m p with
    | false => rfl
    | true =>
      have hB' : BooksT (a, b, m, p) := isB_iff.1 hB
      obtain ⟨x, h1, h2⟩ := is13_some (k := 200) (l := l) (by omega) hlen
      have e : decide (((l.length : Nat) : Int) > 30) = false := decide_eq_false (by omega)
      simp only [Bool.not_true, cond_false, h1, Option.bind_some, e]
      cases x with
      | false => rfl
      | true =>
        rw [giroref15_All_eq (by omega) hlen]
        simp only [Bool.not_true, cond_false, Option.bind_some]
        cases hA : (allMay a.length l && decide (l.length ≤ 64)) with
        | false => rfl
        | true =>
          rw [Bool.and_eq_true] at hA
          obtain ⟨C, m', done, f, n, g1, g2, g3, g4, g5, g6, g7, g8⟩ := knot_both (k := 200) (by omega) hB' (allMay_iff.1 hA.1) (by omega) t
          have hS := same20 (k := 200) (by omega) g3 (l := m') (m := done) (by omega) (by omega) (by omega) (by omega)
          simp only at g1 g2
          rw [g1, g2]
          simp only [Bool.not_true, cond_false, Option.bind_some, hS, known20]
          rfl
end Go.Ab.Gi
