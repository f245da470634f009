/- KnotRuns. -/
import Derived.Test.YtdlamiafpciphaaGiPKnotRuns
import Derived.Test.YtdlamiafpciphaaGiPRowedM20
import Derived.Test.YtdlamiafpciphaaGiPSome20
set_option linter.unusedVariables false
set_option linter.unusedSimpArgs false
namespace Go.Ab.Gi
open Go.Ab

theorem knotRuns_loop {k : Nat} (t : Int) (l : List PayT) (B : BT) (f : List Int) (hf : f.length ≤ 100) (hk : f.length < k) :
    girolaw20_KnotRuns_L0 k k t l 0 B.1 B.2.1 B.2.2.1 B.2.2.2 f f = some (.inl (t, l, B.1, B.2.1, B.2.2.1, B.2.2.2)) := by
  have := scan0 (L := fun n i => girolaw20_KnotRuns_L0 k n t l i B.1 B.2.1 B.2.2.1 B.2.2.2 f f) (N := f.length) (fun _ => true) (.inl (t, l, B.1, B.2.1, B.2.2.1, B.2.2.2)) (.inr false) (fun n => by
    show girolaw20_KnotRuns_L0b k _ t l f.length B.1 B.2.1 B.2.2.1 B.2.2.2 f f = _
    unfold girolaw20_KnotRuns_L0b
    simp only [dec_lt, decide_eq_false (Nat.lt_irrefl _), cond_false]) (fun n i hi => by
    show girolaw20_KnotRuns_L0b k _ t l i B.1 B.2.1 B.2.2.1 B.2.2.2 f f = _
    unfold girolaw20_KnotRuns_L0b
    simp only [dec_lt, boundOk_nat, decide_eq_true hi, cond_true, decide_true, Bool.not_true, cond_false, w64_succ hi (show f.length < 9223372036854775808 by omega)]) hk
  rw [this]
  have : allF (fun _ => true) f.length 0 = true := allF_zero.2 fun _ _ => rfl
  rw [this]
  rfl

theorem knotRuns (have' : List Int) (way : Int) (l : List PayT) (t : Int) : girolaw20_KnotRuns 200 have' way l t = some true := by
  unfold girolaw20_KnotRuns
  cases h30 : decide (((l.length : Nat) : Int) > 30) with
  | true => rfl
  | false =>
    have hl : l.length ≤ 30 := by simp at h30; omega
    simp only [cond_false, some20_eq (k := 200) (by omega)]
    obtain ⟨r, h1, h2, h3, h4⟩ := rowedM20 (k := 200) (l := l) (by omega) (by omega)
    rw [h1]
    simp only [Option.bind_some]
    have hB : BooksT (sA have' way, sB way, sM way, sP way) := some_books have' way
    obtain ⟨C, m, done, f, n, g1, g2, g3, g4, g5, g6, g7, g8⟩ := knot_both (k := 200) (by omega) hB (fun q hq => (h4 q hq).1) (by omega) t
    simp only at g1 g2 g6 g7
    have g8' : f.length = 3 := g8
    have hL := knotRuns_loop (k := 200) t r (sA have' way, sB way, sM way, sP way) f (by omega) (by omega)
    simp only at hL
    rw [g6, g7]
    simp only [Option.bind_some, decide_true, Bool.not_true, cond_false]
    rw [hL]
    simp only [Option.bind_some]
    rw [g1, g2]
    have hS := same20 (k := 200) (by omega) g3 (l := m) (m := done) (by omega) (by omega) (by omega) (by omega)
    simp only [Option.bind_some, hS, known20]
    rfl
end Go.Ab.Gi
