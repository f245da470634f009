/- KnotRuns, KnotBooks. -/
import Derived.Test.YtdlamiafpciphaaGiPSame20
import Derived.Test.YtdlamiafpciphaaGiPKnotP
import Derived.Test.YtdlamiafpciphaaGiPKnotRR
set_option linter.unusedVariables false
set_option linter.unusedSimpArgs false
namespace Go.Ab.Gi
open Go.Ab

theorem known20 : girolaw20_known 200 = some true := by kernel_rfl

/-- What both runs come to. -/
theorem knot_both {k : Nat} (hk : 200 ≤ k) {B : BT} (hb : BooksT B) {l : List PayT} (hl : ∀ q ∈ l, May B.1.length q) (h64 : l.length ≤ 64) (t : Int) :
    ∃ (C : BT) (m done : List PayT) (f : List Int) (n : Int), knot_Run k B.1 B.2.1 B.2.2.1 B.2.2.2 l t = some (C.1, C.2.1, C.2.2.1, C.2.2.2, m, done) ∧ giroref20_Run k B.1 B.2.1 B.2.2.1 B.2.2.2 l t = some (C.1, C.2.1, C.2.2.1, C.2.2.2, m, done) ∧ BooksT C ∧ m.length ≤ l.length ∧ done.length ≤ l.length ∧
      knot_Most k B.1 B.2.1 B.2.2.1 B.2.2.2 l t = some (f, n) ∧ giroref20_Most k B.1 B.2.1 B.2.2.1 B.2.2.2 l t = some (f, n) ∧ f.length = B.1.length := by
  obtain ⟨f, n, h, hn⟩ := most_is hb hl h64 t
  have hrl := ready_length l t
  have hhl := (headsL_sub (readyL l t) f).length_le
  obtain ⟨r, h1, h2, h3⟩ := giroref16_is (k := k) (by omega) hb (l := headsL (readyL l t) f) (by omega)
  have hs := stays hb h3
  have hfl : f.length = B.1.length := (h.le (manyL_length _ _)).1.trans (manyL_length _ _)
  have g1 := knot_Run_is (k := k) (by omega) hb hl h64 t (by omega) h h1
  have g2 := ref20_Run_is (k := k) (by omega) hb hl h64 t (by omega) h h2
  have g3 := knot_Most_is (k := k) (by omega) hb hl h64 t (by omega) h
  have g4 := ref20_Most_is (k := k) (by omega) hb hl h64 t (by omega) h
  unfold knotR at g1 g2
  cases c : decide (r.2.2.2.2 = 0) with
  | false =>
    rw [c] at g1 g2
    exact ⟨B, l, [], f, _, g1, g2, hb, Nat.le_refl _, Nat.zero_le _, g3, g4, hfl⟩
  | true =>
    rw [c] at g1 g2
    exact ⟨(r.1, r.2.1, r.2.2.1, r.2.2.2.1), dropsL l (headsL (readyL l t) f), headsL (readyL l t) f, f, _, g1, g2, hs.2.1, (dropsL_le _ _).1, by omega, g3, g4, hfl⟩
end Go.Ab.Gi
