/- FreeEnds. -/
import Derived.Test.YtpmkkfbnaohlhaaGiPSame18
import Derived.Test.YtpmkkfbnaohlhaaGiPRowed18
import Derived.Test.YtpmkkfbnaohlhaaGiPSome18
import Derived.Test.YtpmkkfbnaohlhaaGiPEnds
set_option linter.unusedVariables false
set_option linter.unusedSimpArgs false
namespace Go.Ab.Gi
open Go.Ab

theorem posI_mem {l : List PayT} {p : PayT} (h : p ∈ l) : decide (posI l p.1 < 0) = false := by
  obtain ⟨x, hx⟩ := posL_mem h
  unfold posI
  rw [hx]
  exact decide_eq_false (by simp)

theorem dropR_mem {l : List PayT} {p : PayT} (h : p ∈ l) : (dropR l p.1).2.2.2.2.2.2.2.2 = 0 := by
  obtain ⟨x, hx⟩ := posL_mem h
  unfold dropR
  rw [hx]

/-- What the program settled, looked at one by one. -/
theorem ends_loop {k : Nat} (hk : 200 ≤ k) {t : Int} {C : BT} {m : List PayT} {done : List PayT} (hdl : done.length ≤ 1000) : ∀ {B : BT} {l todo : List PayT}, Ran k t B l todo C m → ∀ (X : BT) (Y : List PayT) (i n : Nat), done.drop i = todo → i ≤ done.length → done.length < i + n → BooksT B → Dist l → l.length ≤ 100 →
    girolaw18_FreeEnds_L0 k n t Y l i X.1 X.2.1 X.2.2.1 X.2.2.2 done B.1 B.2.1 B.2.2.1 B.2.2.2 = some (.inl (t, Y, m, X.1, X.2.1, X.2.2.1, X.2.2.2, C.1, C.2.1, C.2.2.1, C.2.2.2)) ∧ nextL k C (mayL m t) = none := by
  intro B l todo h
  induction h with
  | @stop B l h =>
    intro X Y i n hi hle' hn hB hd hl
    have hle : done.length ≤ i := List.drop_eq_nil_iff.1 hi
    obtain ⟨n, rfl⟩ : ∃ x, n = x + 1 := ⟨n - 1, by omega⟩
    have : i = done.length := by omega
    subst this
    refine ⟨?_, h⟩
    show girolaw18_FreeEnds_L0b k _ t Y l done.length X.1 X.2.1 X.2.2.1 X.2.2.2 done B.1 B.2.1 B.2.2.1 B.2.2.2 = _
    unfold girolaw18_FreeEnds_L0b
    simp only [dec_lt, decide_eq_false (Nat.lt_irrefl _), cond_false]
  | @step B C D l m todo p h h' ih =>
    intro X Y i n hi hle' hn hB hd hl
    obtain ⟨hi1, hi2, hi3⟩ := drop_cons (d := pd) hi
    obtain ⟨n, rfl⟩ : ∃ x, n = x + 1 := ⟨n - 1, by omega⟩
    obtain ⟨hp, hg⟩ := nextL_some h
    have hpl := mayL_mem hp
    obtain ⟨hl1, hl2⟩ := dropL_of hpl
    obtain ⟨hc1, hc2⟩ := goes_books (by omega) hB (by simp) hg
    obtain ⟨g1, g2⟩ := ih X Y (i + 1) n hi3 (by omega) (by omega) hc1 (List.Pairwise.sublist hl2 hd) (by omega)
    refine ⟨?_, g2⟩
    rw [← g1]
    show girolaw18_FreeEnds_L0b k _ t Y l i X.1 X.2.1 X.2.2.1 X.2.2.2 done B.1 B.2.1 B.2.2.1 B.2.2.2 = _
    unfold girolaw18_FreeEnds_L0b
    obtain ⟨hf, r, hr1, hr2, hr3⟩ := goes_fits hg
    obtain ⟨r', q1, q2, q3⟩ := giroref16_is (k := k) (by omega) hB (l := [p]) (by simp)
    have : r' = r := by rw [hr1] at q1; exact (Option.some.inj q1).symm
    subst this
    have c1 : decide ((0 : Int) ≤ (i : Int)) = true := by simp
    have c2 : decide ((i : Int) ≤ ((i + 1 : Nat) : Int)) = true := decide_eq_true (by omega)
    have c3 : decide (((i + 1 : Nat) : Int) ≤ (done.length : Int)) = true := decide_eq_true (by omega)
    have hml := mayL_length l t
    have hF := giroref13_Find_eq (k := k) (l := mayL l t) (by omega) (by omega) p.1
    have hD := giroref13_Drop_eq (k := k) (l := l) (by omega) (by show l.length ≤ 1000; omega) p.1
    simp only [pd] at hi2
    have hi2' : done.getD i pd = p := hi2
    simp only [dec_lt, decide_eq_true hi1, cond_true, giroref14_May_eq (show l.length < k by omega) (show Small l by show l.length ≤ 1000; omega), Option.bind_some, boundOk_nat, Int.toNat_natCast, hi2, hF, posI_mem hp, cond_false, c1, w64_succ hi1 (show done.length < 9223372036854775808 by omega), c2, c3, Bool.and_true, slc_one done i hi1, hi2', ref_fits_T (show 100 < k by omega) hB (show [p].length ≤ 80 by simp), hf, Bool.not_true, q2, hr2, hD, dropR_mem hpl, decide_true]
    rw [hr3]
    rfl

theorem freeEnds (have' : List Int) (way : Int) (l : List PayT) (t : Int) : girolaw18_FreeEnds 200 have' way l t = some true := by
  unfold girolaw18_FreeEnds
  cases h30 : decide (((l.length : Nat) : Int) > 30) with
  | true => rfl
  | false =>
    have hl : l.length ≤ 30 := by simp at h30; omega
    simp only [cond_false, some18_eq (k := 200) (by omega)]
    obtain ⟨r, h1, h2, h3⟩ := rowed18 (k := 200) (l := l) (by omega) (by omega)
    rw [h1]
    simp only [Option.bind_some]
    have hB : BooksT (sA have' way, sB way, sM way, sP way) := some_books have' way
    obtain ⟨C, m, done, g1, g2, g3, g4, g5, g6⟩ := run_both (k := 200) (by omega) hB h2 (by omega) t
    simp only at g1 g2
    rw [g1]
    have gl := g3.length
    obtain ⟨q1, q2⟩ := ends_loop (k := 200) (by omega) (done := done) (by omega) g3 C m 0 200 (by simp) (by omega) (by omega) hB h2 (by omega)
    have q1' : girolaw18_FreeEnds_L0 200 200 t m r 0 C.1 C.2.1 C.2.2.1 C.2.2.2 done (sA have' way) (sB way) (sM way) (sP way) = _ := q1
    simp only [Option.bind_some]
    rw [q1']
    simp only [Option.bind_some]
    rw [giroref18_Next_eq (k := 200) (by omega) g4 (by omega) (show Small m by show m.length ≤ 1000; omega), q2]
    simp only [Option.bind_some, Bool.not_false, cond_true]
    rw [giroref10_Same_eq (by omega) g4.toSized, giroref11_Same_eq (by omega) (by omega), known18]
    simp
end Go.Ab.Gi
