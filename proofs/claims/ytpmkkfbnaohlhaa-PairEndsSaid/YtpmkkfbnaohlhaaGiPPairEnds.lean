/- PairEnds. -/
import Derived.Test.YtpmkkfbnaohlhaaGiPSame19
import Derived.Test.YtpmkkfbnaohlhaaGiPRowed19
import Derived.Test.YtpmkkfbnaohlhaaGiPSome19
import Derived.Test.YtpmkkfbnaohlhaaGiPEnds
set_option linter.unusedVariables false
set_option linter.unusedSimpArgs false
namespace Go.Ab.Gi
open Go.Ab

theorem posI_none {l : List PayT} {id : Int} (h : ∀ q ∈ l, q.1 ≠ id) : decide (posI l id ≥ 0) = false := by
  unfold posI
  cases hp : posL l id with
  | none => rfl
  | some x =>
    have := posL_some hp
    exact absurd this.2 (h _ (getD_mem this.1))

theorem slc_two (m : List PayT) (i : Nat) (hi : i + 1 < m.length) : slc m (0 + i) (i + 2 - i) = [m.getD i pd, m.getD (i + 1) pd] := by
  unfold slc
  rw [Nat.zero_add, show i + 2 - i = 2 by omega, List.drop_eq_getElem_cons (by omega), List.drop_eq_getElem_cons hi, getD_get (by omega), getD_get hi]
  rfl

theorem Ran2.gone {k : Nat} {t : Int} {B C D : BT} {l done m : List PayT} {p q : PayT} (hd : Dist l) (h : pairs k B l t = some (p, q, C)) (h' : Ran2 k t C (drop2 l p q) done D m) : (∀ r ∈ m, r.1 ≠ p.1) ∧ (∀ r ∈ m, r.1 ≠ q.1) := by
  obtain ⟨hp, hq, hdu, _⟩ := pairs_ok h
  obtain ⟨h1, h2⟩ := drop2_of hd hp hq hdu
  have hs := h'.sub (List.Pairwise.sublist h2 hd)
  have hd' : Dist (dropL l p.1) := List.Pairwise.sublist (dropL_of hp).2 hd
  have hq' := mem_dropL hp hq (duo_ne hd hp hq hdu)
  exact ⟨fun r hr => not_dropL hd hp r ((dropL_of hq').2.subset (hs.subset hr)), fun r hr => not_dropL hd' hq' r (hs.subset hr)⟩

/-- What the program settled, looked at two by two. -/
theorem ends2_loop {k : Nat} (hk : 200 ≤ k) {t : Int} {C : BT} {m : List PayT} (hml : m.length ≤ 100) {done : List PayT} (hdl : done.length ≤ 1000) : ∀ {B : BT} {l todo : List PayT}, Ran2 k t B l todo C m → ∀ (X : BT) (i n : Nat), done.drop i = todo → i ≤ done.length → done.length < i + n → BooksT B → Dist l → l.length ≤ 100 →
    girolaw19_PairEnds_L0 k n t m i X.1 X.2.1 X.2.2.1 X.2.2.2 done B.1 B.2.1 B.2.2.1 B.2.2.2 = some (.inl (t, m, X.1, X.2.1, X.2.2.1, X.2.2.2, C.1, C.2.1, C.2.2.1, C.2.2.2)) ∧ pairs k C m t = none := by
  intro B l todo h
  induction h with
  | @stop B l h =>
    intro X i n hi hle' hn hB hd hl
    have hle : done.length ≤ i := List.drop_eq_nil_iff.1 hi
    obtain ⟨n, rfl⟩ : ∃ x, n = x + 1 := ⟨n - 1, by omega⟩
    have : i = done.length := by omega
    subst this
    refine ⟨?_, h⟩
    show girolaw19_PairEnds_L0b k _ t l done.length X.1 X.2.1 X.2.2.1 X.2.2.2 done B.1 B.2.1 B.2.2.1 B.2.2.2 = _
    unfold girolaw19_PairEnds_L0b
    have e : decide (w64 ((done.length : Int) + 1) < (done.length : Int)) = false := by
      rw [w64_id (by omega) (by omega)]
      exact decide_eq_false (by omega)
    rw [e]
    rfl
  | @step B C D l m todo p q h h' ih =>
    intro X i n hi hle' hn hB hd hl
    obtain ⟨hi1, hi2, hi3⟩ := drop_cons (d := pd) hi
    obtain ⟨hj1, hj2, hj3⟩ := drop_cons (d := pd) hi3
    obtain ⟨n, rfl⟩ : ∃ x, n = x + 1 := ⟨n - 1, by omega⟩
    obtain ⟨hp, hq, hdu, hg⟩ := pairs_ok h
    obtain ⟨hl1, hl2⟩ := drop2_of hd hp hq hdu
    obtain ⟨hc1, hc2⟩ := goes_books (by omega) hB (by simp) hg
    obtain ⟨g1, g2⟩ := ih hml X (i + 2) n hj3 (by omega) (by omega) hc1 (List.Pairwise.sublist hl2 hd) (by omega)
    refine ⟨?_, g2⟩
    rw [← g1]
    show girolaw19_PairEnds_L0b k _ t m i X.1 X.2.1 X.2.2.1 X.2.2.2 done B.1 B.2.1 B.2.2.1 B.2.2.2 = _
    unfold girolaw19_PairEnds_L0b
    obtain ⟨hf, r, hr1, hr2, hr3⟩ := goes_fits hg
    obtain ⟨r', q1, q2, q3⟩ := giroref16_is (k := k) (by omega) hB (l := [p, q]) (by simp)
    have : r' = r := by rw [hr1] at q1; exact (Option.some.inj q1).symm
    subst this
    have w1 : w64 ((i : Int) + 1) = ((i + 1 : Nat) : Int) := w64_succ hi1 (by omega)
    have w2 : w64 ((i : Int) + 2) = ((i + 2 : Nat) : Int) := by rw [w64_id (by omega) (by omega)]; rfl
    have c1 : decide ((0 : Int) ≤ (i : Int)) = true := by simp
    have c2 : decide ((i : Int) ≤ ((i + 2 : Nat) : Int)) = true := decide_eq_true (by omega)
    have c3 : decide (((i + 2 : Nat) : Int) ≤ (done.length : Int)) = true := decide_eq_true (by omega)
    obtain ⟨u1, u2⟩ := Ran2.gone hd h h'
    have hF1 := giroref13_Find_eq (k := k) (l := m) (by omega) (by omega) p.1
    have hF2 := giroref13_Find_eq (k := k) (l := m) (by omega) (by omega) q.1
    simp only [pd] at hi2 hj2
    have hi2' : done.getD i pd = p := hi2
    have hj2' : done.getD (i + 1) pd = q := hj2
    have hsl : slc done (0 + i) (i + 2 - i) = [p, q] := by rw [slc_two done i hj1, hi2', hj2']
    have d1 : decide (p.2.1 = q.2.2.1) = true := by
      unfold duo at hdu
      simp only [Bool.and_eq_true, decide_eq_true_eq] at hdu
      exact decide_eq_true hdu.2.1.symm
    have d2 : decide (p.2.2.1 = q.2.1) = true := by
      unfold duo at hdu
      simp only [Bool.and_eq_true, decide_eq_true_eq] at hdu
      exact decide_eq_true hdu.1.symm
    have d3 : decide (p.2.1 ≥ q.2.1) = false := by
      unfold duo at hdu
      simp only [Bool.and_eq_true, Bool.not_eq_true'] at hdu
      exact hdu.2.2
    simp only [w1, w2, dec_lt, decide_eq_true hj1, decide_eq_true hi1, cond_true, Option.bind_some, boundOk_nat, Int.toNat_natCast, hi2, hj2, hF1, hF2, posI_none u1, posI_none u2, cond_false, c1, c2, c3, Bool.and_true, hsl, ref_fits_T (show 100 < k by omega) hB (show [p, q].length ≤ 80 by simp), hf, Bool.not_true, q2, hr2, d1, d2, d3, decide_true]
    rw [hr3]

theorem pairEnds (have' : List Int) (way : Int) (l : List PayT) (t : Int) : girolaw19_PairEnds 200 have' way l t = some true := by
  unfold girolaw19_PairEnds
  cases h30 : decide (((l.length : Nat) : Int) > 30) with
  | true => rfl
  | false =>
    have hl : l.length ≤ 30 := by simp at h30; omega
    simp only [cond_false, some19_eq (k := 200) (by omega)]
    obtain ⟨r, h1, h2, h3⟩ := rowed19 (k := 200) (l := l) (by omega) (by omega)
    rw [h1]
    simp only [Option.bind_some]
    have hB : BooksT (sA have' way, sB way, sM way, sP way) := some_books have' way
    obtain ⟨C, m, done, g1, g2, g3, g4, g5, g6⟩ := run2_both (k := 200) (by omega) hB h2 (by omega) t
    simp only at g1 g2
    rw [g1]
    obtain ⟨gl, ge⟩ := g3.length h2
    obtain ⟨q1, q2⟩ := ends2_loop (k := 200) (by omega) (m := m) (by omega) (done := done) (by omega) g3 C 0 200 (by simp) (by omega) (by omega) hB h2 (by omega)
    have q1' : girolaw19_PairEnds_L0 200 200 t m 0 C.1 C.2.1 C.2.2.1 C.2.2.2 done (sA have' way) (sB way) (sM way) (sP way) = _ := q1
    have e1 : decide (Int.tmod ((done.length : Nat) : Int) 2 = 0) = true := decide_eq_true (by
      have : Int.tmod ((done.length : Nat) : Int) 2 = ((done.length % 2 : Nat) : Int) := rfl
      rw [this, ge]; rfl)
    have e2 : decide (w64 (((done.length : Nat) : Int) + ((m.length : Nat) : Int)) = ((r.length : Nat) : Int)) = true := decide_eq_true (by rw [w64_id (by omega) (by omega)]; omega)
    simp only [Option.bind_some, e1, e2, Bool.not_true, cond_false]
    rw [q1']
    simp only [Option.bind_some]
    rw [giroref19_Next_eq (k := 200) (by omega) g4 (by omega) (show Small m by show m.length ≤ 1000; omega), q2]
    simp only [Option.bind_some, nextS', Bool.not_false, cond_true]
    rw [giroref10_Same_eq (by omega) g4.toSized, known19]
    simp
end Go.Ab.Gi
