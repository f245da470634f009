/- What giroref21.Run says. -/
import Derived.Test.YtdlamiafpciphaaGreatGiPSettle
import Derived.Test.YtdlamiafpciphaaGreatGiPFreeRR
import Derived.Test.YtdlamiafpciphaaGreatGiPPairRR
import Derived.Test.YtdlamiafpciphaaGreatGiPKnotRR
set_option linter.unusedVariables false
set_option linter.unusedSimpArgs false
namespace Go.Ab.Gi
open Go.Ab

theorem Ran.books {k : Nat} (hk : 100 < k) {t : Int} {B C : BT} {l done m : List PayT} (h : Ran k t B l done C m) (hb : BooksT B) (hd : Dist l) : BooksT C ∧ C.1.length = B.1.length ∧ List.Sublist m l := by
  induction h with
  | stop _ => exact ⟨hb, rfl, List.Sublist.refl _⟩
  | step h _ ih =>
    obtain ⟨hp, hg⟩ := nextL_some h
    obtain ⟨h1, h2⟩ := dropL_of (mayL_mem hp)
    obtain ⟨h3, h4⟩ := goes_books hk hb (by simp) hg
    obtain ⟨g1, g2, g3⟩ := ih h3 (List.Pairwise.sublist h2 hd)
    exact ⟨g1, g2.trans h4, g3.trans h2⟩

theorem Ran2.books {k : Nat} (hk : 100 < k) {t : Int} {B C : BT} {l done m : List PayT} (h : Ran2 k t B l done C m) (hb : BooksT B) (hd : Dist l) : BooksT C ∧ C.1.length = B.1.length ∧ List.Sublist m l := by
  induction h with
  | stop _ => exact ⟨hb, rfl, List.Sublist.refl _⟩
  | step h _ ih =>
    obtain ⟨hp, hq, hdu, hg⟩ := pairs_ok h
    obtain ⟨h1, h2⟩ := drop2_of hd hp hq hdu
    obtain ⟨h3, h4⟩ := goes_books hk hb (by simp) hg
    obtain ⟨g1, g2, g3⟩ := ih h3 (List.Pairwise.sublist h2 hd)
    exact ⟨g1, g2.trans h4, g3.trans h2⟩

theorem ref21_loop {k : Nat} (hk : 200 ≤ k) {t : Int} {B C : BT} {l m done : List PayT} (h : Loop k t B l done C m) : ∀ (n : Nat) (r : List PayT), BooksT B → Dist l → l.length ≤ 100 → l.length < n → r.length + l.length ≤ 900 →
    giroref21_loop_L0 k n l t B.1 B.2.1 B.2.2.1 B.2.2.2 r = some (m, C.1, C.2.1, C.2.2.1, C.2.2.2, r ++ done) := by
  induction h with
  | @stop B C l m d h1 h2 =>
    intro n r hb hd hl hn hr
    obtain ⟨n, rfl⟩ : ∃ x, n = x + 1 := ⟨n - 1, by omega⟩
    have p1 := h1.perm hd
    have l1 := p1.length_eq
    rw [List.length_append] at l1
    obtain ⟨g1, g2, g3⟩ := h1.books (by omega) hb hd
    have f1 := ref18_Run_is hk hb hl h1
    have f2 := ref19_Run_is hk g1 (List.Pairwise.sublist g3 hd) (by omega) (Ran2.stop (t := t) h2)
    have r1 : roomB (r.length + d.length) 56 = true := roomB_true (by omega) (by omega)
    have r2 : roomB ((r ++ d).length + ([] : List PayT).length) 56 = true := roomB_true (by rw [List.length_append]; simp; omega) (by rw [List.length_append]; simp; omega)
    show giroref21_loop_L0b k _ l t B.1 B.2.1 B.2.2.1 B.2.2.2 r = _
    unfold giroref21_loop_L0b
    rw [f1]
    simp only [Option.bind_some]
    rw [f2]
    simp only [Option.bind_some, r1, r2, cond_true]
    simp
  | @step B C D E l m n' o d e f h1 h2 ne h' ih =>
    intro n r hb hd hl hn hr
    obtain ⟨n, rfl⟩ : ∃ x, n = x + 1 := ⟨n - 1, by omega⟩
    have p1 := h1.perm hd
    have l1 := p1.length_eq
    rw [List.length_append] at l1
    obtain ⟨g1, g2, g3⟩ := h1.books (by omega) hb hd
    have hm : Dist m := List.Pairwise.sublist g3 hd
    have p2 := h2.perm hm
    have l2 := p2.length_eq
    rw [List.length_append] at l2
    obtain ⟨k1, k2, k3⟩ := h2.books (by omega) g1 hm
    have f1 := ref18_Run_is hk hb hl h1
    have f2 := ref19_Run_is hk g1 hm (by omega) h2
    have hpos := List.length_pos_iff.2 ne
    have r1 : roomB (r.length + d.length) 56 = true := roomB_true (by omega) (by omega)
    have r2 : roomB ((r ++ d).length + e.length) 56 = true := roomB_true (by rw [List.length_append]; omega) (by rw [List.length_append]; omega)
    have e1 : decide (((e.length : Nat) : Int) = 0) = false := decide_eq_false (by omega)
    have := ih n (r ++ d ++ e) k1 (List.Pairwise.sublist k3 hm) (by omega) (by omega) (by simp; omega)
    show giroref21_loop_L0b k _ l t B.1 B.2.1 B.2.2.1 B.2.2.2 r = _
    unfold giroref21_loop_L0b
    rw [f1]
    simp only [Option.bind_some]
    rw [f2]
    simp only [Option.bind_some, r1, r2, cond_true, e1, cond_false]
    rw [this]
    simp

theorem ref21_loop_is {k : Nat} (hk : 200 ≤ k) {t : Int} {B C : BT} {l m done : List PayT} (hb : BooksT B) (hd : Dist l) (hl : l.length ≤ 100) (h : Loop k t B l done C m) :
    giroref21_loop k B.1 B.2.1 B.2.2.1 B.2.2.2 l t = some (C.1, C.2.1, C.2.2.1, C.2.2.2, m, done) := by
  unfold giroref21_loop
  rw [ref21_loop hk h k [] hb hd hl (by omega) (by simp; omega)]
  rfl

/-- What both knots come to. -/
theorem knot_two {k : Nat} (hk : 200 ≤ k) {B : BT} (hb : BooksT B) {l : List PayT} (hl : ∀ q ∈ l, May B.1.length q) (h64 : l.length ≤ 64) (t : Int) :
    ∃ r, knot_Run k B.1 B.2.1 B.2.2.1 B.2.2.2 l t = some r ∧ giroref20_Run k B.1 B.2.1 B.2.2.1 B.2.2.2 l t = some r := by
  obtain ⟨f, n, h, hn⟩ := most_is hb hl h64 t
  have hrl := ready_length l t
  have hhl := (headsL_sub (readyL l t) f).length_le
  obtain ⟨r, h1, h2, h3⟩ := giroref16_is (k := k) (by omega) hb (l := headsL (readyL l t) f) (by omega)
  exact ⟨_, knot_Run_is (k := k) (by omega) hb hl h64 t (by omega) h h1, ref20_Run_is (k := k) (by omega) hb hl h64 t (by omega) h h2⟩

/-- What both settle. -/
theorem settle_both {k : Nat} (hk : 200 ≤ k) {B : BT} (hb : BooksT B) {l : List PayT} (hd : Dist l) (hl : ∀ q ∈ l, May B.1.length q) (h64 : l.length ≤ 64) (t : Int) (all : Bool) :
    ∃ (C : BT) (m done : List PayT), settle_Run k B.1 B.2.1 B.2.2.1 B.2.2.2 l t all = some (C.1, C.2.1, C.2.2.1, C.2.2.2, m, done) ∧ giroref21_Run k B.1 B.2.1 B.2.2.1 B.2.2.2 l t all = some (C.1, C.2.1, C.2.2.1, C.2.2.2, m, done) ∧
      BooksT C ∧ C.1.length = B.1.length ∧ List.Sublist m l ∧ List.Perm (done ++ m) l ∧ nextL k C (mayL m t) = none ∧ pairs k C m t = none := by
  obtain ⟨C, m, d, f1, f2, f3, f4, f5⟩ := settle_some_is hk hb hd (by omega) t
  have fr := ref21_loop_is hk hb hd (by omega) f2
  have p1 := f2.perm hd
  have l1 := p1.length_eq
  rw [List.length_append] at l1
  unfold settle_Run giroref21_Run
  rw [f1, fr]
  simp only [Option.bind_some]
  cases all with
  | false => exact ⟨C, m, d, rfl, rfl, f3, f4, f5, p1, f2.final⟩
  | true =>
    simp only [Bool.not_true, cond_false]
    have hm : Dist m := List.Pairwise.sublist f5 hd
    have hmm : ∀ q ∈ m, May C.1.length q := fun q hq => by rw [f4]; exact hl q (f5.subset hq)
    obtain ⟨D, n, x, g1, g2, g3, g4, g5, g6⟩ := knot_is hk f3 hm hmm (by omega) t
    obtain ⟨R, r1, r2⟩ := knot_two hk f3 hmm (by omega) t
    have hR : R = (D.1, D.2.1, D.2.2.1, D.2.2.2, n, x) := by rw [g1] at r1; exact (Option.some.inj r1).symm
    subst hR
    have l2 := g5.length_eq
    rw [List.length_append] at l2
    rw [g1, r2]
    simp only [Option.bind_some]
    cases x with
    | nil =>
      obtain ⟨rfl, rfl⟩ := g6 rfl
      exact ⟨D, n, d, rfl, rfl, f3, f4, f5, p1, f2.final⟩
    | cons p x =>
      have e1 : decide ((((p :: x).length : Nat) : Int) = 0) = false := decide_eq_false (by simp; omega)
      rw [e1]
      simp only [cond_false]
      have hn : Dist n := List.Pairwise.sublist g4 hm
      obtain ⟨E, o, y, k1, k2, k3, k4, k5⟩ := settle_some_is hk g2 hn (by omega) t
      have kr := ref21_loop_is hk g2 hn (by omega) k2
      have p3 := k2.perm hn
      have l3 := p3.length_eq
      rw [List.length_append] at l3
      have e2 : roomB (d.length + (p :: x).length) 56 = true := roomB_true (by simp at l2 ⊢; omega) (by simp at l2 ⊢; omega)
      have e3 : roomB ((d ++ (p :: x)).length + y.length) 56 = true := roomB_true (by simp at l2 ⊢; omega) (by simp at l2 ⊢; omega)
      rw [k1, kr]
      simp only [Option.bind_some, e2, e3, cond_true]
      refine ⟨E, o, d ++ (p :: x) ++ y, rfl, rfl, k3, k4.trans (g3.trans f4), k5.trans (g4.trans f5), ?_, k2.final⟩
      have e4 : d ++ (p :: x) ++ y ++ o = d ++ ((p :: x) ++ (y ++ o)) := by simp
      rw [e4]
      exact ((p3.append_left (p :: x)).append_left d).trans ((g5.append_left d).trans p1)
end Go.Ab.Gi
