/- SettleAgain. -/
import Derived.Test.YtdlamiafpciphaaGiPSettleEnds
import Derived.Test.YtdlamiafpciphaaGiPKnotRR
set_option linter.unusedVariables false
set_option linter.unusedSimpArgs false
namespace Go.Ab.Gi
open Go.Ab

/-- What both knots come to. -/
theorem knot_pair {k : Nat} (hk : 200 ≤ k) {B : BT} (hb : BooksT B) {l : List PayT} (hl : ∀ q ∈ l, May B.1.length q) (h64 : l.length ≤ 64) (t : Int) :
    ∃ r, knot_Run k B.1 B.2.1 B.2.2.1 B.2.2.2 l t = some r ∧ giroref20_Run k B.1 B.2.1 B.2.2.1 B.2.2.2 l t = some r := by
  obtain ⟨f, n, h, hn⟩ := most_is hb hl h64 t
  have hrl := ready_length l t
  have hhl := (headsL_sub (readyL l t) f).length_le
  obtain ⟨r, h1, h2, h3⟩ := giroref16_is (k := k) (by omega) hb (l := headsL (readyL l t) f) (by omega)
  exact ⟨_, knot_Run_is (k := k) (by omega) hb hl h64 t (by omega) h h1, ref20_Run_is (k := k) (by omega) hb hl h64 t (by omega) h h2⟩

theorem settle_again {k : Nat} (hk : 200 ≤ k) {B : BT} (hb : BooksT B) {l : List PayT} (hd : Dist l) (hl : l.length ≤ 100) (t : Int) (h1 : nextL k B (mayL l t) = none) (h2 : pairs k B l t = none) :
    settle_some k B.1 B.2.1 B.2.2.1 B.2.2.2 l t = some (B.1, B.2.1, B.2.2.1, B.2.2.2, l, []) := by
  obtain ⟨C, m, d, f1, f2, f3⟩ := settle_some_is hk hb hd hl t
  obtain ⟨rfl, rfl, rfl⟩ := f2.none h1 h2
  exact f1

theorem settleAgain (have' : List Int) (way : Int) (l : List PayT) (t : Int) : girolaw21_SettleAgain 200 have' way l t = some true := by
  unfold girolaw21_SettleAgain
  cases h30 : decide (((l.length : Nat) : Int) > 30) with
  | true => rfl
  | false =>
    have hl : l.length ≤ 30 := by simp at h30; omega
    simp only [cond_false, some21_eq (k := 200) (by omega)]
    obtain ⟨r, h1, h2, h3, h4⟩ := rowedM21 (k := 200) (l := l) (by omega) (by omega)
    rw [h1]
    simp only [Option.bind_some]
    have hB : BooksT (sA have' way, sB way, sM way, sP way) := some_books have' way
    have hmay : ∀ q ∈ r, May 3 q := fun q hq => (h4 q hq).1
    obtain ⟨C, m, d, f1, f2, f3, f4, f5, f6, f7⟩ := settle_Run_is (k := 200) (by omega) hB h2 hmay (by omega) t false
    have hlen := f5.length_eq
    rw [List.length_append] at hlen
    have hdm : Dist m := List.Pairwise.sublist f4 h2
    have hmm : ∀ q ∈ m, May C.1.length q := fun q hq => by rw [f3]; exact hmay q (f4.subset hq)
    simp only at f1
    rw [f1]
    simp only [Option.bind_some]
    have hs := settle_again (k := 200) (by omega) f2 hdm (by omega) t f6 f7
    have g1 : settle_Run 200 C.1 C.2.1 C.2.2.1 C.2.2.2 m t false = some (C.1, C.2.1, C.2.2.1, C.2.2.2, m, []) := by
      unfold settle_Run
      rw [hs]
      rfl
    obtain ⟨D, n, x, k1, k2, k3, k4, k5, k6⟩ := knot_is (k := 200) (by omega) f2 hdm hmm (by omega) t
    have l2 := k5.length_eq
    rw [List.length_append] at l2
    obtain ⟨R, r1, r2⟩ := knot_pair (k := 200) (by omega) f2 hmm (by omega) t
    have hR : R = (D.1, D.2.1, D.2.2.1, D.2.2.2, n, x) := by rw [k1] at r1; exact (Option.some.inj r1).symm
    subst hR
    have g2 : ∃ (E : BT) (o y : List PayT), settle_Run 200 C.1 C.2.1 C.2.2.1 C.2.2.2 m t true = some (E.1, E.2.1, E.2.2.1, E.2.2.2, o, y) ∧ BooksT E ∧ x.length ≤ y.length ∧ o.length + y.length = m.length := by
      unfold settle_Run
      rw [hs]
      simp only [Option.bind_some, Bool.not_true, cond_false]
      rw [k1]
      simp only [Option.bind_some]
      cases x with
      | nil =>
        obtain ⟨rfl, rfl⟩ := k6 rfl
        exact ⟨D, n, [], rfl, k2, Nat.le_refl _, rfl⟩
      | cons p x =>
        have e1 : decide ((((p :: x).length : Nat) : Int) = 0) = false := decide_eq_false (by simp; omega)
        rw [e1]
        simp only [cond_false]
        have hn : Dist n := List.Pairwise.sublist k4 hdm
        obtain ⟨E, o, y, q1, q2, q3, q4, q5⟩ := settle_some_is (k := 200) (by omega) k2 hn (by omega) t
        have p3 := q2.perm hn
        have l3 := p3.length_eq
        rw [List.length_append] at l3
        have e2 : roomB (([] : List PayT).length + (p :: x).length) 56 = true := roomB_true (by simp at l2 ⊢; omega) (by simp at l2 ⊢; omega)
        have e3 : roomB (([] ++ (p :: x)).length + y.length) 56 = true := roomB_true (by simp at l2 ⊢; omega) (by simp at l2 ⊢; omega)
        rw [q1]
        simp only [Option.bind_some, e2, e3, cond_true]
        refine ⟨E, o, [] ++ (p :: x) ++ y, rfl, q3, by simp, ?_⟩
        simp only [List.nil_append, List.length_append]
        omega
    obtain ⟨E, o, y, u1, u2, u3, u4⟩ := g2
    rw [g1, u1, r2]
    have w : w64 (((o.length : Nat) : Int) + ((y.length : Nat) : Int)) = ((o.length : Nat) : Int) + ((y.length : Nat) : Int) := w64_id (by omega) (by omega)
    have e1 : decide (((o.length : Nat) : Int) + ((y.length : Nat) : Int) = ((m.length : Nat) : Int)) = true := decide_eq_true (by omega)
    have e2 : decide (((y.length : Nat) : Int) ≥ ((x.length : Nat) : Int)) = true := decide_eq_true (by omega)
    simp only [Option.bind_some]
    rw [giroref10_Is_eq (by omega), isB_iff.2 u2]
    simp only [Option.bind_some, w, e1, e2, known21, cond_true]
    rfl
end Go.Ab.Gi
