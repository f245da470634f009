/- part 32 -/
import Derived.Test.YtdhajnjinkknkaaGreatGiPSettle
set_option linter.unusedVariables false
set_option linter.unusedSimpArgs false
namespace Go.Ab.Gi
open Go.Ab
structure KeptC (B C : BT) : Prop where
 len : C.1.length = B.1.length
 sum : sumN (fun i => (C.1.getD i ad).1) B.1.length = sumN (fun i => (B.1.getD i ad).1) B.1.length
 cred : ∀ i, i < B.1.length → (C.1.getD i ad).2.1 = (B.1.getD i ad).2.1
 bil : C.2.1 = B.2.1
 mul : C.2.2.1 = B.2.2.1
theorem KeptC.refl (B : BT) : KeptC B B := ⟨rfl, rfl, fun _ _ => rfl, rfl, rfl⟩
theorem KeptC.trans {B C D : BT} (h : KeptC B C) (g : KeptC C D) : KeptC B D :=
 ⟨g.len.trans h.len, by have := g.sum; rw [h.len] at this; exact this.trans h.sum, fun i hi => (g.cred i (by rw [h.len]; exact hi)).trans (h.cred i hi), g.bil.trans h.bil, g.mul.trans h.mul⟩
theorem post_keptC {B : BT} (h : BooksT B) {l : List PayT} {r : List Acc × List (List Int) × List Int × List (List Int) × Int} (hp : PostIs B.1 B.2.1 B.2.2.1 B.2.2.2 l r) : KeptC B (r.1, r.2.1, r.2.2.1, r.2.2.2.1) := by
 have hs := (stays h hp).1
 by_cases c : Row B.1.length l
 ·obtain ⟨a', p', x, e⟩ := hp.1 c
  cases hi : isB a' B.2.1 B.2.2.1 p' with
  | false => rw [hi] at e; subst e; exact KeptC.refl B
  | true =>
   rw [hi] at e; subst e
   exact ⟨x.al, hs, fun i hi' => by show (a'.getD i ad).2.1 = _; rw [x.acct i hi'], rfl, rfl⟩
 ·rw [hp.2 c]; exact KeptC.refl B
theorem goes_keptC {k : Nat} (hk : 100 < k) {B C : BT} (h : BooksT B) {l : List PayT} (hl : l.length ≤ 80) (hg : goes k B l = some C) : KeptC B C := by
 obtain ⟨r, h1, h3⟩ := post_Post_eq hk h hl
 unfold goes at hg
 rw [h1] at hg
 simp only at hg
 cases hc : decide (r.2.2.2.2 = 0) && fitsT B l with
 | false => rw [hc] at hg; cases hg
 | true =>
  rw [hc] at hg
  simp only [cond_true, Option.some.injEq] at hg
  subst hg
  exact post_keptC h h3
theorem Ran.keptC {k : Nat} (hk : 100 < k) {t : Int} {B C : BT} {l done m : List PayT} (h : Ran k t B l done C m) (hb : BooksT B) : KeptC B C := by
 induction h with
 | stop _ => exact KeptC.refl _
 | @step B C D l m done p h h' ih =>
  have hg := (nextL_some h).2
  exact (goes_keptC hk hb (by simp) hg).trans (ih (goes_books hk hb (by simp) hg).1)
theorem Ran2.keptC {k : Nat} (hk : 100 < k) {t : Int} {B C : BT} {l done m : List PayT} (h : Ran2 k t B l done C m) (hb : BooksT B) : KeptC B C := by
 induction h with
 | stop _ => exact KeptC.refl _
 | @step B C D l m done p q h h' ih =>
  have hg := (nextP_some h).2.2.2
  exact (goes_keptC hk hb (by simp) hg).trans (ih (goes_books hk hb (by simp) hg).1)
theorem Ran.bk {k : Nat} (hk : 100 < k) {t : Int} {B C : BT} {l done m : List PayT} (h : Ran k t B l done C m) (hb : BooksT B) : BooksT C := by
 induction h with
 | stop _ => exact hb
 | step h h' ih => exact ih (goes_books hk hb (by simp) (nextL_some h).2).1
theorem Ran2.bk {k : Nat} (hk : 100 < k) {t : Int} {B C : BT} {l done m : List PayT} (h : Ran2 k t B l done C m) (hb : BooksT B) : BooksT C := by
 induction h with
 | stop _ => exact hb
 | step h h' ih => exact ih (goes_books hk hb (by simp) (nextP_some h).2.2.2).1
theorem Loop.keptC {k : Nat} (hk : 100 < k) {t : Int} {B C : BT} {l done m : List PayT} (h : Loop k t B l done C m) (hb : BooksT B) : KeptC B C := by
 induction h with
 | stop h1 _ => exact h1.keptC hk hb
 | step h1 h2 ne h' ih =>
  have b1 := h1.bk hk hb
  exact ((h1.keptC hk hb).trans (h2.keptC hk b1)).trans (ih (h2.bk hk b1))
theorem knot_keptC {k : Nat} (hk : 200 ≤ k) {B : BT} (hb : BooksT B) {l : List PayT} (hl : ∀ q ∈ l, May B.1.length q) (h64 : l.length ≤ 64) (t : Int) {C : BT} {m done : List PayT} (hr : knot_Run k B.1 B.2.1 B.2.2.1 B.2.2.2 l t = some (C.1, C.2.1, C.2.2.1, C.2.2.2, m, done)) : KeptC B C := by
 obtain ⟨f, n, h, hn⟩ := most_is hb hl h64 t
 have hrl := ready_length l t
 have hsub := headsL_sub (readyL l t) f
 have hhl := hsub.length_le
 obtain ⟨r, h1, h3⟩ := post_Post_eq (k := k) (by omega) hb (l := headsL (readyL l t) f) (by omega)
 have g1 := knot_Run_is (k := k) (by omega) hb hl h64 t (by omega) h h1
 unfold knotR at g1
 rw [g1] at hr
 cases c : decide (r.2.2.2.2 = 0) with
 | false =>
  rw [c] at hr
  simp only [Bool.not_false, cond_true, Option.some.injEq, Prod.mk.injEq] at hr
  obtain ⟨e1, e2, e3, e4, _⟩ := hr
  have : B = C := Prod.ext e1 (Prod.ext e2 (Prod.ext e3 e4))
  rw [← this]
  exact KeptC.refl B
 | true =>
  rw [c] at hr
  simp only [Bool.not_true, cond_false, Option.some.injEq, Prod.mk.injEq] at hr
  obtain ⟨e1, e2, e3, e4, _⟩ := hr
  have : (r.1, r.2.1, r.2.2.1, r.2.2.2.1) = C := Prod.ext e1 (Prod.ext e2 (Prod.ext e3 e4))
  rw [← this]
  exact post_keptC hb h3
theorem bt_inj {C D : BT} {m n d e : List PayT} (h : (C.1, C.2.1, C.2.2.1, C.2.2.2, m, d) = (D.1, D.2.1, D.2.2.1, D.2.2.2, n, e)) : C = D ∧ m = n ∧ d = e := by
 simp only [Prod.mk.injEq] at h
 obtain ⟨e1, e2, e3, e4, e5, e6⟩ := h
 exact ⟨Prod.ext e1 (Prod.ext e2 (Prod.ext e3 e4)), e5, e6⟩
theorem settle_keptC {k : Nat} (hk : 200 ≤ k) {B : BT} (hb : BooksT B) {l : List PayT} (hd : Dist l) (hl : ∀ q ∈ l, May B.1.length q) (h64 : l.length ≤ 64) (t : Int) (all : Bool) {X : BT} {mx dx : List PayT}
  (hr : settle_Run k B.1 B.2.1 B.2.2.1 B.2.2.2 l t all = some (X.1, X.2.1, X.2.2.1, X.2.2.2, mx, dx)) : KeptC B X := by
 obtain ⟨C, m, d, f1, f2, f3, f4, f5⟩ := settle_some_is hk hb hd (by omega) t
 have q1 := f2.keptC (by omega) hb
 have p1 := f2.perm hd
 have l1 := p1.length_eq
 rw [List.length_append] at l1
 unfold settle_Run at hr
 rw [f1] at hr
 simp only [Option.bind_some] at hr
 cases all with
 | false =>
  simp only [Bool.not_false, cond_true, Option.some.injEq] at hr
  rw [← (bt_inj hr).1]; exact q1
 | true =>
  simp only [Bool.not_true, cond_false] at hr
  have hm : Dist m := List.Pairwise.sublist f5 hd
  have hlm : ∀ q ∈ m, May C.1.length q := fun q hq => by rw [f4]; exact hl q (f5.subset hq)
  obtain ⟨D, n, x, g1, g2, g3, g4, g5, g6⟩ := knot_is hk f3 hm hlm (by omega) t
  have q2 := knot_keptC hk f3 hlm (by omega) t g1
  have l2 := g5.length_eq
  rw [List.length_append] at l2
  rw [g1] at hr
  simp only [Option.bind_some] at hr
  cases x with
  | nil =>
   obtain ⟨rfl, rfl⟩ := g6 rfl
   have hr' : some (D.1, D.2.1, D.2.2.1, D.2.2.2, n, d) = some (X.1, X.2.1, X.2.2.1, X.2.2.2, mx, dx) := hr
   rw [← (bt_inj (Option.some.inj hr')).1]; exact q1
  | cons p x =>
   have e1 : decide ((((p :: x).length : Nat) : Int) = 0) = false := decide_eq_false (by simp; omega)
   rw [e1] at hr
   simp only [cond_false] at hr
   have hn : Dist n := List.Pairwise.sublist g4 hm
   obtain ⟨E, o, y, k1, k2, k3, k4, k5⟩ := settle_some_is hk g2 hn (by omega) t
   have q3 := k2.keptC (by omega) g2
   have p3 := k2.perm hn
   have l3 := p3.length_eq
   rw [List.length_append] at l3
   have r1 : roomB (d.length + (p :: x).length) 56 = true := roomB_true (by simp at l2 ⊢; omega) (by simp at l2 ⊢; omega)
   have r2 : roomB ((d ++ (p :: x)).length + y.length) 56 = true := roomB_true (by simp at l2 ⊢; omega) (by simp at l2 ⊢; omega)
   rw [k1] at hr
   simp only [Option.bind_some, r1, r2, cond_true] at hr
   have hr' : some (E.1, E.2.1, E.2.2.1, E.2.2.2, o, d ++ (p :: x) ++ y) = some (X.1, X.2.1, X.2.2.1, X.2.2.2, mx, dx) := hr
   rw [← (bt_inj (Option.some.inj hr')).1]
   exact (q1.trans q2).trans q3
end Go.Ab.Gi
