/- part 28 -/
import Derived.Test.YtdhajnjinkknkaaGreatGiPFreeP
import Derived.Test.YtdhajnjinkknkaaGreatGiPPairP
import Derived.Test.YtdhajnjinkknkaaGreatGiPKnotP
set_option linter.unusedVariables false
set_option linter.unusedSimpArgs false
namespace Go.Ab.Gi
open Go.Ab
theorem perm_cut {l : List PayT} {x : Nat} (hx : x < l.length) : List.Perm (l.getD x pd :: cutL l x) l := by
 unfold cutL
 have h : List.Perm (l.getD x pd :: (l.take x ++ l.drop (x + 1))) (l.take x ++ l.getD x pd :: l.drop (x + 1)) := List.perm_middle.symm
 have e := split_at l x pd hx
 rw [← e] at h
 exact h
theorem perm_drop {l : List PayT} (hd : Dist l) {p : PayT} (hp : p ∈ l) : List.Perm (p :: dropL l p.1) l := by
 obtain ⟨x, hx⟩ := posL_mem hp
 have h := posL_some hx
 have e : l.getD x pd = p := hd.eq_of (getD_mem h.1) hp h.2
 unfold dropL dropR
 rw [hx]
 have := perm_cut h.1
 rw [e] at this
 exact this
theorem Ran.perm {k : Nat} {t : Int} {B C : BT} {l done m : List PayT} (h : Ran k t B l done C m) (hd : Dist l) : List.Perm (done ++ m) l := by
 induction h with
 | stop _ => exact List.Perm.refl _
 | step h _ ih =>
  have hp := mayL_mem (nextL_some h).1
  exact ((ih (List.Pairwise.sublist (dropL_of hp).2 hd)).cons _).trans (perm_drop hd hp)
theorem Ran2.perm {k : Nat} {t : Int} {B C : BT} {l done m : List PayT} (h : Ran2 k t B l done C m) (hd : Dist l) : List.Perm (done ++ m) l := by
 induction h with
 | stop _ => exact List.Perm.refl _
 | step h _ ih =>
  obtain ⟨hp, hq, hdu, _⟩ := pairs_ok h
  obtain ⟨h1, h2⟩ := drop2_of hd hp hq hdu
  have hd' : Dist (dropL _ _) := List.Pairwise.sublist (dropL_of hp).2 hd
  have hq' := mem_dropL hp hq (duo_ne hd hp hq hdu)
  exact (((ih (List.Pairwise.sublist h2 hd)).cons _).cons _).trans (((perm_drop hd' hq').cons _).trans (perm_drop hd hp))
theorem Ran.final {k : Nat} {t : Int} {B C : BT} {l done m : List PayT} (h : Ran k t B l done C m) : nextL k C (mayL m t) = none := by
 induction h with
 | stop h => exact h
 | step _ _ ih => exact ih
theorem Ran2.final {k : Nat} {t : Int} {B C : BT} {l done m : List PayT} (h : Ran2 k t B l done C m) : pairs k C m t = none := by
 induction h with
 | stop h => exact h
 | step _ _ ih => exact ih
theorem Dist.perm {l m : List PayT} (h : Dist l) (hp : List.Perm m l) : Dist m := (List.Perm.pairwise_iff (R := fun p q : PayT => p.1 ≠ q.1) (fun hab => Ne.symm hab) hp.symm).1 h
inductive Loop (k : Nat) (t : Int) : BT → List PayT → List PayT → BT → List PayT → Prop
 | stop {B C : BT} {l m d : List PayT} (h1 : Ran k t B l d C m) (h2 : pairs k C m t = none) : Loop k t B l d C m
 | step {B C D E : BT} {l m n o d e f : List PayT} (h1 : Ran k t B l d C m) (h2 : Ran2 k t C m e D n) (ne : e ≠ []) (h' : Loop k t D n f E o) : Loop k t B l (d ++ e ++ f) E o
theorem Loop.perm {k : Nat} {t : Int} {B C : BT} {l done m : List PayT} (h : Loop k t B l done C m) (hd : Dist l) : List.Perm (done ++ m) l := by
 induction h with
 | stop h1 _ => exact h1.perm hd
 | @step B C D E l m n o d e f h1 h2 ne h' ih =>
  have p1 := h1.perm hd
  have hd1 := hd.perm p1
  have hm : Dist m := (List.pairwise_append.1 hd1).2.1
  have p2 := h2.perm hm
  have hn : Dist n := (List.pairwise_append.1 (hm.perm p2)).2.1
  have p3 := ih hn
  have e1 : d ++ e ++ f ++ o = d ++ (e ++ (f ++ o)) := by simp
  rw [e1]
  exact ((p3.append_left e).append_left d).trans ((p2.append_left d).trans p1)
theorem Loop.final {k : Nat} {t : Int} {B C : BT} {l done m : List PayT} (h : Loop k t B l done C m) : nextL k C (mayL m t) = none ∧ pairs k C m t = none := by
 induction h with
 | stop h1 h2 => exact ⟨h1.final, h2⟩
 | step _ _ _ _ ih => exact ih
theorem Ran.none {k : Nat} {t : Int} {B C : BT} {l done m : List PayT} (h : Ran k t B l done C m) (hn : nextL k B (mayL l t) = none) : done = [] ∧ C = B ∧ m = l := by
 cases h with
 | stop _ => exact ⟨rfl, rfl, rfl⟩
 | step h _ => rw [hn] at h; cases h
theorem Ran2.none {k : Nat} {t : Int} {B C : BT} {l done m : List PayT} (h : Ran2 k t B l done C m) (hn : pairs k B l t = none) : done = [] ∧ C = B ∧ m = l := by
 cases h with
 | stop _ => exact ⟨rfl, rfl, rfl⟩
 | step h _ => rw [hn] at h; cases h
theorem Ran2.nil {k : Nat} {t : Int} {B C : BT} {l m : List PayT} (h : Ran2 k t B l [] C m) : pairs k B l t = Option.none ∧ C = B ∧ m = l := by
 cases h with
 | stop h => exact ⟨h, rfl, rfl⟩
theorem Loop.none {k : Nat} {t : Int} {B C : BT} {l done m : List PayT} (h : Loop k t B l done C m) (h1 : nextL k B (mayL l t) = Option.none) (h2 : pairs k B l t = Option.none) : done = [] ∧ C = B ∧ m = l := by
 cases h with
 | stop g1 _ => exact g1.none h1
 | step g1 g2 ne _ =>
  obtain ⟨rfl, rfl, rfl⟩ := g1.none h1
  obtain ⟨rfl, _, _⟩ := g2.none h2
  exact absurd rfl ne
theorem settle_loop {k : Nat} (hk : 200 ≤ k) (t : Int) : ∀ (n : Nat) (B : BT) (l r : List PayT), BooksT B → Dist l → l.length ≤ 100 → l.length < n → r.length + l.length ≤ 900 →
  ∃ (C : BT) (m done : List PayT), settle_some_L0 k n t l B.1 B.2.1 B.2.2.1 B.2.2.2 r = some (m, C.1, C.2.1, C.2.2.1, C.2.2.2, r ++ done) ∧ Loop k t B l done C m ∧ BooksT C ∧ C.1.length = B.1.length ∧ List.Sublist m l
 | 0, _, _, _, _, _, _, h, _ => absurd h (Nat.not_lt_zero _)
 | n + 1, B, l, r, hb, hd, hl, hn, hr => by
  obtain ⟨C, m, d, f1, f2, f3, f4, f5⟩ := free_Run_is hk hb hd hl t
  have p1 := f2.perm hd
  have l1 := p1.length_eq
  rw [List.length_append] at l1
  have hm : Dist m := List.Pairwise.sublist f5 hd
  obtain ⟨D, o, e, g1, g2, g3, g4, g5⟩ := pair_Run_is hk f3 hm (by omega) t
  have p2 := g2.perm hm
  have l2 := p2.length_eq
  rw [List.length_append] at l2
  have r1 : roomB (r.length + d.length) 56 = true := roomB_true (by omega) (by omega)
  have r2 : roomB ((r ++ d).length + e.length) 56 = true := roomB_true (by rw [List.length_append]; omega) (by rw [List.length_append]; omega)
  show ∃ C' m' done', settle_some_L0b k _ t l B.1 B.2.1 B.2.2.1 B.2.2.2 r = _ ∧ _
  unfold settle_some_L0b
  rw [f1]
  simp only [Option.bind_some]
  rw [g1]
  simp only [Option.bind_some, r1, r2, cond_true]
  cases e with
  | nil =>
   obtain ⟨h1, h2, h3⟩ := g2.nil
   subst h2; subst h3
   refine ⟨D, o, d, ?_, .stop f2 h1, f3, f4, f5⟩
   simp
  | cons p e =>
   have hlt : o.length + (e.length + 1) = m.length := by simp at l2; omega
   obtain ⟨E, q, f, k1, k2, k3, k4, k5⟩ := settle_loop hk t n D o (r ++ d ++ (p :: e)) g3 (List.Pairwise.sublist g5 hm) (by omega) (by omega) (by simp; omega)
   refine ⟨E, q, d ++ (p :: e) ++ f, ?_, .step f2 g2 (by simp) k2, k3, k4.trans (g4.trans f4), k5.trans (g5.trans f5)⟩
   have e1 : decide ((((p :: e).length : Nat) : Int) = 0) = false := decide_eq_false (by simp; omega)
   rw [e1]
   simp only [cond_false]
   rw [k1]
   simp
theorem settle_some_is {k : Nat} (hk : 200 ≤ k) {B : BT} (hb : BooksT B) {l : List PayT} (hd : Dist l) (hl : l.length ≤ 100) (t : Int) :
  ∃ (C : BT) (m done : List PayT), settle_some k B.1 B.2.1 B.2.2.1 B.2.2.2 l t = some (C.1, C.2.1, C.2.2.1, C.2.2.2, m, done) ∧ Loop k t B l done C m ∧ BooksT C ∧ C.1.length = B.1.length ∧ List.Sublist m l := by
 obtain ⟨C, m, done, h1, h3⟩ := settle_loop hk t k B l [] hb hd hl (by omega) (by simp; omega)
 refine ⟨C, m, done, ?_, h3⟩
 unfold settle_some
 rw [h1]
 rfl
theorem perm_drops : ∀ (hs l : List PayT), Dist l → Dist hs → (∀ q ∈ hs, q ∈ l) → List.Perm (hs ++ dropsL l hs) l
 | [], l, _, _, _ => List.Perm.refl _
 | p :: hs, l, hd, hh, hin => by
  have hp := hin p (List.mem_cons_self ..)
  obtain ⟨h1, h2⟩ := dropL_of hp
  have hc := List.pairwise_cons.1 hh
  have := perm_drops hs (dropL l p.1) (List.Pairwise.sublist h2 hd) hc.2 (fun q hq => mem_dropL hp (hin q (List.mem_cons_of_mem _ hq)) (fun e => hc.1 q hq e.symm))
  exact (this.cons p).trans (perm_drop hd hp)
theorem post_nil {k : Nat} (hk : 100 < k) {B : BT} (hb : BooksT B) : post_Post k B.1 B.2.1 B.2.2.1 B.2.2.2 [] = some (B.1, B.2.1, B.2.2.1, B.2.2.2, 0) := by
  obtain ⟨r, h1, h3⟩ := post_Post_eq hk hb (l := []) (by simp)
  have hrow : Row B.1.length [] := ⟨fun p hp => (by cases hp), by simp⟩
  obtain ⟨a', p', h4, h5⟩ := h3.1 hrow
  have hid : Posted B.1.length B.1 B.2.2.2 [] B.1 B.2.2.2 := {
    al := rfl
    acct := fun i hi => by
      have hc := hb.acct i hi
      have hr : 0 ≤ (B.1.getD i ad).2.2 := by
        have := hb.nums.res i hi
        exact this.1
      show B.1.getD i ad = ((B.1.getD i ad).1 + 0, (B.1.getD i ad).2.1, keptZ (B.1.getD i ad).2.2 0)
      have e : keptZ (B.1.getD i ad).2.2 0 = (B.1.getD i ad).2.2 := by
        unfold keptZ
        split <;> omega
      rw [e, Int.add_zero]
    pl := hb.pl
    pr := hb.pr
    cell := fun i hi j hj => by show _ = _ + 0 - 0; omega }
  obtain ⟨e1, e2⟩ := h4.same hid
  subst e1; subst e2
  rw [isB_iff.2 hb] at h5
  rw [h1, h5]
  rfl
theorem knot_is {k : Nat} (hk : 200 ≤ k) {B : BT} (hb : BooksT B) {l : List PayT} (hd : Dist l) (hl : ∀ q ∈ l, May B.1.length q) (h64 : l.length ≤ 64) (t : Int) :
  ∃ (C : BT) (m done : List PayT), knot_Run k B.1 B.2.1 B.2.2.1 B.2.2.2 l t = some (C.1, C.2.1, C.2.2.1, C.2.2.2, m, done) ∧ BooksT C ∧ C.1.length = B.1.length ∧ List.Sublist m l ∧ List.Perm (done ++ m) l ∧ (done = [] → C = B ∧ m = l) := by
 obtain ⟨f, n, h, hn⟩ := most_is hb hl h64 t
 have hrl := ready_length l t
 have hsub := headsL_sub (readyL l t) f
 have hhl := hsub.length_le
 obtain ⟨r, h1, h2, h3⟩ := giroref16_is (k := k) (by omega) hb (l := headsL (readyL l t) f) (by omega)
 have hs := stays hb h3
 have g1 := knot_Run_is (k := k) (by omega) hb hl h64 t (by omega) h h1
 unfold knotR at g1
 cases c : decide (r.2.2.2.2 = 0) with
 | false =>
  rw [c] at g1
  exact ⟨B, l, [], g1, hb, rfl, List.Sublist.refl _, List.Perm.refl _, fun _ => ⟨rfl, rfl⟩⟩
 | true =>
  rw [c] at g1
  have hsl : List.Sublist (headsL (readyL l t) f) l := hsub.trans List.filter_sublist
  have hal : r.1.length = B.1.length := by
   by_cases c' : Row B.1.length (headsL (readyL l t) f)
   ·obtain ⟨a', p', x, e⟩ := h3.1 c'
    cases hi : isB a' B.2.1 B.2.2.1 p' with
    | false => rw [hi] at e; subst e; rfl
    | true => rw [hi] at e; subst e; exact x.al
   ·rw [h3.2 c']
  refine ⟨(r.1, r.2.1, r.2.2.1, r.2.2.2.1), dropsL l (headsL (readyL l t) f), headsL (readyL l t) f, g1, hs.2.1, hal, (dropsL_le _ _).2, perm_drops _ _ hd (List.Pairwise.sublist hsl hd) (fun q hq => hsl.subset hq), fun e => ?_⟩
  rw [e] at h1 ⊢
  rw [post_nil (by omega) hb] at h1
  cases h1
  exact ⟨rfl, rfl⟩
theorem settle_Run_is {k : Nat} (hk : 200 ≤ k) {B : BT} (hb : BooksT B) {l : List PayT} (hd : Dist l) (hl : ∀ q ∈ l, May B.1.length q) (h64 : l.length ≤ 64) (t : Int) (all : Bool) :
  ∃ (C : BT) (m done : List PayT), settle_Run k B.1 B.2.1 B.2.2.1 B.2.2.2 l t all = some (C.1, C.2.1, C.2.2.1, C.2.2.2, m, done) ∧ BooksT C ∧ C.1.length = B.1.length ∧ List.Sublist m l ∧ List.Perm (done ++ m) l ∧ nextL k C (mayL m t) = none ∧ pairs k C m t = none := by
 obtain ⟨C, m, d, f1, f2, f3, f4, f5⟩ := settle_some_is hk hb hd (by omega) t
 have p1 := f2.perm hd
 have l1 := p1.length_eq
 rw [List.length_append] at l1
 unfold settle_Run
 rw [f1]
 simp only [Option.bind_some]
 cases all with
 | false => exact ⟨C, m, d, rfl, f3, f4, f5, p1, f2.final⟩
 | true =>
  simp only [Bool.not_true, cond_false]
  have hm : Dist m := List.Pairwise.sublist f5 hd
  obtain ⟨D, n, x, g1, g2, g3, g4, g5, g6⟩ := knot_is hk f3 hm (fun q hq => by rw [f4]; exact hl q (f5.subset hq)) (by omega) t
  have l2 := g5.length_eq
  rw [List.length_append] at l2
  rw [g1]
  simp only [Option.bind_some]
  cases x with
  | nil =>
   obtain ⟨rfl, rfl⟩ := g6 rfl
   exact ⟨D, n, d, rfl, f3, f4, f5, p1, f2.final⟩
  | cons p x =>
   have e1 : decide ((((p :: x).length : Nat) : Int) = 0) = false := decide_eq_false (by simp; omega)
   rw [e1]
   simp only [cond_false]
   have hn : Dist n := List.Pairwise.sublist g4 hm
   obtain ⟨E, o, y, k1, k2, k3, k4, k5⟩ := settle_some_is hk g2 hn (by omega) t
   have p3 := k2.perm hn
   have l3 := p3.length_eq
   rw [List.length_append] at l3
   have r1 : roomB (d.length + (p :: x).length) 56 = true := roomB_true (by simp at l2 ⊢; omega) (by simp at l2 ⊢; omega)
   have r2 : roomB ((d ++ (p :: x)).length + y.length) 56 = true := roomB_true (by simp at l2 ⊢; omega) (by simp at l2 ⊢; omega)
   rw [k1]
   simp only [Option.bind_some, r1, r2, cond_true]
   refine ⟨E, o, d ++ (p :: x) ++ y, rfl, k3, k4.trans (g3.trans f4), k5.trans (g4.trans f5), ?_, k2.final⟩
   have e2 : d ++ (p :: x) ++ y ++ o = d ++ ((p :: x) ++ (y ++ o)) := by simp
   rw [e2]
   exact ((p3.append_left (p :: x)).append_left d).trans ((g5.append_left d).trans p1)
end Go.Ab.Gi
