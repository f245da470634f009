/- part 20 -/
import Derived.Test.YtdhajnjinkknkaaGreatGiPRow
import Derived.Test.YtdhajnjinkknkaaGreatGiPBooks
set_option linter.unusedVariables false
set_option linter.unusedSimpArgs false
namespace Go.Ab.Gi
open Go.Ab
abbrev BT := List Acc × List (List Int) × List Int × List (List Int)
def BooksT (B : BT) : Prop := Books B.1 B.2.1 B.2.2.1 B.2.2.2
theorem giroref16_is {k : Nat} (hk : 100 < k) {B : BT} (h : BooksT B) {l : List PayT} (hl : l.length ≤ 80) :
  ∃ r, post_Post k B.1 B.2.1 B.2.2.1 B.2.2.2 l = some r ∧ giroref16_Post k B.1 B.2.1 B.2.2.1 B.2.2.2 l = some r ∧ PostIs B.1 B.2.1 B.2.2.1 B.2.2.2 l r := by
 obtain ⟨r, h1, h2⟩ := post_Post_eq hk h hl
 obtain ⟨r', h3, h4⟩ := giroref16_Post_eq hk h hl
 have := h2.same h4
 subst this
 exact ⟨r, h1, h3, h2⟩
def fitsT (B : BT) (l : List PayT) : Bool := fitsB B.1 B.2.1 B.2.2.1 B.2.2.2 l
def goes (k : Nat) (B : BT) (l : List PayT) : Option BT := match post_Post k B.1 B.2.1 B.2.2.1 B.2.2.2 l with
 | some r => bif decide (r.2.2.2.2 = 0) && fitsT B l then some (r.1, r.2.1, r.2.2.1, r.2.2.2.1) else none
 | none => none
theorem goes_books {k : Nat} (hk : 100 < k) {B C : BT} (h : BooksT B) {l : List PayT} (hl : l.length ≤ 80) (hg : goes k B l = some C) : BooksT C ∧ C.1.length = B.1.length := by
 obtain ⟨r, h1, h2, h3⟩ := giroref16_is hk h hl
 unfold goes at hg
 rw [h1] at hg
 simp only at hg
 cases hc : decide (r.2.2.2.2 = 0) && fitsT B l with
 | false =>
  rw [hc] at hg
  cases hg
 | true =>
  rw [hc] at hg
  simp only [cond_true, Option.some.injEq] at hg
  subst hg
  refine ⟨(stays h h3).2.1, ?_⟩
  have := stays h h3
  by_cases c : Row B.1.length l
  ·obtain ⟨a', p', x, e⟩ := h3.1 c
   cases hi : isB a' B.2.1 B.2.2.1 p' with
   | false => rw [hi] at e; subst e; rfl
   | true => rw [hi] at e; subst e; exact x.al
  ·rw [h3.2 c]
def nextL (k : Nat) (B : BT) : List PayT → Option (PayT × BT)
 | [] => none
 | p :: l => match goes k B [p] with
  | some C => some (p, C)
  | none => nextL k B l
theorem nextL_some {k : Nat} {B C : BT} {p : PayT} : ∀ {l : List PayT}, nextL k B l = some (p, C) → p ∈ l ∧ goes k B [p] = some C
 | [], h => by cases h
 | q :: l, h => by
  unfold nextL at h
  cases hg : goes k B [q] with
  | some D =>
   rw [hg] at h
   cases h
   exact ⟨List.mem_cons_self .., hg⟩
  | none =>
   rw [hg] at h
   have := nextL_some h
   exact ⟨List.mem_cons_of_mem _ this.1, this.2⟩
theorem nextL_drop (k : Nat) (B : BT) {m : List PayT} {i : Nat} (hi : i < m.length) : nextL k B (m.drop i) = match goes k B [m.getD i pd] with
  | some C => some (m.getD i pd, C)
  | none => nextL k B (m.drop (i + 1)) := by
 rw [List.drop_eq_getElem_cons hi]
 have e : m.getD i pd = m[i] := by rw [List.getD_eq_getElem?_getD, List.getElem?_eq_getElem hi]; rfl
 rw [e]
 rfl
theorem mayL_length (l : List PayT) (t : Int) : (mayL l t).length ≤ l.length := Nat.le_trans (List.length_filter_le _ _) (List.length_filter_le _ _)
def dropL (l : List PayT) (id : Int) : List PayT := (dropR l id).1
theorem dropL_of {l : List PayT} {p : PayT} (h : p ∈ l) : (dropL l p.1).length + 1 = l.length ∧ List.Sublist (dropL l p.1) l := by
 obtain ⟨x, hx⟩ := posL_mem h
 unfold dropL dropR
 rw [hx]
 have := (posL_some hx).1
 refine ⟨?_, cutL_sub l x⟩
 show (cutL l x).length + 1 = l.length
 rw [cutL_length this]
 omega
theorem mayL_mem {l : List PayT} {t : Int} {p : PayT} (h : p ∈ mayL l t) : p ∈ l := (List.mem_filter.1 (List.mem_filter.1 h).1).1
inductive Ran (k : Nat) (t : Int) : BT → List PayT → List PayT → BT → List PayT → Prop
 | stop {B : BT} {l : List PayT} (h : nextL k B (mayL l t) = none) : Ran k t B l [] B l
 | step {B C D : BT} {l m done : List PayT} {p : PayT} (h : nextL k B (mayL l t) = some (p, C)) (h' : Ran k t C (dropL l p.1) done D m) : Ran k t B l (p :: done) D m
end Go.Ab.Gi
