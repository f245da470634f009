/- part 22 -/
import Derived.Test.YtdhajnjinkknkaaGreatGiPGoes
set_option linter.unusedVariables false
set_option linter.unusedSimpArgs false
namespace Go.Ab.Gi
open Go.Ab
def duo (p q : PayT) : Bool := decide (q.2.1 = p.2.2.1) && (decide (q.2.2.1 = p.2.1) && !decide (p.2.1 ≥ q.2.1))
def nextQ (k : Nat) (B : BT) (p : PayT) : List PayT → Option (PayT × BT)
 | [] => none
 | q :: l => match (bif duo p q then goes k B [p, q] else none) with
  | some C => some (q, C)
  | none => nextQ k B p l
def nextP (k : Nat) (B : BT) (m : List PayT) : List PayT → Option (PayT × PayT × BT)
 | [] => none
 | p :: l => match nextQ k B p m with
  | some (q, C) => some (p, q, C)
  | none => nextP k B m l
theorem nextQ_some {k : Nat} {B C : BT} {p q : PayT} : ∀ {l : List PayT}, nextQ k B p l = some (q, C) → q ∈ l ∧ duo p q = true ∧ goes k B [p, q] = some C
 | [], h => by cases h
 | r :: l, h => by
  unfold nextQ at h
  cases hd : duo p r with
  | false =>
   rw [hd] at h
   have := nextQ_some (l := l) h
   exact ⟨List.mem_cons_of_mem _ this.1, this.2⟩
  | true =>
   rw [hd] at h
   simp only [cond_true] at h
   cases hg : goes k B [p, r] with
   | some D =>
    rw [hg] at h
    cases h
    exact ⟨List.mem_cons_self .., hd, hg⟩
   | none =>
    rw [hg] at h
    have := nextQ_some (l := l) h
    exact ⟨List.mem_cons_of_mem _ this.1, this.2⟩
theorem nextP_some {k : Nat} {B C : BT} {p q : PayT} {m : List PayT} : ∀ {l : List PayT}, nextP k B m l = some (p, q, C) → p ∈ l ∧ q ∈ m ∧ duo p q = true ∧ goes k B [p, q] = some C
 | [], h => by cases h
 | r :: l, h => by
  unfold nextP at h
  cases hq : nextQ k B r m with
  | some x =>
   obtain ⟨y, D⟩ := x
   rw [hq] at h
   cases h
   exact ⟨List.mem_cons_self .., nextQ_some hq⟩
  | none =>
   rw [hq] at h
   have := nextP_some (l := l) h
   exact ⟨List.mem_cons_of_mem _ this.1, this.2⟩
theorem getD_get {α : Type} {l : List α} {i : Nat} (h : i < l.length) (d : α) : l.getD i d = l[i] := by
 rw [List.getD_eq_getElem?_getD, List.getElem?_eq_getElem h]; rfl
theorem nextQ_drop (k : Nat) (B : BT) (p : PayT) {m : List PayT} {i : Nat} (hi : i < m.length) : nextQ k B p (m.drop i) = match (bif duo p (m.getD i pd) then goes k B [p, m.getD i pd] else none) with
  | some C => some (m.getD i pd, C)
  | none => nextQ k B p (m.drop (i + 1)) := by
 rw [List.drop_eq_getElem_cons hi, getD_get hi]
 rfl
theorem nextP_drop (k : Nat) (B : BT) (r : List PayT) {m : List PayT} {i : Nat} (hi : i < m.length) : nextP k B r (m.drop i) = match nextQ k B (m.getD i pd) r with
  | some (q, C) => some (m.getD i pd, q, C)
  | none => nextP k B r (m.drop (i + 1)) := by
 rw [List.drop_eq_getElem_cons hi, getD_get hi]
 rfl
def pairs (k : Nat) (B : BT) (l : List PayT) (t : Int) : Option (PayT × PayT × BT) := nextP k B (mayL l t) (mayL l t)
theorem mem_cut {l : List PayT} {x : Nat} {q : PayT} (hx : x < l.length) (h : q ∈ l) (hne : q ≠ l.getD x pd) : q ∈ cutL l x := by
 unfold cutL
 have e := split_at l x pd hx
 rw [e] at h
 rw [List.mem_append, List.mem_cons] at h
 rw [List.mem_append]
 rcases h with h | h | h
 ·exact .inl h
 ·exact absurd h hne
 ·exact .inr h
theorem Dist.eq_of {l : List PayT} (h : Dist l) {p q : PayT} (hp : p ∈ l) (hq : q ∈ l) (e : p.1 = q.1) : p = q := by
 obtain ⟨i, hi, ei⟩ := List.getElem_of_mem hp
 obtain ⟨j, hj, ej⟩ := List.getElem_of_mem hq
 have hl := List.pairwise_iff_getElem.1 h
 by_cases c : i < j
 ·exact absurd (by rw [ei, ej]; exact e) (hl i j hi hj c)
 ·by_cases c' : j < i
  ·exact absurd (by rw [ei, ej]; exact e.symm) (hl j i hj hi c')
  ·have : i = j := by omega
   subst this
   rw [← ei, ← ej]
theorem mem_dropL {l : List PayT} {p q : PayT} (hp : p ∈ l) (hq : q ∈ l) (hne : q.1 ≠ p.1) : q ∈ dropL l p.1 := by
 obtain ⟨x, hx⟩ := posL_mem hp
 unfold dropL dropR
 rw [hx]
 have := posL_some hx
 exact mem_cut this.1 hq (fun e => hne (by rw [e]; exact this.2))
def drop2 (l : List PayT) (p q : PayT) : List PayT := dropL (dropL l p.1) q.1
theorem pairs_ok {k : Nat} {B C : BT} {l : List PayT} {t : Int} {p q : PayT} (h : pairs k B l t = some (p, q, C)) : p ∈ l ∧ q ∈ l ∧ duo p q = true ∧ goes k B [p, q] = some C := by
 obtain ⟨h1, h2, h3⟩ := nextP_some h
 exact ⟨mayL_mem h1, mayL_mem h2, h3⟩
theorem duo_ne {l : List PayT} (hd : Dist l) {p q : PayT} (hp : p ∈ l) (hq : q ∈ l) (h : duo p q = true) : q.1 ≠ p.1 := by
 intro e
 have := hd.eq_of hq hp e
 subst this
 unfold duo at h
 simp at h
theorem drop2_of {l : List PayT} (hd : Dist l) {p q : PayT} (hp : p ∈ l) (hq : q ∈ l) (h : duo p q = true) : (drop2 l p q).length + 2 = l.length ∧ List.Sublist (drop2 l p q) l := by
 obtain ⟨h1, h2⟩ := dropL_of hp
 obtain ⟨h3, h4⟩ := dropL_of (mem_dropL hp hq (duo_ne hd hp hq h))
 unfold drop2
 exact ⟨by omega, h4.trans h2⟩
inductive Ran2 (k : Nat) (t : Int) : BT → List PayT → List PayT → BT → List PayT → Prop
 | stop {B : BT} {l : List PayT} (h : pairs k B l t = none) : Ran2 k t B l [] B l
 | step {B C D : BT} {l m done : List PayT} {p q : PayT} (h : pairs k B l t = some (p, q, C)) (h' : Ran2 k t C (drop2 l p q) done D m) : Ran2 k t B l (p :: q :: done) D m
theorem Ran2.length {k : Nat} {t : Int} {B C : BT} {l done m : List PayT} (h : Ran2 k t B l done C m) (hd : Dist l) : done.length + m.length = l.length ∧ done.length % 2 = 0 := by
 induction h with
 | stop _ => simp
 | step h _ ih =>
  obtain ⟨hp, hq, hdu, _⟩ := pairs_ok h
  obtain ⟨h1, h2⟩ := drop2_of hd hp hq hdu
  have := ih (List.Pairwise.sublist h2 hd)
  simp only [List.length_cons]
  omega
theorem Ran2.sub {k : Nat} {t : Int} {B C : BT} {l done m : List PayT} (h : Ran2 k t B l done C m) (hd : Dist l) : List.Sublist m l := by
 induction h with
 | stop _ => exact List.Sublist.refl _
 | step h _ ih =>
  obtain ⟨hp, hq, hdu, _⟩ := pairs_ok h
  obtain ⟨h1, h2⟩ := drop2_of hd hp hq hdu
  exact (ih (List.Pairwise.sublist h2 hd)).trans h2
end Go.Ab.Gi
