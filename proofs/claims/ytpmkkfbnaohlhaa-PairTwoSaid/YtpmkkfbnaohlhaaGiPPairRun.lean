/- pair.Run is giroref19.Run. -/
import Derived.Test.YtpmkkfbnaohlhaaGiPPair
set_option linter.unusedVariables false
set_option linter.unusedSimpArgs false
namespace Go.Ab.Gi
open Go.Ab

theorem mem_cut {l : List PayT} {x : Nat} {q : PayT} (hx : x < l.length) (h : q ∈ l) (hne : q ≠ l.getD x pd) : q ∈ cutL l x := by
  unfold cutL
  have e := split_at l x pd hx
  rw [e] at h
  rw [List.mem_append, List.mem_cons] at h
  rw [List.mem_append]
  rcases h with h | h | h
  · exact .inl h
  · exact absurd h hne
  · exact .inr h

theorem Dist.eq_of {l : List PayT} (h : Dist l) {p q : PayT} (hp : p ∈ l) (hq : q ∈ l) (e : p.1 = q.1) : p = q := by
  obtain ⟨i, hi, ei⟩ := List.getElem_of_mem hp
  obtain ⟨j, hj, ej⟩ := List.getElem_of_mem hq
  have hl := List.pairwise_iff_getElem.1 h
  by_cases c : i < j
  · exact absurd (by rw [ei, ej]; exact e) (hl i j hi hj c)
  · by_cases c' : j < i
    · exact absurd (by rw [ei, ej]; exact e.symm) (hl j i hj hi c')
    · have : i = j := by omega
      subst this
      rw [← ei, ← ej]

theorem mem_dropL {l : List PayT} {p q : PayT} (hp : p ∈ l) (hq : q ∈ l) (hne : q.1 ≠ p.1) : q ∈ dropL l p.1 := by
  obtain ⟨x, hx⟩ := posL_mem hp
  unfold dropL dropR
  rw [hx]
  have := posL_some hx
  exact mem_cut this.1 hq (fun e => hne (by rw [e]; exact this.2))

theorem not_dropL {l : List PayT} (hd : Dist l) {p : PayT} (hp : p ∈ l) : ∀ q ∈ dropL l p.1, q.1 ≠ p.1 := by
  obtain ⟨x, hx⟩ := posL_mem hp
  unfold dropL dropR
  rw [hx]
  have hx' := posL_some hx
  intro q hq e
  have hq' : q ∈ l.take x ++ l.drop (x + 1) := hq
  rw [List.mem_append] at hq'
  have hs := split_at l x pd hx'.1
  have hd' : Dist (l.take x ++ l.getD x pd :: l.drop (x + 1)) := by rw [← hs]; exact hd
  have h2 := List.pairwise_append.1 hd'
  have h3 := List.pairwise_cons.1 h2.2.1
  rcases hq' with hq' | hq'
  · exact h2.2.2 q hq' _ (List.mem_cons_self ..) (by rw [e]; exact hx'.2.symm)
  · exact h3.1 q hq' (by rw [e]; exact hx'.2)

def drop2 (l : List PayT) (p q : PayT) : List PayT := dropL (dropL l p.1) q.1

theorem pairs_ok {k : Nat} {B C : BT} {l : List PayT} {t : Int} {p q : PayT} (h : pairs k B l t = some (p, q, C)) : p ∈ l ∧ q ∈ l ∧ duo p q = true ∧ goes k B [p, q] = some C := by
  obtain ⟨h1, h2, h3⟩ := nextP_some h
  exact ⟨mayL_mem h1, mayL_mem h2, h3⟩

theorem duo_ne {l : List PayT} (hd : Dist l) {p q : PayT} (hp : p ∈ l) (hq : q ∈ l) (h : duo p q = true) : q.1 ≠ p.1 := by
  intro e
  have := hd.eq_of hq hp e
  subst this
  unfold duo at h
  simp at h

theorem drop2_of {l : List PayT} (hd : Dist l) {p q : PayT} (hp : p ∈ l) (hq : q ∈ l) (h : duo p q = true) : (drop2 l p q).length + 2 = l.length ∧ List.Sublist (drop2 l p q) l := by
  obtain ⟨h1, h2⟩ := dropL_of hp
  obtain ⟨h3, h4⟩ := dropL_of (mem_dropL hp hq (duo_ne hd hp hq h))
  unfold drop2
  exact ⟨by omega, h4.trans h2⟩

/-- What goes two by two. -/
inductive Ran2 (k : Nat) (t : Int) : BT → List PayT → List PayT → BT → List PayT → Prop
  | stop {B : BT} {l : List PayT} (h : pairs k B l t = none) : Ran2 k t B l [] B l
  | step {B C D : BT} {l m done : List PayT} {p q : PayT} (h : pairs k B l t = some (p, q, C)) (h' : Ran2 k t C (drop2 l p q) done D m) : Ran2 k t B l (p :: q :: done) D m

theorem two_loop {k : Nat} (hk : 3 ≤ k) (t : Int) (l : List PayT) (hl : l.length ≤ 1000) (hlk : l.length < k) (C : BT) (r : List PayT) (hr : r.length ≤ 900) (p q : PayT) :
    pair_Run_L1 k k t l 2 0 C.1 C.2.1 C.2.2.1 C.2.2.2 r [p, q] = some (t, drop2 l p q, C.1, C.2.1, C.2.2.1, C.2.2.2, r ++ [p, q]) := by
  obtain ⟨n, rfl⟩ : ∃ n, k = n + 3 := ⟨k - 3, by omega⟩
  have h1 := row_Drop_eq hlk (show Small l from hl) p.1
  have hl1 : (dropL l p.1).length ≤ l.length := by
    unfold dropL dropR
    cases hp : posL l p.1 with
    | none => exact Nat.le_refl _
    | some x => exact List.Sublist.length_le (cutL_sub l x)
  have h2 := row_Drop_eq (k := n + 3) (l := dropL l p.1) (by omega) (show (dropL l p.1).length ≤ 1000 by omega) q.1
  have e1 : roomB (r.length + 1) 56 = true := room56 (by omega)
  have e2 : roomB ((r ++ [p]).length + 1) 56 = true := room56 (by rw [List.length_append]; simp; omega)
  show pair_Run_L1b (n + 3) (pair_Run_L1 (n + 3) (n + 2)) t l 2 0 C.1 C.2.1 C.2.2.1 C.2.2.2 r [p, q] = _
  unfold pair_Run_L1b
  have g0 : [p, q].getD (Int.toNat 0) (0, (0, (0, (0, (0, (0, 0)))))) = p := rfl
  have b0 : boundOk 0 [p, q].length = true := rfl
  have d0 : decide ((0 : Int) < 2) = true := rfl
  have w0 : w64 (0 + 1) = 1 := by decide
  rw [d0, b0, g0, h1]
  simp only [cond_true, Option.bind_some, e1, w0]
  show pair_Run_L1b (n + 3) (pair_Run_L1 (n + 3) (n + 1)) t (dropL l p.1) 2 1 C.1 C.2.1 C.2.2.1 C.2.2.2 (r ++ [p]) [p, q] = _
  unfold pair_Run_L1b
  have g1 : [p, q].getD (Int.toNat 1) (0, (0, (0, (0, (0, (0, 0)))))) = q := rfl
  have b1 : boundOk 1 [p, q].length = true := rfl
  have d1 : decide ((1 : Int) < 2) = true := rfl
  have w1 : w64 (1 + 1) = 2 := by decide
  rw [d1, b1, g1, h2]
  simp only [cond_true, Option.bind_some, e2, w1]
  show pair_Run_L1b (n + 3) (pair_Run_L1 (n + 3) n) t (drop2 l p q) 2 2 C.1 C.2.1 C.2.2.1 C.2.2.2 (r ++ [p] ++ [q]) [p, q] = _
  unfold pair_Run_L1b
  have d2 : decide ((2 : Int) < 2) = false := rfl
  rw [d2, List.append_assoc]
  rfl

theorem run2_lock {k : Nat} (hk : 100 < k) (t : Int) : ∀ (n : Nat) (B : BT) (l r : List PayT), BooksT B → Dist l → l.length ≤ 100 → l.length < n → r.length + l.length ≤ 900 →
    ∃ (C : BT) (m done : List PayT), pair_Run_L0 k n t l B.1 B.2.1 B.2.2.1 B.2.2.2 r = some (m, C.1, C.2.1, C.2.2.1, C.2.2.2, r ++ done) ∧ giroref19_Run_L0 k n l t B.1 B.2.1 B.2.2.1 B.2.2.2 r = some (m, C.1, C.2.1, C.2.2.1, C.2.2.2, r ++ done) ∧ Ran2 k t B l done C m ∧ BooksT C ∧ C.1.length = B.1.length ∧ List.Sublist m l
  | 0, _, _, _, _, _, _, h, _ => absurd h (Nat.not_lt_zero _)
  | n + 1, B, l, r, hb, hd, hl, hn, hr => by
    have h1 := pair_next_eq hk hb (l := l) (by omega) (by show l.length ≤ 1000; omega) hd t
    have h2 := giroref19_Next_eq hk hb (l := l) (by omega) (by show l.length ≤ 1000; omega) t
    cases hx : pairs k B l t with
    | none =>
      rw [hx] at h1 h2
      refine ⟨B, l, [], ?_, ?_, .stop hx, hb, rfl, List.Sublist.refl _⟩
      · show pair_Run_L0b k _ t l B.1 B.2.1 B.2.2.1 B.2.2.2 r = _
        unfold pair_Run_L0b
        rw [h1]
        simp only [Option.bind_some, nextS, Bool.not_false, cond_true, List.append_nil]
      · show giroref19_Run_L0b k _ l t B.1 B.2.1 B.2.2.1 B.2.2.2 r = _
        unfold giroref19_Run_L0b
        rw [h2]
        simp only [Option.bind_some, nextS', Bool.not_false, cond_true, List.append_nil]
    | some x =>
      obtain ⟨p, q, C⟩ := x
      rw [hx] at h1 h2
      obtain ⟨hp, hq, hdu, hg⟩ := pairs_ok hx
      obtain ⟨hl1, hl2⟩ := drop2_of hd hp hq hdu
      obtain ⟨hc1, hc2⟩ := goes_books hk hb (by simp) hg
      have hdl : (dropL l p.1).length ≤ l.length := (dropL_of hp).2.length_le
      obtain ⟨D, m, done, g1, g2, g3, g4, g5, g6⟩ := run2_lock hk t n C (drop2 l p q) (r ++ [p, q]) hc1 (List.Pairwise.sublist hl2 hd) (by omega) (by omega) (by rw [List.length_append]; simp; omega)
      have e2 : r ++ [p, q] ++ done = r ++ p :: q :: done := by rw [List.append_assoc]; rfl
      refine ⟨D, m, p :: q :: done, ?_, ?_, .step hx g3, g4, g5.trans hc2, g6.trans hl2⟩
      · show pair_Run_L0b k _ t l B.1 B.2.1 B.2.2.1 B.2.2.2 r = _
        unfold pair_Run_L0b
        rw [h1]
        have hL := two_loop (k := k) (by omega) t l (by omega) (by omega) C r (by omega) p q
        simp only [Option.bind_some, nextS, Bool.not_true, cond_false]
        have hL' : pair_Run_L1 k k t l 2 0 C.1 C.2.1 C.2.2.1 C.2.2.2 r [(p.1, p.2.1, p.2.2.1, p.2.2.2.1, p.2.2.2.2.1, p.2.2.2.2.2.1, p.2.2.2.2.2.2), (q.1, q.2.1, q.2.2.1, q.2.2.2.1, q.2.2.2.2.1, q.2.2.2.2.2.1, q.2.2.2.2.2.2)] = _ := hL
        rw [hL']
        simp only [Option.bind_some]
        rw [g1, e2]
      · show giroref19_Run_L0b k _ l t B.1 B.2.1 B.2.2.1 B.2.2.2 r = _
        unfold giroref19_Run_L0b
        rw [h2]
        obtain ⟨C', e1, e2'⟩ := giroref18_Goes_eq hk hb (l := [p, q]) (by simp)
        have := e2' C hg
        subst this
        have e1' : giroref18_Goes k B.1 B.2.1 B.2.2.1 B.2.2.2 [(p.1, p.2.1, p.2.2.1, p.2.2.2.1, p.2.2.2.2.1, p.2.2.2.2.2.1, p.2.2.2.2.2.2), (q.1, q.2.1, q.2.2.1, q.2.2.2.1, q.2.2.2.2.1, q.2.2.2.2.2.1, q.2.2.2.2.2.2)] = _ := e1
        have d1 := giroref13_Drop_eq (show l.length < k by omega) (show Small l by show l.length ≤ 1000; omega) p.1
        have d2 := giroref13_Drop_eq (k := k) (l := (dropR l p.1).1) (Nat.lt_of_le_of_lt hdl (by omega)) (Nat.le_trans hdl (by omega)) q.1
        have e3 : roomB (r.length + 2) 56 = true := roomB_true (by omega) (by omega)
        simp only [Option.bind_some, nextS', Bool.not_true, cond_false, e1', d1, d2, e3, cond_true]
        rw [← e2, ← g2]
        rfl

/-- What both runs come to. -/
theorem run2_both {k : Nat} (hk : 200 ≤ k) {B : BT} (hb : BooksT B) {l : List PayT} (hd : Dist l) (hl : l.length ≤ 100) (t : Int) :
    ∃ (C : BT) (m done : List PayT), pair_Run k B.1 B.2.1 B.2.2.1 B.2.2.2 l t = some (C.1, C.2.1, C.2.2.1, C.2.2.2, m, done) ∧ giroref19_Run k B.1 B.2.1 B.2.2.1 B.2.2.2 l t = some (C.1, C.2.1, C.2.2.1, C.2.2.2, m, done) ∧ Ran2 k t B l done C m ∧ BooksT C ∧ C.1.length = B.1.length ∧ List.Sublist m l := by
  obtain ⟨C, m, done, h1, h2, h3⟩ := run2_lock (show 100 < k by omega) t k B l [] hb hd hl (by omega) (by simp; omega)
  refine ⟨C, m, done, ?_, ?_, h3⟩
  · unfold pair_Run
    rw [h1]
    rfl
  · unfold giroref19_Run
    rw [h2]
    rfl

theorem Ran2.length {k : Nat} {t : Int} {B C : BT} {l done m : List PayT} (h : Ran2 k t B l done C m) (hd : Dist l) : done.length + m.length = l.length ∧ done.length % 2 = 0 := by
  induction h with
  | stop _ => simp
  | step h _ ih =>
    obtain ⟨hp, hq, hdu, _⟩ := pairs_ok h
    obtain ⟨h1, h2⟩ := drop2_of hd hp hq hdu
    have := ih (List.Pairwise.sublist h2 hd)
    simp only [List.length_cons]
    omega

theorem Ran2.sub {k : Nat} {t : Int} {B C : BT} {l done m : List PayT} (h : Ran2 k t B l done C m) (hd : Dist l) : List.Sublist m l := by
  induction h with
  | stop _ => exact List.Sublist.refl _
  | step h _ ih =>
    obtain ⟨hp, hq, hdu, _⟩ := pairs_ok h
    obtain ⟨h1, h2⟩ := drop2_of hd hp hq hdu
    exact (ih (List.Pairwise.sublist h2 hd)).trans h2
end Go.Ab.Gi
