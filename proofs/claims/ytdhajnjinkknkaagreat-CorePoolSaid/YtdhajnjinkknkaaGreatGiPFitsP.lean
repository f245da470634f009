/- part 13 -/
import Derived.Test.YtdhajnjinkknkaaGreatGiPFits
import Derived.Test.YtdhajnjinkknkaaGreatGiPRows
set_option linter.unusedVariables false
set_option linter.unusedSimpArgs false
namespace Go.Ab.Gi
open Go.Ab
def shortL (a : List Acc) (b : List (List Int)) (m : List Int) (p : List (List Int)) (l : List PayT) : List Int := ((List.range a.length).filter fun i => shortB a b m p l i).map fun (i : Nat) => (i : Int)
structure Moved (n : Nat) (l : List PayT) (r2 r3 : List Int) (m4 : List (List Int)) : Prop where
 l2 : r2.length = n
 l3 : r3.length = n
 l4 : m4.length = n
 r4 : ∀ i, i < n → (m4.getD i []).length = n
 more : ∀ i, i < n → r2.getD i 0 = sumL (gB i) l
 spent : ∀ i, i < n → r3.getD i 0 = sumL (gR i) l
 sent : ∀ i, i < n → ∀ j, j < n → cell m4 i j = dS l i j
def stepM (p : PayT) (r : List Int) : List Int :=
 let y0 := r.set p.2.1.toNat (w64 (r.getD p.2.1.toNat 0 - p.2.2.2.1))
 y0.set p.2.2.1.toNat (w64 (y0.getD p.2.2.1.toNat 0 + p.2.2.2.1))
def stepS (p : PayT) (r : List Int) : List Int := bif !decide (p.2.2.2.2.1 = 3) then r.set p.2.1.toNat (w64 (r.getD p.2.1.toNat 0 + p.2.2.2.1)) else r
theorem stepM_get {n : Nat} {p : PayT} (h : May n p) {r : List Int} (hr : r.length = n) {i : Nat} (hi : i < n) (hb : ∀ i, i < n → -4611826755915743232 < r.getD i 0 ∧ r.getD i 0 < 4611826755915743232) : (stepM p r).getD i 0 = r.getD i 0 + gB i p := by
 obtain ⟨f0, f1, t0, t1, ne, a1, a2, c1, c3⟩ := h
 obtain ⟨f, hf⟩ : ∃ f : Nat, p.2.1 = f := ⟨p.2.1.toNat, by omega⟩
 obtain ⟨t, ht⟩ : ∃ t : Nat, p.2.2.1 = t := ⟨p.2.2.1.toNat, by omega⟩
 have hft : f ≠ t := by omega
 have hfn : f < n := by omega
 have htn : t < n := by omega
 unfold stepM gB
 simp only [hf, ht, Int.toNat_natCast]
 have b1 := hb f hfn
 have b2 := hb t htn
 have key : ∀ x, (r.set f (w64 (r.getD f 0 - p.2.2.2.1))).getD x 0 = if f = x then w64 (r.getD f 0 - p.2.2.2.1) else r.getD x 0 := fun x => by
  rw [getD_set]
  by_cases e : f = x
  ·rw [if_pos ⟨e, by omega⟩, if_pos e]
  ·rw [if_neg (fun h => e h.1), if_neg e]
 rw [getD_set, List.length_set, key t, if_neg hft, key i]
 by_cases h1 : t = i
 ·subst h1
  rw [if_pos ⟨rfl, by omega⟩, if_pos rfl, if_neg (by omega), w64_id (by omega) (by omega)]
  omega
 ·rw [if_neg (fun e => h1 e.1), if_neg (c := ((t : Int) = i)) (by omega)]
  by_cases h2 : f = i
  ·subst h2
   rw [if_pos rfl, if_pos rfl, w64_id (by omega) (by omega)]
   omega
  ·rw [if_neg h2, if_neg (by omega)]
   omega
theorem stepS_get {n : Nat} {p : PayT} (h : May n p) {r : List Int} (hr : r.length = n) {i : Nat} (hi : i < n) (hb : ∀ i, i < n → -4611826755915743232 < r.getD i 0 ∧ r.getD i 0 < 4611826755915743232) : (stepS p r).getD i 0 = r.getD i 0 + gR i p := by
 obtain ⟨f0, f1, t0, t1, ne, a1, a2, c1, c3⟩ := h
 obtain ⟨f, hf⟩ : ∃ f : Nat, p.2.1 = f := ⟨p.2.1.toNat, by omega⟩
 have hfn : f < n := by omega
 have b1 := hb f hfn
 unfold stepS gR
 simp only [hf, Int.toNat_natCast]
 by_cases hc : p.2.2.2.2.1 = 3
 ·rw [decide_eq_true hc, if_neg (fun e => e.2 hc)]
  simp
 ·rw [decide_eq_false hc]
  simp only [Bool.not_false, cond_true]
  rw [getD_set]
  by_cases h2 : f = i
  ·subst h2
   rw [if_pos ⟨rfl, by omega⟩, if_pos ⟨rfl, hc⟩, w64_id (by omega) (by omega)]
  ·rw [if_neg (fun e => h2 e.1), if_neg (fun e => h2 (by omega))]
   omega
theorem dS_snoc (l : List PayT) (p : PayT) (i j : Nat) : dS (l ++ [p]) i j = dS l i j + gS i j p - gS j i p := by
 unfold dS
 rw [sumL_append, sumL_append]
 dsimp only [sumL]
 omega
theorem getD_replicate {α : Type} (n i : Nat) (v d : α) (h : i < n) : (List.replicate n v).getD i d = v := by
 simp [List.getD, h]
theorem fits_moved_eq {k n : Nat} {l : List PayT} (hk : 100 < k) (hn : n ≤ 6) (hl : Row n l) : ∃ r2 r3 m4, fits_moved k n l = some (r2, r3, m4) ∧ Moved n l r2 r3 m4 := by
 have hl64 := hl.2
 have := carryE0 (L := fun c i (s : List Int × List Int × List (List Int)) => fits_moved_L0 k c l l.length i s.1 s.2.1 s.2.2) (N := l.length) (fun s => s) (fun i s => Moved n (l.take i) s.1 s.2.1 s.2.2) (fun c s hs => by
   show fits_moved_L0b k _ l l.length l.length s.1 s.2.1 s.2.2 = _
   unfold fits_moved_L0b
   simp only [dec_lt, decide_eq_false (Nat.lt_irrefl _), cond_false]) (fun c i s hi hs => by
   have hmay : May n (l.getD i pd) := hl.1 _ (getD_mem hi)
   refine ⟨(stepM (l.getD i pd) s.1, stepS (l.getD i pd) s.2.1, stepP (l.getD i pd) s.2.2), ?_, ?_⟩
   ·show fits_moved_L0b k _ l l.length i s.1 s.2.1 s.2.2 = _
    unfold fits_moved_L0b stepM stepS stepP
    simp only [boundOk_nat, w64_succ hi (show l.length < 9223372036854775808 by omega), dec_lt, Int.toNat_natCast, decide_eq_true hi, cond_true]
    obtain ⟨f0, f1, t0, t1, ne, a1, a2, c1, c3⟩ := hmay
    obtain ⟨f, hf⟩ : ∃ f : Nat, (l.getD i pd).2.1 = f := ⟨(l.getD i pd).2.1.toNat, by omega⟩
    obtain ⟨t, ht⟩ : ∃ t : Nat, (l.getD i pd).2.2.1 = t := ⟨(l.getD i pd).2.2.1.toNat, by omega⟩
    have hfn : f < n := by omega
    have htn : t < n := by omega
    have r1 := row_set (x := w64 ((s.2.2.getD f []).getD t 0 + (l.getD i pd).2.2.2.1)) (t := t) hs.l4 hs.r4 hfn
    simp only [hf, ht, Int.toNat_natCast, boundOk_nat, hs.l2, hs.l3, hs.l4, List.length_set, hs.r4 f hfn, r1 t htn, decide_eq_true hfn, decide_eq_true htn, cond_true]
    cases decide ((l.getD i pd).2.2.2.2.1 = 3) <;> rfl
   ·have hrow := hl.take i
    have hp := stepP_get hmay hs.l4 hs.r4 (fun i' hi' j' hj' => by
     rw [hs.sent i' hi' j' hj']
     have := dS_le hrow i' j'
     omega)
    have hbM : ∀ i', i' < n → -4611826755915743232 < s.1.getD i' 0 ∧ s.1.getD i' 0 < 4611826755915743232 := fun i' hi' => by
     rw [hs.more i' hi']; have := sum_gB hrow i'; omega
    have hbS : ∀ i', i' < n → -4611826755915743232 < s.2.1.getD i' 0 ∧ s.2.1.getD i' 0 < 4611826755915743232 := fun i' hi' => by
     rw [hs.spent i' hi']; have := sum_gR hrow i'; omega
    refine ⟨by unfold stepM; simp [hs.l2], by unfold stepS; cases decide ((l.getD i pd).2.2.2.2.1 = 3) <;> simp [hs.l3], hp.1, hp.2.1, fun i' hi' => ?_, fun i' hi' => ?_, fun i' hi' j' hj' => ?_⟩
    ·rw [stepM_get hmay hs.l2 hi' hbM, hs.more i' hi', ← take_snoc l i pd hi, sumL_append]
     dsimp only [sumL]
     omega
    ·rw [stepS_get hmay hs.l3 hi' hbS, hs.spent i' hi', ← take_snoc l i pd hi, sumL_append]
     dsimp only [sumL]
     omega
    ·rw [hp.2.2 i' hi' j' hj', hs.sent i' hi' j' hj', ← take_snoc l i pd hi, dS_snoc]) (n := k) (s := (List.replicate n 0, List.replicate n 0, List.replicate n (List.replicate n 0))) (by omega) ⟨by simp, by simp, by simp, fun i hi => by rw [getD_replicate n i _ _ hi]; simp, fun i hi => by rw [getD_replicate n i _ _ hi]; rfl, fun i hi => by rw [getD_replicate n i _ _ hi]; rfl, fun i hi j hj => by
    unfold cell
    rw [getD_replicate n i _ _ hi, getD_replicate n j _ _ hj]
    rfl⟩
 obtain ⟨s, h1, h2⟩ := this
 rw [List.take_of_length_le (Nat.le_refl _)] at h2
 refine ⟨s.1, s.2.1, s.2.2, ?_, h2⟩
 unfold fits_moved
 rw [lim_Row_eq (by omega) hn, lim_Square_eq (by omega) hn]
 simp only [Option.bind_some]
 have h1' : fits_moved_L0 k k l l.length 0 (List.replicate n 0) (List.replicate n 0) (List.replicate n (List.replicate n 0)) = some s := h1
 rw [h1']
 rfl
theorem contains_from {k : Nat} {l : List PayT} (hk : l.length < k) (hl : l.length < 9223372036854775808) (i : Int) : slices_ContainsFunc_Pay__fits_Short_fn1 k l i = some (!allF (fun x => !decide ((l.getD x pd).2.1 = i)) l.length 0) := by
 obtain ⟨x, h1, h2⟩ := scan_any (L := fun c x => slices_IndexFunc_Pay__fits_Short_fn1_L0 k c l l.length x i) (N := l.length) (fun x => decide ((l.getD x pd).2.1 = i)) (fun c => by
   show slices_IndexFunc_Pay__fits_Short_fn1_L0b k _ l l.length l.length i = _
   unfold slices_IndexFunc_Pay__fits_Short_fn1_L0b
   simp only [dec_lt, decide_eq_false (Nat.lt_irrefl _), cond_false]) (fun c x hx => by
   show slices_IndexFunc_Pay__fits_Short_fn1_L0b k _ l l.length x i = _
   unfold slices_IndexFunc_Pay__fits_Short_fn1_L0b fits_Short_fn1
   simp only [boundOk_nat, w64_succ hx hl, dec_lt, Int.toNat_natCast, decide_eq_true hx, cond_true, Option.bind_some]) hk
 unfold slices_ContainsFunc_Pay__fits_Short_fn1 slices_IndexFunc_Pay__fits_Short_fn1
 rw [h1]
 rw [← h2]
 cases x <;> rfl
theorem from_none {n : Nat} {l : List PayT} (hl : ∀ p ∈ l, May n p) (i : Nat) : allF (fun x => !decide ((l.getD x pd).2.1 = i)) l.length 0 = decide (sumL (gN i) l + sumL (gR i) l = 0) := by
 have hN := sumL_nonneg (g := gN i) (l := l) fun p hp => (gN_le (hl p hp) i).1
 have hR := sumL_nonneg (g := gR i) (l := l) fun p hp => (gR_le (hl p hp) i).1
 have e : sumL (gN i) l + sumL (gR i) l = sumL (fun p : PayT => if p.2.1 = (i : Int) then p.2.2.2.1 else 0) l := by
  rw [← sumL_add]
  refine sumL_congr fun p hp => ?_
  unfold gN gR
  by_cases h1 : p.2.1 = i <;> by_cases h2 : p.2.2.2.2.1 = 3 <;> simp [h1, h2]
 rw [e]
 have h : ∀ (l : List PayT), (∀ p ∈ l, May n p) → ((∀ p ∈ l, ¬ p.2.1 = i) ↔ sumL (fun p : PayT => if p.2.1 = (i : Int) then p.2.2.2.1 else 0) l = 0) := by
  intro l
  induction l with
  | nil => intro _; simp [sumL]
  | cons q l ih =>
   intro hm
   have ih := ih fun p hp => hm p (List.mem_cons_of_mem _ hp)
   have hq := hm q (List.mem_cons_self ..)
   have h0 : 0 ≤ sumL (fun p : PayT => if p.2.1 = i then p.2.2.2.1 else 0) l := sumL_nonneg fun p hp => by
    have := (hm p (List.mem_cons_of_mem _ hp)).a1
    by_cases c : p.2.1 = i
    ·rw [if_pos c]; omega
    ·rw [if_neg c]; exact Int.le_refl 0
   unfold sumL
   by_cases c : q.2.1 = i
   ·rw [if_pos c]
    have := hq.a1
    exact ⟨fun h => absurd c (h q (List.mem_cons_self ..)), fun h => by omega⟩
   ·rw [if_neg c, Int.zero_add, ← ih]
    exact ⟨fun h p hp => h p (List.mem_cons_of_mem _ hp), fun h p hp => by
     rcases List.mem_cons.1 hp with rfl | hp
     ·exact c
     ·exact h p hp⟩
 have hall : (∀ p ∈ l, ¬ p.2.1 = i) ↔ allF (fun x => !decide ((l.getD x pd).2.1 = i)) l.length 0 = true := by
  rw [allF_zero]
  constructor
  ·intro h j hj
   simpa using h _ (getD_mem hj)
  ·intro h p hp
   obtain ⟨j, hj, rfl⟩ := List.getElem_of_mem hp
   have := h j hj
   simpa [List.getD, hj] using this
 have := hall.symm.trans (h l hl)
 cases hc : allF (fun x => !decide ((l.getD x pd).2.1 = i)) l.length 0 with
 | true => rw [decide_eq_true (this.1 hc)]
 | false =>
  rw [decide_eq_false]
  intro h'
  rw [this.2 h'] at hc; cases hc
def overB (n lim : Int) : Bool := !decide (lim = -1) && decide (n > lim)
theorem fits_over_eq (k : Nat) (n lim : Int) : fits_over k n lim = some (overB n lim) := by
 unfold fits_over overB
 cases decide (lim = -1) <;> rfl
theorem acct_Kept_eq (k : Nat) (b c r s : Int) (h : -9223372036854775808 ≤ r - s) (h' : r < 9223372036854775808) (hs : 0 ≤ s) : acct_Kept k b c r s = some (keptZ r s) := by
 unfold acct_Kept keptZ maxI
 rw [w64_id h (by omega), cond_false]
 by_cases c : s ≥ r
 ·rw [if_pos c]
  by_cases e : r - s = 0
  ·rw [e]; rfl
  ·rw [decide_eq_true (show (0 : Int) > r - s by omega)]; rfl
 ·rw [if_neg c, decide_eq_false (show ¬ (0 : Int) > r - s by omega)]; rfl
def badB (b p : List (List Int)) (l : List PayT) (i : Nat) (short : Bool) (q : PayT) : Bool :=
 decide (q.2.1 = i) && ((decide (q.2.2.2.2.1 = 3) && short) || overB (cell p i q.2.2.1.toNat + dS l i q.2.2.1.toNat) (cell b i q.2.2.1.toNat))
theorem contains_short {k : Nat} {a : List Acc} {b : List (List Int)} {m : List Int} {p : List (List Int)} {l : List PayT} (hk : 100 < k) (hb : Books a b m p) (hl : Row a.length l) {r2 r3 : List Int} {m4 : List (List Int)} (hm : Moved a.length l r2 r3 m4) {i : Nat} (hi : i < a.length) (bal cr res n0 : Int) (hres : 0 ≤ res ∧ res ≤ 2305843009213693952) :
  slices_ContainsFunc_Pay__fits_move_isShort_fn1 k l i bal cr res r2 r3 m4 n0 a b m p = some (!allF (fun x => !badB b p l i (decide (n0 < keptZ res (sumL (gR i) l))) (l.getD x pd)) l.length 0) := by
 have h6 := hb.n6
 have hl64 := hl.2
 have hR := sum_gR hl i
 obtain ⟨x, h1, h2⟩ := scan_any (L := fun c x => slices_IndexFunc_Pay__fits_move_isShort_fn1_L0 k c l l.length x i bal cr res r2 r3 m4 n0 a b m p) (N := l.length) (fun x => badB b p l i (decide (n0 < keptZ res (sumL (gR i) l))) (l.getD x pd)) (fun c => by
   show slices_IndexFunc_Pay__fits_move_isShort_fn1_L0b k _ l l.length l.length i bal cr res r2 r3 m4 n0 a b m p = _
   unfold slices_IndexFunc_Pay__fits_move_isShort_fn1_L0b
   simp only [dec_lt, decide_eq_false (Nat.lt_irrefl _), cond_false]) (fun c x hx => by
   show slices_IndexFunc_Pay__fits_move_isShort_fn1_L0b k _ l l.length x i bal cr res r2 r3 m4 n0 a b m p = _
   have hmay : May a.length (l.getD x pd) := hl.1 _ (getD_mem hx)
   unfold slices_IndexFunc_Pay__fits_move_isShort_fn1_L0b
   simp only [boundOk_nat, w64_succ hx (show l.length < 9223372036854775808 by omega), dec_lt, Int.toNat_natCast, decide_eq_true hx, cond_true]
   generalize l.getD x (0, (0, (0, (0, (0, (0, 0)))))) = q at hmay ⊢
   obtain ⟨id, f, t, am, cl, st, ti⟩ := q
   obtain ⟨f0, f1, t0, t1, ne, a1, a2, c1, c3⟩ := hmay
   dsimp only at f0 f1 t0 t1 ne a1 a2 c1 c3 ⊢
   obtain ⟨t, rfl⟩ : ∃ y : Nat, t = y := ⟨t.toNat, by omega⟩
   have htn : t < a.length := by omega
   unfold fits_move_isShort_fn1 badB
   dsimp only
   cases hf : decide (f = (i : Int)) with
   | false => simp
   | true =>
    have e1 : (r3.getD i 0) = sumL (gR i) l := hm.spent i hi
    have e2 : (m4.getD i []).getD t 0 = dS l i t := hm.sent i hi t htn
    have hnet := hb.nums.net i hi t htn
    have hd := dS_le hl i t
    have e3 : w64 ((p.getD i []).getD t 0 + dS l i t) = cell p i t + dS l i t := w64_id (by show _ ≤ cell p i t + dS l i t; omega) (by show cell p i t + dS l i t < _; omega)
    simp only [Bool.not_true, cond_false, boundOk_nat, hm.l3, hm.l4, hm.r4 i hi, hb.pl, hb.pr i hi, hb.bl, hb.br i hi, decide_eq_true hi, decide_eq_true htn, cond_true, Int.toNat_natCast, e1, e2, e3, acct_Kept_eq k bal cr res (sumL (gR i) l) (by omega) (by omega) hR.1, Option.bind_some, fits_over_eq, Bool.true_and]
    show _ = bif (decide (cl = 3) && decide (n0 < keptZ res (sumL (gR i) l))) || overB (cell p i t + dS l i t) (cell b i t) then _ else _
    cases decide (cl = 3) <;> cases decide (n0 < keptZ res (sumL (gR i) l)) <;> rfl) (n := k) (by omega)
 unfold slices_ContainsFunc_Pay__fits_move_isShort_fn1 slices_IndexFunc_Pay__fits_move_isShort_fn1
 rw [h1, ← h2]
 cases x <;> rfl
theorem sumL_pos {α : Type} {g : α → Int} : ∀ {l : List α}, (∀ p ∈ l, 0 ≤ g p) → (0 < sumL g l ↔ ∃ p ∈ l, 0 < g p)
 | [], _ => by simp [sumL]
 | q :: l, h => by
  have ih := sumL_pos (g := g) (l := l) fun p hp => h p (List.mem_cons_of_mem _ hp)
  have h0 := sumL_nonneg (g := g) (l := l) fun p hp => h p (List.mem_cons_of_mem _ hp)
  have hq := h q (List.mem_cons_self ..)
  unfold sumL
  constructor
  ·intro hs
   by_cases c : 0 < g q
   ·exact ⟨q, List.mem_cons_self .., c⟩
   ·obtain ⟨p, hp, hg⟩ := ih.1 (by omega)
    exact ⟨p, List.mem_cons_of_mem _ hp, hg⟩
  ·rintro ⟨p, hp, hg⟩
   rcases List.mem_cons.1 hp with rfl | hp
   ·omega
   ·have := ih.2 ⟨p, hp, hg⟩; omega
theorem any_all {N : Nat} {p : Nat → Bool} : allF p N 0 = false ↔ ∃ j, j < N ∧ p j = false := by
 constructor
 ·intro h
  apply Classical.byContradiction
  intro hn
  have : allF p N 0 = true := allF_zero.2 fun j hj => by
   cases hp : p j with
   | true => rfl
   | false => exact absurd ⟨j, hj, hp⟩ hn
  rw [this] at h; cases h
 ·rintro ⟨j, hj, hp⟩
  cases h : allF p N 0 with
  | false => rfl
  | true => rw [allF_zero.1 h j hj] at hp; cases hp
theorem bad_iff {a : List Acc} {b : List (List Int)} {p : List (List Int)} {l : List PayT} (hl : Row a.length l) {i : Nat} (hi : i < a.length) (short : Bool) :
  (!allF (fun x => !badB b p l i short (l.getD x pd)) l.length 0) = (!allF (bilOk b p l i) a.length 0 || (decide (sumL (gN i) l > 0) && short)) := by
 have hN := sumL_pos (g := gN i) (l := l) fun p hp => (gN_le (hl.1 p hp) i).1
 have hS := fun j => sumL_pos (g := gS i j) (l := l) fun p hp => (gS_le (hl.1 p hp) i j).1
 rw [Bool.eq_iff_iff]
 simp only [Bool.not_eq_true', Bool.or_eq_true, Bool.and_eq_true, decide_eq_true_eq]
 rw [any_all, any_all]
 constructor
 ·rintro ⟨x, hx, hb⟩
  have hmay := hl.1 _ (getD_mem (d := pd) hx)
  have hmem := getD_mem (d := pd) hx
  generalize l.getD x pd = q at hb hmay hmem
  simp only [badB, Bool.not_eq_false', Bool.and_eq_true, Bool.or_eq_true, decide_eq_true_eq] at hb
  obtain ⟨hf, hb⟩ := hb
  rcases hb with ⟨hc, hs⟩ | ho
  ·refine .inr ⟨hN.2 ⟨q, hmem, ?_⟩, hs⟩
   unfold gN
   rw [if_pos ⟨hf, hc⟩]
   have := hmay.a1; omega
  ·have h1 := hmay.t0; have h2 := hmay.t1
   refine .inl ⟨q.2.2.1.toNat, by omega, ?_⟩
   unfold bilOk
   have hpos : sumL (gS i q.2.2.1.toNat) l > 0 := (hS _).2 ⟨q, hmem, by
    unfold gS
    rw [if_pos ⟨hf, by omega⟩]
    have := hmay.a1; omega⟩
   rw [decide_eq_true hpos]
   unfold overB at ho
   rw [Bool.true_and, ho]
   rfl
 ·rintro (⟨j, hj, hb⟩ | ⟨hp, hs⟩)
  ·simp only [bilOk, Bool.not_eq_false', Bool.and_eq_true, decide_eq_true_eq] at hb
   obtain ⟨hpos, ho⟩ := hb
   obtain ⟨q, hq, hg⟩ := (hS j).1 hpos
   obtain ⟨x, hx, rfl⟩ := List.getElem_of_mem hq
   refine ⟨x, hx, ?_⟩
   have e : l.getD x pd = l[x] := by simp [List.getD, hx]
   rw [e]
   unfold gS at hg
   by_cases c : l[x].2.1 = (i : Int) ∧ l[x].2.2.1 = (j : Int)
   ·unfold badB overB
    rw [decide_eq_true c.1, c.2, Int.toNat_natCast]
    simp [ho]
   ·rw [if_neg c] at hg; omega
  ·obtain ⟨q, hq, hg⟩ := hN.1 hp
   obtain ⟨x, hx, rfl⟩ := List.getElem_of_mem hq
   refine ⟨x, hx, ?_⟩
   have e : l.getD x pd = l[x] := by simp [List.getD, hx]
   rw [e]
   unfold gN at hg
   by_cases c : l[x].2.1 = (i : Int) ∧ l[x].2.2.2.2.1 = 3
   ·unfold badB
    rw [decide_eq_true c.1, decide_eq_true c.2, hs]
    simp
   ·rw [if_neg c] at hg; omega
theorem isShort_eq {k : Nat} {a : List Acc} {b : List (List Int)} {m : List Int} {p : List (List Int)} {l : List PayT} (hk : 100 < k) (hb : Books a b m p) (hl : Row a.length l) {r2 r3 : List Int} {m4 : List (List Int)} (hm : Moved a.length l r2 r3 m4) {i : Nat} (hi : i < a.length) (hs : decide (sumL (gN i) l + sumL (gR i) l = 0) = false) :
  fits_move_isShort k r2 r3 m4 a b m p i l = some (shortB a b m p l i) := by
 have h6 := hb.n6
 have hl64 := hl.2
 have hB := sum_gB hl i
 have hx := hb.acct i hi
 simp only [acctB, Bool.and_eq_true, decide_eq_true_eq] at hx
 have hbal : -4611686018427387904 < (a.getD i ad).1 ∧ (a.getD i ad).1 < 4611686018427387904 ∧ 0 ≤ (a.getD i ad).2.1 ∧ (a.getD i ad).2.1 ≤ 2305843009213693952 ∧ 0 ≤ (a.getD i ad).2.2 ∧ (a.getD i ad).2.2 ≤ 2305843009213693952 := ⟨hx.1, hx.2.1, hx.2.2.1, hx.2.2.2.1, hx.2.2.2.2.1, hx.2.2.2.2.2⟩
 have hnet := sumN_le (net_le hb hi) a.length
 have hnl : (a.length : Int) * 72057594037927936 ≤ 6 * 72057594037927936 := by omega
 have e1 : r2.getD i 0 = sumL (gB i) l := hm.more i hi
 unfold fits_move_isShort
 simp only [boundOk_nat, decide_eq_true hi, cond_true, Int.toNat_natCast, hm.l2, hm.l4, e1, hm.r4 i hi]
 rw [lim_Net_eq (by omega) (by omega) hi hb.pl (hb.pr i hi) (net_le hb hi)]
 show (bif decide (w64 (w64 ((a.getD i ad).1 + (a.getD i ad).2.1) + sumL (gB i) l) < 0) then _ else _) = _
 rw [w64_id (x := (a.getD i ad).1 + (a.getD i ad).2.1) (by omega) (by omega), w64_id (x := (a.getD i ad).1 + (a.getD i ad).2.1 + sumL (gB i) l) (by omega) (by omega)]
 unfold shortB
 rw [hs]
 cases hn : decide ((a.getD i ad).1 + (a.getD i ad).2.1 + sumL (gB i) l < 0) with
 | true => simp
 | false =>
  obtain ⟨s, q1, q2⟩ := carryE0 (L := fun c j (s : Int) => fits_move_isShort_L0 k c l s (m4.getD i []) a.length j r2 r3 m4 a b m p i (a.getD i ad).1 (a.getD i ad).2.1 (a.getD i ad).2.2 ((a.getD i ad).1 + (a.getD i ad).2.1 + sumL (gB i) l)) (N := a.length) (fun s => (l, s, r2, r3, m4, a, b, m, p, (i : Int), (a.getD i ad).1, (a.getD i ad).2.1, (a.getD i ad).2.2, (a.getD i ad).1 + (a.getD i ad).2.1 + sumL (gB i) l)) (fun j s => s = sumN (cell p i) a.length + sumN (dS l i) j) (fun c s hs => by
    show fits_move_isShort_L0b k _ l s (m4.getD i []) a.length a.length r2 r3 m4 a b m p i (a.getD i ad).1 (a.getD i ad).2.1 (a.getD i ad).2.2 ((a.getD i ad).1 + (a.getD i ad).2.1 + sumL (gB i) l) = _
    unfold fits_move_isShort_L0b
    simp only [dec_lt, decide_eq_false (Nat.lt_irrefl _), cond_false]) (fun c j s hj hs => by
    refine ⟨sumN (cell p i) a.length + sumN (dS l i) (j + 1), ?_, rfl⟩
    show fits_move_isShort_L0b k _ l s (m4.getD i []) a.length j r2 r3 m4 a b m p i (a.getD i ad).1 (a.getD i ad).2.1 (a.getD i ad).2.2 ((a.getD i ad).1 + (a.getD i ad).2.1 + sumL (gB i) l) = _
    have e2 : (m4.getD i []).getD j 0 = dS l i j := hm.sent i hi j hj
    have hs1 := sumN_le (fun j => dS_le hl i j) j
    have hs2 := dS_le hl i j
    have hj1 : (j : Int) * 70368744177664 ≤ 6 * 70368744177664 := by omega
    unfold fits_move_isShort_L0b
    simp only [boundOk_nat, w64_succ hj (show a.length < 9223372036854775808 by omega), dec_lt, Int.toNat_natCast, hm.r4 i hi, decide_eq_true hj, cond_true, e2]
    rw [hs, w64_id (x := sumN (cell p i) a.length + sumN (dS l i) j + dS l i j) (by omega) (by omega), Int.add_assoc]
    rfl) (n := k) (s := sumN (cell p i) a.length) (by omega) (by show _ = _ + 0; omega)
  have q1' : fits_move_isShort_L0 k k l (sumN (cell p i) a.length) (m4.getD i []) a.length 0 r2 r3 m4 a b m p i (a.getD i ad).1 (a.getD i ad).2.1 (a.getD i ad).2.2 ((a.getD i ad).1 + (a.getD i ad).2.1 + sumL (gB i) l) = _ := q1
  simp only [cond_false, Option.bind_some]
  rw [show fits_move_isShort_L0 k k l (sumN (cell p i) a.length) (m4.getD i []) a.length 0 r2 r3 m4 a b m p i (a.getD i (0, (0, 0))).1 (a.getD i (0, (0, 0))).2.1 (a.getD i (0, (0, 0))).2.2 ((a.getD i ad).1 + (a.getD i ad).2.1 + sumL (gB i) l) = _ from q1']
  simp only [Option.bind_some, boundOk_nat, hb.ml, decide_eq_true hi, cond_true, Int.toNat_natCast, fits_over_eq]
  rw [contains_short hk hb hl hm hi _ _ _ _ ⟨hbal.2.2.2.2.1, hbal.2.2.2.2.2⟩, bad_iff hl hi, q2, sum_dS hl.1 i hi]
  have en : sumN (cell p i) a.length + -sumL (gB i) l = sumN (cell p i) a.length - sumL (gB i) l := by omega
  rw [en]
  unfold overB
  simp only [Option.bind_some, Bool.not_false, Bool.true_and, Bool.false_or]
  cases allF (bilOk b p l i) a.length 0 <;> cases decide (sumL (gN i) l > 0) <;> cases decide ((a.getD i ad).1 + (a.getD i ad).2.1 + sumL (gB i) l < keptZ (a.getD i ad).2.2 (sumL (gR i) l)) <;> cases decide (m.getD i 0 = -1) <;> cases decide (sumN (cell p i) a.length - sumL (gB i) l > m.getD i 0) <;> rfl
theorem shortL_snoc (f : Nat → Bool) (i : Nat) : ((List.range (i + 1)).filter f).map (fun (x : Nat) => (x : Int)) = (((List.range i).filter f).map fun (x : Nat) => (x : Int)) ++ (bif f i then [(i : Int)] else []) := by
 rw [List.range_succ, List.filter_append, List.map_append]
 congr 1
 cases h : f i <;> simp [h]
theorem fits_Short_eq {k : Nat} {a : List Acc} {b : List (List Int)} {m : List Int} {p : List (List Int)} {l : List PayT} (hk : 100 < k) (hb : Books a b m p) (hl : Row a.length l) : fits_Short k a b m p l = some (shortL a b m p l) := by
 have h6 := hb.n6
 have hl64 := hl.2
 obtain ⟨r2, r3, m4, g1, hm⟩ := fits_moved_eq hk h6 hl
 obtain ⟨r, h1, h2⟩ := carryE0 (L := fun c i (r : List Int) => fits_Short_L0 k c l a.length i a b m p r2 r3 m4 r) (N := a.length) (fun r => r) (fun i r => r = ((List.range i).filter fun i => shortB a b m p l i).map fun (x : Nat) => (x : Int)) (fun c r hr => by
   show fits_Short_L0b k _ l a.length a.length a b m p r2 r3 m4 r = _
   unfold fits_Short_L0b
   simp only [dec_lt, decide_eq_false (Nat.lt_irrefl _), cond_false]) (fun c i r hi hr => by
   have hle : r.length ≤ i := by
    rw [hr, List.length_map]
    have := List.length_filter_le (fun i => shortB a b m p l i) (List.range i)
    rw [List.length_range] at this
    exact this
   have hroom : roomB (r.length + 1) 8 = true := roomB_true (by omega) (by omega)
   refine ⟨_, ?_, rfl⟩
   show fits_Short_L0b k _ l a.length i a b m p r2 r3 m4 r = _
   unfold fits_Short_L0b
   simp only [w64_succ hi (show a.length < 9223372036854775808 by omega), dec_lt, decide_eq_true hi, cond_true, contains_from (show l.length < k by omega) (by omega), Option.bind_some, hroom]
   rw [from_none hl.1, shortL_snoc, ← hr]
   cases hz : decide (sumL (gN i) l + sumL (gR i) l = 0) with
   | true =>
    have : shortB a b m p l i = false := by unfold shortB; rw [hz]; rfl
    rw [this]
    simp
   | false =>
    rw [isShort_eq hk hb hl hm hi hz]
    simp only [Option.bind_some, Bool.not_false, cond_true]
    cases shortB a b m p l i <;> simp) (n := k) (s := []) (by omega) rfl
 unfold fits_Short
 rw [g1]
 simp only [Option.bind_some]
 have h1' : fits_Short_L0 k k l a.length 0 a b m p r2 r3 m4 [] = some r := h1
 rw [h1', h2]
 rfl
theorem shortL_nil {a : List Acc} {b : List (List Int)} {m : List Int} {p : List (List Int)} {l : List PayT} : decide (((shortL a b m p l).length : Int) = 0) = allF (fun i => !shortB a b m p l i) a.length 0 := by
 unfold shortL
 rw [List.length_map]
 cases h : allF (fun i => !shortB a b m p l i) a.length 0 with
 | true =>
  rw [allF_zero] at h
  apply decide_eq_true
  have : (List.range a.length).filter (fun i => shortB a b m p l i) = [] := by
   rw [List.filter_eq_nil_iff]
   intro i hi
   have := h i (by simpa using hi)
   simpa using this
  rw [this]; rfl
 | false =>
  apply decide_eq_false
  intro h0
  obtain ⟨j, hj, hs⟩ := any_all.1 h
  have hm : j ∈ (List.range a.length).filter (fun i => shortB a b m p l i) := by
   rw [List.mem_filter]
   exact ⟨by simpa using hj, by simpa using hs⟩
  have := List.length_pos_of_mem hm
  omega
theorem contains_fits {k : Nat} {l : List PayT} (hk : l.length < k) (hl : l.length < 9223372036854775808) (a : List Acc) (b : List (List Int)) (m : List Int) (p : List (List Int)) : slices_ContainsFunc_Pay__fits_Fits_fn1 k l a b m p = some (!allMay a.length l) := by
 obtain ⟨x, h1, h2⟩ := scan_any (L := fun c i => slices_IndexFunc_Pay__fits_Fits_fn1_L0 k c l l.length i a b m p) (N := l.length) (fun i => !mayB a.length (l.getD i pd)) (fun c => by
  show slices_IndexFunc_Pay__fits_Fits_fn1_L0b k _ l l.length l.length a b m p = _
  unfold slices_IndexFunc_Pay__fits_Fits_fn1_L0b
  simp only [dec_lt, decide_eq_false (Nat.lt_irrefl _), cond_false]) (fun c i hi => by
  show slices_IndexFunc_Pay__fits_Fits_fn1_L0b k _ l l.length i a b m p = _
  unfold slices_IndexFunc_Pay__fits_Fits_fn1_L0b fits_Fits_fn1
  simp only [boundOk_nat, w64_succ hi hl, dec_lt, Int.toNat_natCast, decide_eq_true hi, cond_true, fits_May_eq, Option.bind_some]) hk
 unfold slices_ContainsFunc_Pay__fits_Fits_fn1 slices_IndexFunc_Pay__fits_Fits_fn1
 rw [h1]
 simp only [Bool.not_not] at h2
 unfold allMay
 rw [← h2]
 cases x <;> rfl
theorem fits_Fits_eq {k : Nat} {a : List Acc} {b : List (List Int)} {m : List Int} {p : List (List Int)} {l : List PayT} (hk : 100 < k) (hb : Books a b m p) (hl : l.length ≤ 80) : fits_Fits k a b m p l = some (fitsB a b m p l) := by
 unfold fits_Fits fitsB
 have e : decide ((l.length : Int) ≤ 64) = decide (l.length ≤ 64) := by
  by_cases h : l.length ≤ 64
  ·rw [decide_eq_true h, decide_eq_true (by omega)]
  ·rw [decide_eq_false h, decide_eq_false (by omega)]
 rw [e, contains_fits (by omega) (by omega)]
 cases h64 : decide (l.length ≤ 64) with
 | false => simp
 | true =>
  cases hm : allMay a.length l with
  | false => rfl
  | true =>
   have hr : Row a.length l := ⟨allMay_iff.1 hm, of_decide_eq_true h64⟩
   simp only [cond_true, Option.bind_some, Bool.not_true, Bool.not_false, fits_Short_eq hk hb hr, shortL_nil, Bool.and_self, Bool.true_and]
end Go.Ab.Gi
