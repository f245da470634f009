/- part 19 -/
import Derived.Test.YtdhajnjinkknkaaGreatGiPPost
set_option linter.unusedVariables false
set_option linter.unusedSimpArgs false
namespace Go.Ab.Gi
open Go.Ab
theorem stays {a : List Acc} {b : List (List Int)} {m : List Int} {p : List (List Int)} {l : List PayT} {r : List Acc × List (List Int) × List Int × List (List Int) × Int} (hb : Books a b m p) (h : PostIs a b m p l r) :
  sumN (fun i => (r.1.getD i ad).1) a.length = sumN (fun i => (a.getD i ad).1) a.length ∧ Books r.1 r.2.1 r.2.2.1 r.2.2.2.1 ∧ (r.2.2.2.2 = 0 ∨ (r.1 = a ∧ r.2.1 = b ∧ r.2.2.1 = m ∧ r.2.2.2.1 = p)) := by
 by_cases c : Row a.length l
 ·obtain ⟨a', p', x, e⟩ := h.1 c
  cases hi : isB a' b m p' with
  | false =>
   rw [hi] at e
   subst e
   exact ⟨rfl, hb, .inr ⟨rfl, rfl, rfl, rfl⟩⟩
  | true =>
   rw [hi] at e
   subst e
   refine ⟨?_, isB_iff.1 hi, .inl rfl⟩
   have e1 : sumN (fun i => (a'.getD i ad).1) a.length = sumN (fun i => (a.getD i ad).1 + sumL (gB i) l) a.length := sumN_congr fun j hj => by rw [x.acct j hj]
   show sumN (fun i => (a'.getD i ad).1) a.length = _
   rw [e1, sumN_add, sumN_sumL]
   have e2 : sumL (fun p => sumN (fun j => gB j p) a.length) l = sumL (fun _ => (0 : Int)) l := sumL_congr fun p hp => by
    obtain ⟨f0, f1, t0, t1, ne, a1, a2, c1, c3⟩ := c.1 p hp
    obtain ⟨f, hf⟩ : ∃ f : Nat, p.2.1 = f := ⟨p.2.1.toNat, by omega⟩
    obtain ⟨t, ht⟩ : ∃ t : Nat, p.2.2.1 = t := ⟨p.2.2.1.toNat, by omega⟩
    have g1 : ∀ j, gB j p = (if j = t then p.2.2.2.1 else 0) + (if j = f then -p.2.2.2.1 else 0) := by
     intro j
     unfold gB
     rw [hf, ht]
     by_cases c : j = t <;> by_cases d : j = f <;> (repeat (first | rw [if_pos (by omega)] | rw [if_neg (by omega)])) <;> omega
    rw [sumN_congr fun j _ => g1 j, sumN_add, sumN_one, sumN_one, if_pos (by omega), if_pos (by omega)]
    omega
   have e3 : ∀ l : List PayT, sumL (fun _ : PayT => (0 : Int)) l = 0 := by
    intro l
    induction l with
    | nil => rfl
    | cons p l ih => show 0 + sumL _ l = 0; rw [ih]; rfl
   rw [e2, e3, Int.add_zero]
 ·have e := h.2 c
  subst e
  exact ⟨rfl, hb, .inr ⟨rfl, rfl, rfl, rfl⟩⟩
theorem posted_books {a : List Acc} {b : List (List Int)} {m : List Int} {p : List (List Int)} {l : List PayT} {a' : List Acc} {p' : List (List Int)} (hb : Books a b m p) (hl : Row a.length l) (x : Posted a.length a p l a' p')
  (h1 : ∀ i, i < a.length → -4611686018427387904 < (a.getD i ad).1 + sumL (gB i) l ∧ (a.getD i ad).1 + sumL (gB i) l < 4611686018427387904)
  (h2 : ∀ i, i < a.length → ∀ j, j < a.length → -72057594037927936 < cell p i j + sumL (gS i j) l - sumL (gS j i) l ∧ cell p i j + sumL (gS i j) l - sumL (gS j i) l < 72057594037927936) : Books a' b m p' where
 n1 := by rw [x.al]; exact hb.n1
 n6 := by rw [x.al]; exact hb.n6
 bl := by rw [x.al]; exact hb.bl
 br := by rw [x.al]; exact hb.br
 ml := by rw [x.al]; exact hb.ml
 pl := by rw [x.al]; exact x.pl
 pr := by rw [x.al]; exact x.pr
 mul := by rw [x.al]; exact hb.mul
 bil := by rw [x.al]; exact hb.bil
 acct := by
  rw [x.al]
  intro i hi
  have e : a'.getD i (0, 0, 0) = _ := x.acct i hi
  have hi1 := h1 i hi
  have hr := hb.nums.res i hi
  have hs := sum_gR hl i
  have hk1 : 0 ≤ keptZ (a.getD i ad).2.2 (sumL (gR i) l) := keptZ_nonneg
  have hk2 := keptZ_le hr.1 hs.1
  have hc := hb.acct i hi
  have hc' : 0 ≤ (a.getD i ad).2.1 ∧ (a.getD i ad).2.1 ≤ 2305843009213693952 := by
   simp only [acctB, Bool.and_eq_true, decide_eq_true_eq] at hc
   exact ⟨hc.2.2.1, hc.2.2.2.1⟩
  rw [e]
  simp only [acctB, Bool.and_eq_true, decide_eq_true_eq]
  omega
 net := by
  rw [x.al]
  intro i hi j hj
  have := h2 i hi j hj
  rw [x.cell i hi j hj]
  simp only [netB, Bool.and_eq_true, decide_eq_true_eq]
  omega
 turn := by
  rw [x.al]
  intro i hi j hj
  have h3 := h2 j hj i hi
  have h4 := hb.turn i hi j hj
  have h5 := hb.nums.net j hj i hi
  rw [w64_id (by omega) (by omega)] at h4
  rw [x.cell i hi j hj, x.cell j hj i hi, w64_id (by omega) (by omega)]
  omega
end Go.Ab.Gi
