/- part 11 -/
import Derived.Test.YtdhajnjinkknkaaGreatGiPPost
import Derived.Test.YtdhajnjinkknkaaGreatGiPNet
set_option linter.unusedVariables false
set_option linter.unusedSimpArgs false
namespace Go.Ab.Gi
open Go.Ab
theorem scanC {S X : Type} {L : Nat → Int → S → Option X} {N : Nat} (ok : Nat → Bool) (e : S → X) (b : X) (inv : Nat → S → Prop) (hend : ∀ n s, inv N s → L (n + 1) (N : Int) s = some (e s))
  (hstep : ∀ n i s, i < N → inv i s → (ok i = true → ∃ s', L (n + 1) (i : Int) s = L n ((i + 1 : Nat) : Int) s' ∧ inv (i + 1) s') ∧ (ok i = false → L (n + 1) (i : Int) s = some b)) :
  ∀ c i n s, i + c = N → c < n → inv i s → (allF ok c i = true ∧ ∃ s', L n (i : Int) s = some (e s') ∧ inv N s') ∨ (allF ok c i = false ∧ L n (i : Int) s = some b)
 | 0, i, n, s, h, hn, hs => by
  obtain ⟨n, rfl⟩ : ∃ m, n = m + 1 := ⟨n - 1, by omega⟩
  have : i = N := by omega
  subst this
  exact .inl ⟨rfl, s, hend n s hs, hs⟩
 | c + 1, i, n, s, h, hn, hs => by
  obtain ⟨n, rfl⟩ : ∃ m, n = m + 1 := ⟨n - 1, by omega⟩
  obtain ⟨h1, h2⟩ := hstep n i s (by omega) hs
  unfold allF
  cases ho : ok i with
  | true =>
   obtain ⟨s', h3, h4⟩ := h1 ho
   rw [h3]
   simp only [Bool.true_and]
   exact scanC ok e b inv hend hstep c (i + 1) n s' (by omega) (by omega) h4
  | false => exact .inr ⟨rfl, h2 ho⟩
def dS (l : List PayT) (i j : Nat) : Int := sumL (gS i j) l - sumL (gS j i) l
def bilOk (b p : List (List Int)) (l : List PayT) (i j : Nat) : Bool := !(decide (sumL (gS i j) l > 0) && (!decide (cell b i j = -1) && decide (cell p i j + dS l i j > cell b i j)))
def shortB (a : List Acc) (b : List (List Int)) (m : List Int) (p : List (List Int)) (l : List PayT) (i : Nat) : Bool :=
 !decide (sumL (gN i) l + sumL (gR i) l = 0) && (!allF (bilOk b p l i) a.length 0 || (decide ((a.getD i ad).1 + (a.getD i ad).2.1 + sumL (gB i) l < 0) ||
  ((decide (sumL (gN i) l > 0) && decide ((a.getD i ad).1 + (a.getD i ad).2.1 + sumL (gB i) l < keptZ (a.getD i ad).2.2 (sumL (gR i) l))) ||
   (!decide (m.getD i 0 = -1) && decide (sumN (cell p i) a.length - sumL (gB i) l > m.getD i 0)))))
theorem dS_le {n : Nat} {l : List PayT} (hl : Row n l) (i j : Nat) : -70368744177664 ≤ dS l i j ∧ dS l i j ≤ 70368744177664 := by
 have h1 := sum_gS hl i j
 have h2 := sum_gS hl j i
 unfold dS
 omega
theorem short_loop {k : Nat} {a : List Acc} {b : List (List Int)} {m : List Int} {p : List (List Int)} {l : List PayT} (hk : 100 < k) (hb : Books a b m p) (hl : Row a.length l) {i : Nat} (hi : i < a.length) (x y n0 net0 : Int)
  (hn0 : -6917529027641081856 ≤ n0 ∧ n0 ≤ 6917529027641081856) (hnet : -576460752303423488 ≤ net0 ∧ net0 ≤ 576460752303423488) :
  giroref15_short_L0 k k l i x y n0 net0 0 a b m p = some (bif allF (bilOk b p l i) a.length 0 then .inl ((i : Int), x, y, n0 - sumN (dS l i) a.length, net0 + sumN (dS l i) a.length, a, b, m, p) else .inr true) := by
 have h6 := hb.n6
 have hkl : l.length < k := by have := hl.2; omega
 have := scanC (L := fun c j (s : Int × Int) => giroref15_short_L0 k c l i x y s.1 s.2 j a b m p) (N := a.length) (bilOk b p l i) (fun s => .inl ((i : Int), x, y, s.1, s.2, a, b, m, p)) (.inr true) (fun j s => s = (n0 - sumN (dS l i) j, net0 + sumN (dS l i) j)) (fun c s hs => by
   show giroref15_short_L0b k _ l i x y s.1 s.2 a.length a b m p = _
   unfold giroref15_short_L0b
   simp only [dec_lt, decide_eq_false (Nat.lt_irrefl _), cond_false]) (fun c j s hj hs => by
   have hs1 := sumN_le (fun j => dS_le hl i j) j
   have hs2 := dS_le hl i j
   have hj1 : (j : Int) * 70368744177664 ≤ 6 * 70368744177664 := by omega
   have hnet := hb.nums.net i hi j hj
   have e1 : giroref15_short_L0 k (c + 1) l i x y s.1 s.2 j a b m p = bif bilOk b p l i j then giroref15_short_L0 k c l i x y (n0 - sumN (dS l i) (j + 1)) (net0 + sumN (dS l i) (j + 1)) ((j + 1 : Nat) : Int) a b m p else some (.inr true) := by
    show giroref15_short_L0b k _ l i x y s.1 s.2 j a b m p = _
    unfold giroref15_short_L0b
    simp only [boundOk_nat, w64_succ hj (show a.length < 9223372036854775808 by omega), dec_lt, Int.toNat_natCast, decide_eq_true hi, decide_eq_true hj, cond_true, giroref15_sent_eq hkl hl, Option.bind_some, hb.bl, hb.br i hi, hb.pl, hb.pr i hi]
    have ed : w64 (sumL (gS i j) l - sumL (gS j i) l) = dS l i j := w64_id (by have := hs2.1; unfold dS at this; omega) (by have := hs2.2; unfold dS at this; omega)
    rw [ed]
    have e2 : w64 (s.1 - dS l i j) = n0 - sumN (dS l i) (j + 1) := by
     rw [hs]
     show w64 (n0 - sumN (dS l i) j - dS l i j) = n0 - (sumN (dS l i) j + dS l i j)
     rw [w64_id (by omega) (by omega)]
     omega
    have e3 : w64 (s.2 + dS l i j) = net0 + sumN (dS l i) (j + 1) := by
     rw [hs]
     show w64 (net0 + sumN (dS l i) j + dS l i j) = net0 + (sumN (dS l i) j + dS l i j)
     rw [w64_id (by omega) (by omega)]
     omega
    rw [e2, e3]
    show (bif decide (sumL (gS i j) l > 0) then (bif !decide (cell b i j = -1) then (bif decide (w64 (cell p i j + dS l i j) > cell b i j) then _ else _) else _) else _) = _
    rw [w64_id (x := cell p i j + dS l i j) (by omega) (by omega)]
    unfold bilOk
    cases decide (sumL (gS i j) l > 0) <;> cases decide (cell b i j = -1) <;> cases decide (cell p i j + dS l i j > cell b i j) <;> rfl
   refine ⟨fun ho => ⟨_, ?_, rfl⟩, fun ho => ?_⟩
   ·rw [e1, ho]; rfl
   ·rw [e1, ho]; rfl) a.length 0 k (n0, net0) (by omega) (by omega) (by
    show (n0, net0) = (n0 - 0, net0 + 0)
    rw [Int.sub_zero, Int.add_zero])
 rcases this with ⟨h1, s, h2, h3⟩ | ⟨h1, h2⟩
 ·have h2' : giroref15_short_L0 k k l i x y n0 net0 0 a b m p = _ := h2
  rw [h2', h1, h3]
  rfl
 ·have h2' : giroref15_short_L0 k k l i x y n0 net0 0 a b m p = _ := h2
  rw [h2', h1]
  rfl
theorem sum_dS {n : Nat} {l : List PayT} (hl : ∀ p ∈ l, May n p) (i : Nat) (hi : i < n) : sumN (dS l i) n = - sumL (gB i) l := sum_row hl i hi
theorem giroref15_short_eq {k : Nat} {a : List Acc} {b : List (List Int)} {m : List Int} {p : List (List Int)} {l : List PayT} (hk : 100 < k) (hb : Books a b m p) (hl : Row a.length l) {i : Nat} (hi : i < a.length) : giroref15_short k a b m p l i = some (shortB a b m p l i) := by
 have h6 := hb.n6
 have hkl : l.length < k := by have := hl.2; omega
 have hN := sum_gN hl i
 have hR := sum_gR hl i
 have hB := sum_gB hl i
 have hx := hb.acct i hi
 simp only [acctB, Bool.and_eq_true, decide_eq_true_eq] at hx
 have hbal : -4611686018427387904 < (a.getD i ad).1 ∧ (a.getD i ad).1 < 4611686018427387904 ∧ 0 ≤ (a.getD i ad).2.1 ∧ (a.getD i ad).2.1 ≤ 2305843009213693952 ∧ 0 ≤ (a.getD i ad).2.2 ∧ (a.getD i ad).2.2 ≤ 2305843009213693952 := ⟨hx.1, hx.2.1, hx.2.2.1, hx.2.2.2.1, hx.2.2.2.2.1, hx.2.2.2.2.2⟩
 have hnet := sumN_le (net_le hb hi) a.length
 have hnl : (a.length : Int) * 72057594037927936 ≤ 6 * 72057594037927936 := by omega
 unfold giroref15_short
 rw [giroref15_classed_eq hkl hl]
 simp only [Option.bind_some]
 rw [w64_id (x := sumL (gN i) l + sumL (gR i) l) (by omega) (by omega)]
 unfold shortB
 cases hz : decide (sumL (gN i) l + sumL (gR i) l = 0) with
 | true => rfl
 | false =>
  rw [boundOk_nat, decide_eq_true hi]
  simp only [cond_true, cond_false, Int.toNat_natCast]
  rw [giroref10_Net_eq (by omega) (by omega) hi hb.pl (hb.pr i hi) (net_le hb hi)]
  simp only [Option.bind_some]
  rw [w64_id (x := (a.getD i (0, (0, 0))).1 + (a.getD i (0, (0, 0))).2.1) (by omega) (by omega)]
  rw [short_loop hk hb hl hi _ _ _ _ (by omega) (by omega), sum_dS hl.1 i hi]
  simp only [Int.sub_neg]
  cases allF (bilOk b p l i) a.length 0 with
  | false => rfl
  | true =>
   have hK := giroref9_Kept_eq k (a.getD i ad).1 (a.getD i ad).2.1 (a.getD i ad).2.2 (sumL (gR i) l) (by omega) (by omega) hR.1
   simp only [cond_true, Option.bind_some, Bool.not_false, Bool.not_true, Bool.true_and, Bool.false_or, boundOk_nat, Int.toNat_natCast, decide_eq_true hi, hb.ml]
   show (bif decide ((a.getD i ad).1 + (a.getD i ad).2.1 + sumL (gB i) l < 0) then _ else bif decide (sumL (gN i) l > 0) then (giroref9_Kept k (a.getD i ad).1 (a.getD i ad).2.1 (a.getD i ad).2.2 (sumL (gR i) l)).bind _ else _) = _
   rw [hK]
   simp only [Option.bind_some]
   have en : sumN (cell p i) a.length + -sumL (gB i) l = sumN (cell p i) a.length - sumL (gB i) l := by omega
   rw [en]
   cases decide ((a.getD i ad).1 + (a.getD i ad).2.1 + sumL (gB i) l < 0) <;> cases decide (sumL (gN i) l > 0) <;> cases decide ((a.getD i ad).1 + (a.getD i ad).2.1 + sumL (gB i) l < keptZ (a.getD i ad).2.2 (sumL (gR i) l)) <;> cases decide (m.getD i 0 = -1) <;> rfl
theorem giroref15_Short_eq {k : Nat} {a : List Acc} {b : List (List Int)} {m : List Int} {p : List (List Int)} {l : List PayT} (hk : 100 < k) (hb : Books a b m p) (hl : Row a.length l) : ∃ r, giroref15_Short k a b m p l = some r ∧ (r = [] ↔ allF (fun i => !shortB a b m p l i) a.length 0 = true) := by
 have h6 := hb.n6
 obtain ⟨r, h1, h2⟩ := carryE0 (L := fun c i (r : List Int) => giroref15_Short_L0 k c l i a b m p r) (N := a.length) (fun r => r) (fun i r => (r = [] ↔ ∀ j, j < i → shortB a b m p l j = false) ∧ r.length ≤ i) (fun c r hr => by
   show giroref15_Short_L0b k _ l a.length a b m p r = _
   unfold giroref15_Short_L0b
   simp only [dec_lt, decide_eq_false (Nat.lt_irrefl _), cond_false]) (fun c i r hi hr => by
   have hroom : roomB (r.length + 1) 8 = true := roomB_true (by omega) (by omega)
   have e : giroref15_Short_L0 k (c + 1) l i a b m p r = giroref15_Short_L0 k c l ((i + 1 : Nat) : Int) a b m p (bif shortB a b m p l i then r ++ [(i : Int)] else r) := by
    show giroref15_Short_L0b k _ l i a b m p r = _
    unfold giroref15_Short_L0b
    simp only [w64_succ hi (show a.length < 9223372036854775808 by omega), dec_lt, decide_eq_true hi, cond_true, giroref15_short_eq hk hb hl hi, Option.bind_some, hroom]
    cases shortB a b m p l i <;> rfl
   refine ⟨_, e, ?_⟩
   cases hs : shortB a b m p l i with
   | true =>
    refine ⟨⟨fun h => ?_, fun h => ?_⟩, by simp only [cond_true, List.length_append, List.length_cons, List.length_nil]; omega⟩
    ·simp at h
    ·rw [h i (Nat.lt_succ_self i)] at hs; cases hs
   | false =>
    refine ⟨⟨fun h j hj => ?_, fun h => ?_⟩, by simp only [cond_false]; omega⟩
    ·by_cases c : j = i
     ·subst c; exact hs
     ·exact hr.1.1 h j (by omega)
    ·exact hr.1.2 fun j hj => h j (by omega)) (s := []) (show a.length < k by omega) ⟨⟨fun _ j hj => absurd hj (Nat.not_lt_zero j), fun _ => rfl⟩, Nat.le_refl 0⟩
 unfold giroref15_Short
 rw [h1]
 refine ⟨r, rfl, h2.1.trans ?_⟩
 rw [allF_zero]
 exact ⟨fun h j hj => by rw [h j hj]; rfl, fun h j hj => by have := h j hj; simpa using this⟩
def fitsB (a : List Acc) (b : List (List Int)) (m : List Int) (p : List (List Int)) (l : List PayT) : Bool := (allMay a.length l && decide (l.length ≤ 64)) && allF (fun i => !shortB a b m p l i) a.length 0
theorem giroref15_Fits_eq {k : Nat} {a : List Acc} {b : List (List Int)} {m : List Int} {p : List (List Int)} {l : List PayT} (hk : 100 < k) (hb : Books a b m p) (hl : l.length ≤ 80) : giroref15_Fits k a b m p l = some (fitsB a b m p l) := by
 unfold giroref15_Fits fitsB
 rw [giroref15_All_eq (by omega) (by omega)]
 simp only [Option.bind_some]
 cases hm : (allMay a.length l && decide (l.length ≤ 64)) with
 | false => rfl
 | true =>
  simp only [Bool.and_eq_true, decide_eq_true_eq] at hm
  obtain ⟨r, h1, h2⟩ := giroref15_Short_eq hk hb ⟨allMay_iff.1 hm.1, hm.2⟩
  simp only [cond_true, h1, Option.bind_some, Bool.true_and]
  congr 1
  cases hr : allF (fun i => !shortB a b m p l i) a.length 0 with
  | true =>
   have := h2.2 hr
   subst this
   rfl
  | false =>
   apply decide_eq_false
   intro h
   have : r = [] := List.length_eq_zero_iff.1 (by omega)
   rw [h2.1 this] at hr
   cases hr
end Go.Ab.Gi
