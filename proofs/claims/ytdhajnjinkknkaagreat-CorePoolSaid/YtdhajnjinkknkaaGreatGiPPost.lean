/- part 9 -/
import Derived.Test.YtdhajnjinkknkaaGreatGiPCopy
set_option linter.unusedVariables false
set_option linter.unusedSimpArgs false
set_option linter.unusedSectionVars false
namespace Go.Ab.Gi
open Go.Ab
abbrev pd : PayT := (0, (0, (0, (0, (0, (0, 0))))))
abbrev ad : Acc := (0, (0, 0))
def mayB (n : Nat) (p : PayT) : Bool := decide (p.2.1 ≥ 0) && (decide (p.2.1 < (n : Int)) && (decide (p.2.2.1 ≥ 0) && (decide (p.2.2.1 < (n : Int)) && (!decide (p.2.1 = p.2.2.1) && (decide (p.2.2.2.1 ≥ 1) && (decide (p.2.2.2.1 ≤ 1099511627776) && (decide (p.2.2.2.2.1 ≥ 1) && decide (p.2.2.2.2.1 ≤ 3))))))))
structure May (n : Nat) (p : PayT) : Prop where
 f0 : 0 ≤ p.2.1
 f1 : p.2.1 < n
 t0 : 0 ≤ p.2.2.1
 t1 : p.2.2.1 < n
 ne : p.2.1 ≠ p.2.2.1
 a1 : 1 ≤ p.2.2.2.1
 a2 : p.2.2.2.1 ≤ 1099511627776
 c1 : 1 ≤ p.2.2.2.2.1
 c3 : p.2.2.2.2.1 ≤ 3
theorem mayB_iff {n : Nat} {p : PayT} : mayB n p = true ↔ May n p := by
 unfold mayB
 simp only [Bool.and_eq_true, decide_eq_true_eq, Bool.not_eq_true', decide_eq_false_iff_not]
 exact ⟨fun ⟨h1, h2, h3, h4, h5, h6, h7, h8, h9⟩ => ⟨h1, h2, h3, h4, h5, h6, h7, h8, h9⟩, fun ⟨h1, h2, h3, h4, h5, h6, h7, h8, h9⟩ => ⟨h1, h2, h3, h4, h5, h6, h7, h8, h9⟩⟩
theorem fits_May_eq (k : Nat) (a : List Acc) (b : List (List Int)) (m : List Int) (p : List (List Int)) (i f t am c s ti : Int) : fits_May k a b m p i f t am c s ti = some (mayB a.length (i, f, t, am, c, s, ti)) := by
 unfold fits_May mayB
 cases decide (f ≥ 0) <;> cases decide (f < (a.length : Int)) <;> cases decide (t ≥ 0) <;> cases decide (t < (a.length : Int)) <;> cases decide (f = t) <;> cases decide (am ≥ 1) <;> cases decide (am ≤ 1099511627776) <;> cases decide (c ≥ 1) <;> rfl
theorem giroref15_May_eq (k : Nat) (a : List Acc) (b : List (List Int)) (m : List Int) (p : List (List Int)) (i f t am c s ti : Int) : giroref15_May k a b m p i f t am c s ti = some (mayB a.length (i, f, t, am, c, s, ti)) := fits_May_eq k a b m p i f t am c s ti
def allMay (n : Nat) (l : List PayT) : Bool := allF (fun i => mayB n (l.getD i pd)) l.length 0
theorem allMay_iff {n : Nat} {l : List PayT} : allMay n l = true ↔ ∀ p ∈ l, May n p := by
 unfold allMay
 rw [allF_zero]
 constructor
 ·intro h p hp
  obtain ⟨i, hi, rfl⟩ := List.getElem_of_mem hp
  have := h i hi
  rw [List.getD_eq_getElem?_getD, List.getElem?_eq_getElem hi] at this
  exact mayB_iff.1 this
 ·intro h i hi
  exact mayB_iff.2 (h _ (getD_mem hi))
theorem contains_pay {k : Nat} {l : List PayT} (hk : l.length < k) (hl : l.length < 9223372036854775808) (a : List Acc) (b : List (List Int)) (m : List Int) (p : List (List Int)) : slices_ContainsFunc_Pay__post_Post_fn1 k l a b m p = some (!allMay a.length l) := by
 obtain ⟨x, h1, h2⟩ := scan_any (L := fun c i => slices_IndexFunc_Pay__post_Post_fn1_L0 k c l l.length i a b m p) (N := l.length) (fun i => !mayB a.length (l.getD i pd)) (fun c => by
  show slices_IndexFunc_Pay__post_Post_fn1_L0b k _ l l.length l.length a b m p = _
  unfold slices_IndexFunc_Pay__post_Post_fn1_L0b
  simp only [dec_lt, decide_eq_false (Nat.lt_irrefl _), cond_false]) (fun c i hi => by
  show slices_IndexFunc_Pay__post_Post_fn1_L0b k _ l l.length i a b m p = _
  unfold slices_IndexFunc_Pay__post_Post_fn1_L0b post_Post_fn1
  simp only [boundOk_nat, w64_succ hi hl, dec_lt, Int.toNat_natCast, decide_eq_true hi, cond_true, fits_May_eq, Option.bind_some]) hk
 unfold slices_ContainsFunc_Pay__post_Post_fn1 slices_IndexFunc_Pay__post_Post_fn1
 rw [h1]
 simp only [Bool.not_not] at h2
 unfold allMay
 rw [← h2]
 cases x <;> rfl
theorem giroref15_All_eq {k : Nat} {l : List PayT} (hk : l.length < k) (hl : l.length < 9223372036854775808) (a : List Acc) (b : List (List Int)) (m : List Int) (p : List (List Int)) : giroref15_All k a b m p l = some (allMay a.length l && decide (l.length ≤ 64)) := by
 unfold giroref15_All
 have := scan0 (L := fun c i => giroref15_All_L0 k c l i a b m p) (N := l.length) (fun i => mayB a.length (l.getD i pd)) (.inl l) (.inr false) (fun c => by
  show giroref15_All_L0b k _ l l.length a b m p = _
  unfold giroref15_All_L0b
  simp only [dec_lt, decide_eq_false (Nat.lt_irrefl _), cond_false]) (fun c i hi => by
  show giroref15_All_L0b k _ l i a b m p = _
  unfold giroref15_All_L0b
  simp only [boundOk_nat, w64_succ hi hl, dec_lt, Int.toNat_natCast, decide_eq_true hi, cond_true, giroref15_May_eq, Option.bind_some]
  show (bif !mayB a.length (l.getD i pd) then _ else _) = _
  generalize mayB a.length (l.getD i pd) = r
  cases r <;> rfl) hk
 rw [this]
 unfold allMay
 have e : decide (((l.length : Nat) : Int) ≤ 64) = decide (l.length ≤ 64) := by
  by_cases h : l.length ≤ 64
  ·rw [decide_eq_true h, decide_eq_true (by omega)]
  ·rw [decide_eq_false h, decide_eq_false (by omega)]
 generalize allF _ _ _ = r
 cases r
 ·rfl
 ·simp only [cond_true, Option.bind_some, Bool.true_and, e]
def gB (i : Nat) (p : PayT) : Int := (if p.2.2.1 = i then p.2.2.2.1 else 0) - (if p.2.1 = i then p.2.2.2.1 else 0)
def gS (i j : Nat) (p : PayT) : Int := if p.2.1 = i ∧ p.2.2.1 = j then p.2.2.2.1 else 0
def gR (i : Nat) (p : PayT) : Int := if p.2.1 = i ∧ p.2.2.2.2.1 ≠ 3 then p.2.2.2.1 else 0
def keptZ (r s : Int) : Int := if s ≥ r then 0 else r - s
theorem keptZ_keptZ {r s t : Int} (hs : 0 ≤ s) (ht : 0 ≤ t) : keptZ (keptZ r s) t = keptZ r (s + t) := by
 unfold keptZ
 by_cases h : s ≥ r
 ·rw [if_pos h, if_pos (by omega), if_pos (by omega)]
 ·rw [if_neg h]
  by_cases h' : t ≥ r - s
  ·rw [if_pos h', if_pos (by omega)]
  ·rw [if_neg h', if_neg (by omega)]; omega
theorem keptZ_zero {r : Int} (hr : 0 ≤ r) : keptZ r 0 = r := by
 unfold keptZ
 by_cases h : (0 : Int) ≥ r
 ·rw [if_pos h]; omega
 ·rw [if_neg h]; omega
theorem keptZ_nonneg {r s : Int} : 0 ≤ keptZ r s := by
 unfold keptZ
 by_cases h : s ≥ r
 ·rw [if_pos h]; exact Int.le_refl 0
 ·rw [if_neg h]; omega
theorem keptZ_le {r s : Int} (hr : 0 ≤ r) (hs : 0 ≤ s) : keptZ r s ≤ r := by
 unfold keptZ
 by_cases h : s ≥ r
 ·rw [if_pos h]; exact hr
 ·rw [if_neg h]; omega
section
variable {n : Nat} {p : PayT}
theorem gB_le (h : May n p) (i : Nat) : -1099511627776 ≤ gB i p ∧ gB i p ≤ 1099511627776 := by
 have h1 := h.a1; have h2 := h.a2; have h3 := h.ne
 unfold gB
 by_cases e : p.2.2.1 = i
 ·rw [if_pos e, if_neg (by omega)]; omega
 ·rw [if_neg e]
  by_cases e' : p.2.1 = i
  ·rw [if_pos e']; omega
  ·rw [if_neg e']; omega
theorem gS_le (h : May n p) (i j : Nat) : 0 ≤ gS i j p ∧ gS i j p ≤ 1099511627776 := by
 have h1 := h.a1; have h2 := h.a2
 unfold gS
 by_cases e : p.2.1 = i ∧ p.2.2.1 = j
 ·rw [if_pos e]; omega
 ·rw [if_neg e]; omega
theorem gR_le (h : May n p) (i : Nat) : 0 ≤ gR i p ∧ gR i p ≤ 1099511627776 := by
 have h1 := h.a1; have h2 := h.a2
 unfold gR
 by_cases e : p.2.1 = i ∧ p.2.2.2.2.1 ≠ 3
 ·rw [if_pos e]; omega
 ·rw [if_neg e]; omega
end
def Row (n : Nat) (l : List PayT) : Prop := (∀ p ∈ l, May n p) ∧ l.length ≤ 64
theorem sum_gB {n : Nat} {l : List PayT} (h : Row n l) (i : Nat) : -70368744177664 ≤ sumL (gB i) l ∧ sumL (gB i) l ≤ 70368744177664 := by
 have h1 := sumL_le (g := gB i) (A := 1099511627776) fun p hp => gB_le (h.1 p hp) i
 have h2 := h.2
 have h3 : (l.length : Int) * 1099511627776 ≤ 70368744177664 := by omega
 omega
theorem sum_gS {n : Nat} {l : List PayT} (h : Row n l) (i j : Nat) : 0 ≤ sumL (gS i j) l ∧ sumL (gS i j) l ≤ 70368744177664 := by
 have h1 := sumL_le (g := gS i j) (A := 1099511627776) fun p hp => by have := gS_le (h.1 p hp) i j; omega
 have h0 := sumL_nonneg (g := gS i j) fun p hp => (gS_le (h.1 p hp) i j).1
 have h2 := h.2
 have h3 : (l.length : Int) * 1099511627776 ≤ 70368744177664 := by omega
 omega
theorem sum_gR {n : Nat} {l : List PayT} (h : Row n l) (i : Nat) : 0 ≤ sumL (gR i) l ∧ sumL (gR i) l ≤ 70368744177664 := by
 have h1 := sumL_le (g := gR i) (A := 1099511627776) fun p hp => by have := gR_le (h.1 p hp) i; omega
 have h0 := sumL_nonneg (g := gR i) fun p hp => (gR_le (h.1 p hp) i).1
 have h2 := h.2
 have h3 : (l.length : Int) * 1099511627776 ≤ 70368744177664 := by omega
 omega
theorem Row.take {n : Nat} {l : List PayT} (h : Row n l) (i : Nat) : Row n (l.take i) := ⟨fun p hp => h.1 p (List.mem_of_mem_take hp), by rw [List.length_take]; have := h.2; omega⟩
structure Posted (n : Nat) (a : List Acc) (p : List (List Int)) (l : List PayT) (a' : List Acc) (p' : List (List Int)) : Prop where
 al : a'.length = n
 acct : ∀ i, i < n → a'.getD i ad = ((a.getD i ad).1 + sumL (gB i) l, (a.getD i ad).2.1, keptZ (a.getD i ad).2.2 (sumL (gR i) l))
 pl : p'.length = n
 pr : ∀ i, i < n → (p'.getD i []).length = n
 cell : ∀ i, i < n → ∀ j, j < n → cell p' i j = cell p i j + sumL (gS i j) l - sumL (gS j i) l
theorem mat_ext {n : Nat} {p q : List (List Int)} (hp : p.length = n) (hq : q.length = n) (hpr : ∀ i, i < n → (p.getD i []).length = n) (hqr : ∀ i, i < n → (q.getD i []).length = n) (h : ∀ i, i < n → ∀ j, j < n → cell p i j = cell q i j) : p = q :=
 ext_getD [] (by omega) fun i hi => ext_getD 0 (by rw [hpr i (by omega), hqr i (by omega)]) fun j hj => h i (by omega) j (by rw [hpr i (by omega)] at hj; exact hj)
theorem Posted.same {n : Nat} {a a1 a2 : List Acc} {p p1 p2 : List (List Int)} {l : List PayT} (x : Posted n a p l a1 p1) (y : Posted n a p l a2 p2) : a1 = a2 ∧ p1 = p2 :=
 ⟨ext_getD ad (by rw [x.al, y.al]) fun i hi => by have := x.al; rw [x.acct i (by omega), y.acct i (by omega)],
  mat_ext x.pl y.pl x.pr y.pr fun i hi j hj => by rw [x.cell i hi j hj, y.cell i hi j hj]⟩
structure Nums (n : Nat) (a : List Acc) (p : List (List Int)) : Prop where
 al : a.length = n
 pl : p.length = n
 pr : ∀ i, i < n → (p.getD i []).length = n
 bal : ∀ i, i < n → -4611686018427387904 < (a.getD i ad).1 ∧ (a.getD i ad).1 < 4611686018427387904
 res : ∀ i, i < n → 0 ≤ (a.getD i ad).2.2 ∧ (a.getD i ad).2.2 ≤ 2305843009213693952
 net : ∀ i, i < n → ∀ j, j < n → -72057594037927936 < cell p i j ∧ cell p i j < 72057594037927936
theorem Books.nums {a : List Acc} {b : List (List Int)} {m : List Int} {p : List (List Int)} (h : Books a b m p) : Nums a.length a p where
 al := rfl
 pl := h.pl
 pr := h.pr
 bal := fun i hi => by
  have := h.acct i hi
  show -4611686018427387904 < (a.getD i (0, 0, 0)).1 ∧ (a.getD i (0, 0, 0)).1 < 4611686018427387904
  simp only [acctB, Bool.and_eq_true, decide_eq_true_eq] at this
  omega
 res := fun i hi => by
  have := h.acct i hi
  show 0 ≤ (a.getD i (0, 0, 0)).2.2 ∧ (a.getD i (0, 0, 0)).2.2 ≤ 2305843009213693952
  simp only [acctB, Bool.and_eq_true, decide_eq_true_eq] at this
  omega
 net := fun i hi j hj => by
  have := h.net i hi j hj
  simp only [netB, Bool.and_eq_true, decide_eq_true_eq] at this
  omega
theorem cell_set {m : List (List Int)} {f t i j : Nat} {x : Int} (hf : f < m.length) (ht : t < (m.getD f []).length) : cell (m.set f ((m.getD f []).set t x)) i j = if i = f ∧ j = t then x else cell m i j := by
 unfold cell
 rw [getD_set]
 by_cases h : f = i
 ·rw [if_pos ⟨h, hf⟩, getD_set]
  by_cases h' : t = j
  ·rw [if_pos ⟨h', ht⟩, if_pos ⟨h.symm, h'.symm⟩]
  ·rw [if_neg (fun e => h' e.1), if_neg (fun e => h' e.2.symm), h]
 ·rw [if_neg (fun e => h e.1), if_neg (fun e => h e.1.symm)]
theorem row_set {n : Nat} {m : List (List Int)} {f t : Nat} {x : Int} (hm : m.length = n) (hr : ∀ i, i < n → (m.getD i []).length = n) (hf : f < n) : ∀ i, i < n → ((m.set f ((m.getD f []).set t x)).getD i []).length = n := by
 intro i hi
 rw [getD_set]
 by_cases h : f = i
 ·rw [if_pos ⟨h, by omega⟩, List.length_set]; exact hr f hf
 ·rw [if_neg (fun e => h e.1)]; exact hr i hi
def stepA (p : PayT) (r : List Acc) : List Acc :=
 let y0 := r.set p.2.1.toNat (w64 ((r.getD p.2.1.toNat ad).1 - p.2.2.2.1), (r.getD p.2.1.toNat ad).2)
 let y1 := y0.set p.2.2.1.toNat (w64 ((y0.getD p.2.2.1.toNat ad).1 + p.2.2.2.1), (y0.getD p.2.2.1.toNat ad).2)
 bif !decide (p.2.2.2.2.1 = 3) then y1.set p.2.1.toNat ((y1.getD p.2.1.toNat ad).1, ((y1.getD p.2.1.toNat ad).2.1, maxI false (w64 ((y1.getD p.2.1.toNat ad).2.2 - p.2.2.2.1)) 0)) else y1
def stepP (p : PayT) (m : List (List Int)) : List (List Int) :=
 let y3 := m.set p.2.1.toNat ((m.getD p.2.1.toNat []).set p.2.2.1.toNat (w64 ((m.getD p.2.1.toNat []).getD p.2.2.1.toNat 0 + p.2.2.2.1)))
 y3.set p.2.2.1.toNat ((y3.getD p.2.2.1.toNat []).set p.2.1.toNat (w64 ((y3.getD p.2.2.1.toNat []).getD p.2.1.toNat 0 - p.2.2.2.1)))
theorem stepA_length (p : PayT) (r : List Acc) : (stepA p r).length = r.length := by
 unfold stepA
 cases decide (p.2.2.2.2.1 = 3) <;> simp
theorem stepA_get {n : Nat} {p : PayT} (h : May n p) {r : List Acc} (hr : r.length = n) {i : Nat} (hi : i < n) (hb : ∀ i, i < n → -4611826755915743232 < (r.getD i ad).1 ∧ (r.getD i ad).1 < 4611826755915743232)
  (hz : ∀ i, i < n → 0 ≤ (r.getD i ad).2.2 ∧ (r.getD i ad).2.2 ≤ 2305843009213693952) : (stepA p r).getD i ad = ((r.getD i ad).1 + gB i p, (r.getD i ad).2.1, keptZ (r.getD i ad).2.2 (gR i p)) := by
 obtain ⟨f0, f1, t0, t1, ne, a1, a2, c1, c3⟩ := h
 obtain ⟨f, hf⟩ : ∃ f : Nat, p.2.1 = f := ⟨p.2.1.toNat, by omega⟩
 obtain ⟨t, ht⟩ : ∃ t : Nat, p.2.2.1 = t := ⟨p.2.2.1.toNat, by omega⟩
 have hft : f ≠ t := by omega
 have hfn : f < n := by omega
 have htn : t < n := by omega
 have bf := hb f hfn
 have bt := hb t htn
 have zf := hz f hfn
 have e1 : (r.set f (w64 ((r.getD f ad).1 - p.2.2.2.1), (r.getD f ad).2)).getD t ad = r.getD t ad := by rw [getD_set, if_neg (fun e => hft e.1)]
 have key : ∀ j, j < n → ((r.set f (w64 ((r.getD f ad).1 - p.2.2.2.1), (r.getD f ad).2)).set t (w64 ((r.getD t ad).1 + p.2.2.2.1), (r.getD t ad).2)).getD j ad = ((r.getD j ad).1 + gB j p, (r.getD j ad).2) := by
  intro j hj
  unfold gB
  rw [hf, ht, getD_set]
  by_cases hjt : t = j
  ·subst hjt
   rw [if_pos ⟨rfl, by rw [List.length_set]; omega⟩, if_pos rfl, if_neg (by omega), w64_id (by omega) (by omega)]
   simp
  ·rw [if_neg (fun e => hjt e.1), if_neg (by omega), getD_set]
   by_cases hjf : f = j
   ·subst hjf
    rw [if_pos ⟨rfl, by omega⟩, if_pos rfl, w64_id (by omega) (by omega)]
    simp only [Int.zero_sub]; rfl
   ·rw [if_neg (fun e => hjf e.1), if_neg (by omega)]
    simp
 unfold stepA
 simp only [hf, ht, Int.toNat_natCast, e1]
 unfold gR
 cases hc : decide (p.2.2.2.2.1 = 3) with
 | true =>
  have hc' : p.2.2.2.2.1 = 3 := by simpa using hc
  simp only [Bool.not_true, cond_false]
  rw [key i hi, if_neg (fun e => e.2 hc'), keptZ_zero (hz i hi).1]
 | false =>
  have hc' : p.2.2.2.2.1 ≠ 3 := by simpa using hc
  simp only [Bool.not_false, cond_true]
  rw [getD_set]
  by_cases hif : f = i
  ·subst hif
   rw [if_pos ⟨rfl, by simp only [List.length_set]; omega⟩, key f hfn, if_pos ⟨hf, hc'⟩]
   have : maxI false (w64 ((r.getD f ad).2.2 - p.2.2.2.1)) 0 = keptZ (r.getD f ad).2.2 p.2.2.2.1 := by
    rw [w64_id (by omega) (by omega)]
    unfold maxI keptZ
    simp only [cond_false]
    by_cases h : p.2.2.2.1 ≥ (r.getD f ad).2.2
    ·rw [if_pos h]
     by_cases h' : (0 : Int) > (r.getD f ad).2.2 - p.2.2.2.1
     ·rw [decide_eq_true h']; rfl
     ·rw [decide_eq_false h']
      show (r.getD f ad).2.2 - p.2.2.2.1 = 0
      omega
    ·rw [if_neg h, decide_eq_false (by omega)]; rfl
   rw [this]
  ·rw [if_neg (fun e => hif e.1), key i hi, if_neg (by omega), keptZ_zero (hz i hi).1]
theorem stepP_get {n : Nat} {p : PayT} (h : May n p) {m : List (List Int)} (hm : m.length = n) (hr : ∀ i, i < n → (m.getD i []).length = n) (hb : ∀ i, i < n → ∀ j, j < n → -72128000000000000 < cell m i j ∧ cell m i j < 72128000000000000) :
  (stepP p m).length = n ∧ (∀ i, i < n → ((stepP p m).getD i []).length = n) ∧ ∀ i, i < n → ∀ j, j < n → cell (stepP p m) i j = cell m i j + gS i j p - gS j i p := by
 obtain ⟨f0, f1, t0, t1, ne, a1, a2, c1, c3⟩ := h
 obtain ⟨f, hf⟩ : ∃ f : Nat, p.2.1 = f := ⟨p.2.1.toNat, by omega⟩
 obtain ⟨t, ht⟩ : ∃ t : Nat, p.2.2.1 = t := ⟨p.2.2.1.toNat, by omega⟩
 have hft : f ≠ t := by omega
 have hfn : f < n := by omega
 have htn : t < n := by omega
 unfold stepP
 simp only [hf, ht, Int.toNat_natCast]
 have r1 := row_set (x := w64 ((m.getD f []).getD t 0 + p.2.2.2.1)) (t := t) hm hr hfn
 have c1 : ∀ i j, cell (m.set f ((m.getD f []).set t (w64 ((m.getD f []).getD t 0 + p.2.2.2.1)))) i j = if i = f ∧ j = t then w64 (cell m f t + p.2.2.2.1) else cell m i j := fun i j => cell_set (by omega) (by rw [hr f hfn]; omega)
 refine ⟨by simp only [List.length_set]; exact hm, row_set (by rw [List.length_set]; exact hm) r1 htn, fun i hi j hj => ?_⟩
 rw [cell_set (by rw [List.length_set]; omega) (by rw [r1 t htn]; omega)]
 have e2 : ((m.set f ((m.getD f []).set t (w64 ((m.getD f []).getD t 0 + p.2.2.2.1)))).getD t []).getD f 0 = cell m t f := by
  show cell _ t f = _
  rw [c1, if_neg (fun e => hft e.1.symm)]
 rw [e2, c1]
 unfold gS
 rw [hf, ht]
 have b1 := hb f hfn t htn
 have b2 := hb t htn f hfn
 by_cases h1 : i = t ∧ j = f
 ·obtain ⟨rfl, rfl⟩ := h1
  rw [if_pos ⟨rfl, rfl⟩, if_neg (by omega), if_pos ⟨rfl, rfl⟩, w64_id (by omega) (by omega)]
  omega
 ·rw [if_neg h1]
  by_cases h2 : i = f ∧ j = t
  ·obtain ⟨rfl, rfl⟩ := h2
   rw [if_pos ⟨rfl, rfl⟩, if_pos ⟨rfl, rfl⟩, if_neg (by omega), w64_id (by omega) (by omega)]
   omega
  ·rw [if_neg h2, if_neg (by omega), if_neg (by omega)]
   omega
theorem post_Post_L0_eq {k n : Nat} {a : List Acc} {b : List (List Int)} {m : List Int} {p : List (List Int)} {l : List PayT} (hk : l.length < k) (hx : Nums n a p) (hl : Row n l) (b0 : List Acc) (b1 : List (List Int)) (b2 : List Int) (b3 : List (List Int)) :
  ∃ a' p', post_Post_L0 k k l l.length 0 b0 b1 b2 b3 a b m p = some (b0, b1, b2, b3, a', b, m, p') ∧ Posted n a p l a' p' := by
 have := carryE0 (L := fun c i (s : List Acc × List (List Int)) => post_Post_L0 k c l l.length i b0 b1 b2 b3 s.1 b m s.2) (N := l.length) (fun s => (b0, b1, b2, b3, s.1, b, m, s.2)) (fun i s => Posted n a p (l.take i) s.1 s.2) (fun c s hs => by
   show post_Post_L0b k _ l l.length l.length b0 b1 b2 b3 s.1 b m s.2 = _
   unfold post_Post_L0b
   simp only [dec_lt, decide_eq_false (Nat.lt_irrefl _), cond_false]) (fun c i s hi hs => by
   refine ⟨(stepA (l.getD i pd) s.1, stepP (l.getD i pd) s.2), ?_, ?_⟩
   ·show post_Post_L0b k _ l l.length i b0 b1 b2 b3 s.1 b m s.2 = _
    have hmay : May n (l.getD i pd) := hl.1 _ (getD_mem hi)
    unfold post_Post_L0b stepA stepP
    have hl64 := hl.2
    simp only [boundOk_nat, w64_succ hi (show l.length < 9223372036854775808 by omega), dec_lt, Int.toNat_natCast, decide_eq_true hi, cond_true]
    obtain ⟨f0, f1, t0, t1, ne, a1, a2, c1, c3⟩ := hmay
    obtain ⟨f, hf⟩ : ∃ f : Nat, (l.getD i pd).2.1 = f := ⟨(l.getD i pd).2.1.toNat, by omega⟩
    obtain ⟨t, ht⟩ : ∃ t : Nat, (l.getD i pd).2.2.1 = t := ⟨(l.getD i pd).2.2.1.toNat, by omega⟩
    have hfn : f < n := by omega
    have htn : t < n := by omega
    have r1 := row_set (x := w64 ((s.2.getD f []).getD t 0 + (l.getD i pd).2.2.2.1)) (t := t) hs.pl hs.pr hfn
    simp only [hf, ht, Int.toNat_natCast, boundOk_nat, hs.al, hs.pl, List.length_set, hs.pr f hfn, r1 t htn, decide_eq_true hfn, decide_eq_true htn, cond_true, acct_Kept, Option.bind_some]
    cases decide ((l.getD i pd).2.2.2.2.1 = 3) <;> rfl
   ·have hmay : May n (l.getD i pd) := hl.1 _ (getD_mem hi)
    have hrow := hl.take i
    have hp := stepP_get hmay hs.pl hs.pr (fun i' hi' j' hj' => by
     rw [hs.cell i' hi' j' hj']
     have h1 := hx.net i' hi' j' hj'
     have h2 := sum_gS hrow i' j'
     have h3 := sum_gS hrow j' i'
     omega)
    refine ⟨by rw [stepA_length]; exact hs.al, fun i' hi' => ?_, hp.1, hp.2.1, fun i' hi' j' hj' => ?_⟩
    ·rw [stepA_get hmay hs.al hi' (fun j hj => by
       rw [hs.acct j hj]
       have h1 := hx.bal j hj
       have h2 := sum_gB hrow j
       dsimp only
       omega) (fun j hj => by
       rw [hs.acct j hj]
       have h1 := hx.res j hj
       have h2 := sum_gR hrow j
       dsimp only
       exact ⟨keptZ_nonneg, Int.le_trans (keptZ_le h1.1 h2.1) h1.2⟩), hs.acct i' hi', ← take_snoc l i pd hi, sumL_append, sumL_append]
     dsimp only [sumL]
     rw [keptZ_keptZ (sum_gR hrow i').1 (gR_le hmay i').1, Int.add_zero, Int.add_zero, Int.add_assoc]
    ·rw [hp.2.2 i' hi' j' hj', hs.cell i' hi' j' hj', ← take_snoc l i pd hi, sumL_append, sumL_append]
     dsimp only [sumL]
     omega) (s := (a, p)) hk ⟨hx.al, fun i hi => by
      rw [List.take_zero]
      show a.getD i ad = ((a.getD i ad).1 + 0, (a.getD i ad).2.1, keptZ (a.getD i ad).2.2 0)
      rw [keptZ_zero (hx.res i hi).1, Int.add_zero], hx.pl, hx.pr, fun i hi j hj => by
      rw [List.take_zero]
      show cell p i j = cell p i j + 0 - 0
      omega⟩
 obtain ⟨s, h1, h2⟩ := this
 rw [List.take_of_length_le (Nat.le_refl _)] at h2
 exact ⟨s.1, s.2, h1, h2⟩
theorem giroref15_sent_eq {k n : Nat} {l : List PayT} (hk : l.length < k) (hl : Row n l) (i j : Nat) : giroref15_sent k l i j = some (sumL (gS i j) l) := by
 have hl64 := hl.2
 obtain ⟨s, h1, h2⟩ := carryE0 (L := fun c x (s : Int) => giroref15_sent_L0 k c l i j s x) (N := l.length) (fun s => s) (fun x s => s = sumL (gS i j) (l.take x)) (fun c s hs => by
   show giroref15_sent_L0b k _ l i j s l.length = _
   unfold giroref15_sent_L0b
   simp only [dec_lt, decide_eq_false (Nat.lt_irrefl _), cond_false]) (fun c x s hx hs => by
   refine ⟨sumL (gS i j) (l.take (x + 1)), ?_, rfl⟩
   show giroref15_sent_L0b k _ l i j s x = _
   have hb := sum_gS (hl.take x) i j
   have hm : May n (l.getD x pd) := hl.1 _ (getD_mem hx)
   have hg := gS_le hm i j
   have e : sumL (gS i j) (l.take (x + 1)) = s + gS i j (l.getD x pd) := by
    rw [← take_snoc l x pd hx, sumL_append, hs]
    show _ + (_ + 0) = _
    omega
   have w := w64_id (x := s + (l.getD x pd).2.2.2.1) (by have := hm.a1; rw [hs]; omega) (by have := hm.a2; rw [hs]; omega)
   unfold giroref15_sent_L0b
   simp only [boundOk_nat, w64_succ hx (show l.length < 9223372036854775808 by omega), dec_lt, Int.toNat_natCast, decide_eq_true hx, cond_true]
   rw [e]
   unfold gS
   by_cases c1 : (l.getD x pd).2.1 = (i : Int)
   ·rw [decide_eq_true c1]
    by_cases c2 : (l.getD x pd).2.2.1 = (j : Int)
    ·rw [decide_eq_true c2, if_pos ⟨c1, c2⟩, w]; rfl
    ·rw [decide_eq_false c2, if_neg (fun e => c2 e.2), Int.add_zero]; rfl
   ·rw [decide_eq_false c1, if_neg (fun e => c1 e.1), Int.add_zero]; rfl) (s := 0) hk rfl
 unfold giroref15_sent
 rw [h1]
 rw [List.take_of_length_le (Nat.le_refl _)] at h2
 rw [h2]
 rfl
theorem giroref15_Sent_eq {k n : Nat} {l : List PayT} (hk : l.length < k) (hl : Row n l) (i j : Nat) : giroref15_Sent k l i j = some (sumL (gS i j) l - sumL (gS j i) l) := by
 unfold giroref15_Sent
 rw [giroref15_sent_eq hk hl i j, giroref15_sent_eq hk hl j i]
 have h1 := sum_gS hl i j
 have h2 := sum_gS hl j i
 simp only [Option.bind_some]
 rw [w64_id (by omega) (by omega)]
def gN (i : Nat) (p : PayT) : Int := if p.2.1 = i ∧ p.2.2.2.2.1 = 3 then p.2.2.2.1 else 0
theorem gN_le {n : Nat} {p : PayT} (h : May n p) (i : Nat) : 0 ≤ gN i p ∧ gN i p ≤ 1099511627776 := by
 have h1 := h.a1; have h2 := h.a2
 unfold gN
 by_cases e : p.2.1 = i ∧ p.2.2.2.2.1 = 3
 ·rw [if_pos e]; omega
 ·rw [if_neg e]; omega
theorem sum_gN {n : Nat} {l : List PayT} (h : Row n l) (i : Nat) : 0 ≤ sumL (gN i) l ∧ sumL (gN i) l ≤ 70368744177664 := by
 have h1 := sumL_le (g := gN i) (A := 1099511627776) fun p hp => by have := gN_le (h.1 p hp) i; omega
 have h0 := sumL_nonneg (g := gN i) fun p hp => (gN_le (h.1 p hp) i).1
 have h2 := h.2
 have h3 : (l.length : Int) * 1099511627776 ≤ 70368744177664 := by omega
 omega
theorem giroref15_classed_eq {k n : Nat} {l : List PayT} (hk : l.length < k) (hl : Row n l) (i : Nat) : giroref15_classed k l i = some (sumL (gN i) l, sumL (gR i) l) := by
 have hl64 := hl.2
 obtain ⟨s, h1, h2⟩ := carryE0 (L := fun c x (s : Int × Int) => giroref15_classed_L0 k c l i s.1 s.2 x) (N := l.length) (fun s => s) (fun x s => s = (sumL (gN i) (l.take x), sumL (gR i) (l.take x))) (fun c s hs => by
   show giroref15_classed_L0b k _ l i s.1 s.2 l.length = _
   unfold giroref15_classed_L0b
   simp only [dec_lt, decide_eq_false (Nat.lt_irrefl _), cond_false]) (fun c x s hx hs => by
   refine ⟨(sumL (gN i) (l.take (x + 1)), sumL (gR i) (l.take (x + 1))), ?_, rfl⟩
   show giroref15_classed_L0b k _ l i s.1 s.2 x = _
   have hb := sum_gN (hl.take x) i
   have hb' := sum_gR (hl.take x) i
   have hm : May n (l.getD x pd) := hl.1 _ (getD_mem hx)
   have e : sumL (gN i) (l.take (x + 1)) = s.1 + gN i (l.getD x pd) := by
    rw [← take_snoc l x pd hx, sumL_append, hs]
    show _ + (_ + 0) = _
    omega
   have e' : sumL (gR i) (l.take (x + 1)) = s.2 + gR i (l.getD x pd) := by
    rw [← take_snoc l x pd hx, sumL_append, hs]
    show _ + (_ + 0) = _
    omega
   have w := w64_id (x := s.1 + (l.getD x pd).2.2.2.1) (by have := hm.a1; rw [hs]; dsimp only; omega) (by have := hm.a2; rw [hs]; dsimp only; omega)
   have w' := w64_id (x := s.2 + (l.getD x pd).2.2.2.1) (by have := hm.a1; rw [hs]; dsimp only; omega) (by have := hm.a2; rw [hs]; dsimp only; omega)
   unfold giroref15_classed_L0b
   simp only [boundOk_nat, w64_succ hx (show l.length < 9223372036854775808 by omega), dec_lt, Int.toNat_natCast, decide_eq_true hx, cond_true]
   rw [e, e']
   unfold gN gR
   by_cases c1 : (l.getD x pd).2.1 = (i : Int)
   ·rw [decide_eq_true c1]
    by_cases c2 : (l.getD x pd).2.2.2.2.1 = 3
    ·rw [decide_eq_true c2, if_pos ⟨c1, c2⟩, if_neg (fun e => e.2 c2), w, Int.add_zero]; rfl
    ·rw [decide_eq_false c2, if_neg (fun e => c2 e.2), if_pos ⟨c1, c2⟩, w', Int.add_zero]; rfl
   ·rw [decide_eq_false c1, if_neg (fun e => c1 e.1), if_neg (fun e => c1 e.1), Int.add_zero, Int.add_zero]; rfl) (s := (0, 0)) hk rfl
 unfold giroref15_classed
 rw [h1]
 rw [List.take_of_length_le (Nat.le_refl _)] at h2
 rw [h2]
 rfl
theorem giroref15_Spent_eq {k n : Nat} {l : List PayT} (hk : l.length < k) (hl : Row n l) (i : Nat) : giroref15_Spent k l i = some (sumL (gR i) l) := by
 unfold giroref15_Spent
 rw [giroref15_classed_eq hk hl i]
 rfl
theorem giroref9_Kept_eq (k : Nat) (b c r s : Int) (h : -9223372036854775808 ≤ r - s) (h' : r < 9223372036854775808) (hs : 0 ≤ s) : giroref9_Kept k b c r s = some (keptZ r s) := by
 unfold giroref9_Kept keptZ
 by_cases e : s ≥ r
 ·rw [decide_eq_true e, if_pos e]; rfl
 ·rw [decide_eq_false e, if_neg e, w64_id h (by omega)]; rfl
theorem sum_row {n : Nat} {l : List PayT} (hl : ∀ p ∈ l, May n p) (i : Nat) (hi : i < n) : sumN (fun j => sumL (gS i j) l - sumL (gS j i) l) n = - sumL (gB i) l := by
 have e1 : sumN (fun j => sumL (gS i j) l - sumL (gS j i) l) n = sumN (fun j => sumL (fun p => gS i j p - gS j i p) l) n := sumN_congr fun j _ => (sumL_sub _ _ l).symm
 rw [e1, sumN_sumL (fun j p => gS i j p - gS j i p)]
 have e2 : ∀ p ∈ l, sumN (fun j => gS i j p - gS j i p) n = 0 - gB i p := by
  intro p hp
  obtain ⟨f0, f1, t0, t1, ne, a1, a2, c1, c3⟩ := hl p hp
  obtain ⟨f, hf⟩ : ∃ f : Nat, p.2.1 = f := ⟨p.2.1.toNat, by omega⟩
  obtain ⟨t, ht⟩ : ∃ t : Nat, p.2.2.1 = t := ⟨p.2.2.1.toNat, by omega⟩
  have g1 : ∀ j, gS i j p - gS j i p = (if j = t then (if f = i then p.2.2.2.1 else 0) else 0) + (if j = f then (if t = i then -p.2.2.2.1 else 0) else 0) := by
   intro j
   unfold gS
   rw [hf, ht]
   by_cases a : f = i <;> by_cases b : t = i <;> by_cases c : j = t <;> by_cases d : j = f <;> (repeat (first | rw [if_pos (by omega)] | rw [if_neg (by omega)])) <;> omega
  rw [sumN_congr fun j _ => g1 j, sumN_add, sumN_one, sumN_one]
  unfold gB
  rw [hf, ht]
  by_cases a : f = i <;> by_cases b : t = i <;> (repeat (first | rw [if_pos (by omega)] | rw [if_neg (by omega)])) <;> omega
 rw [sumL_congr e2, sumL_sub]
 have : sumL (fun _ : PayT => (0 : Int)) l = 0 := by
  clear e1 e2 hl
  induction l with
  | nil => rfl
  | cons p l ih => show 0 + sumL _ l = 0; rw [ih]; rfl
 rw [this]; omega
structure Stage (n : Nat) (a : List Acc) (p : List (List Int)) (l : List PayT) (i : Nat) (a' : List Acc) (p' : List (List Int)) : Prop where
 al : a'.length = n
 done : ∀ x, x < n → x < i → a'.getD x ad = ((a.getD x ad).1 + sumL (gB x) l, (a.getD x ad).2.1, keptZ (a.getD x ad).2.2 (sumL (gR x) l))
 rest : ∀ x, x < n → ¬ x < i → a'.getD x ad = a.getD x ad
 pl : p'.length = n
 pr : ∀ x, x < n → (p'.getD x []).length = n
 cell : ∀ x, x < n → ∀ y, y < n → cell p' x y = if x < i then cell p x y + sumL (gS x y) l - sumL (gS y x) l else cell p x y
structure Half (n : Nat) (a : List Acc) (p : List (List Int)) (l : List PayT) (i j : Nat) (a' : List Acc) (p' : List (List Int)) : Prop where
 al : a'.length = n
 done : ∀ x, x < n → x < i → a'.getD x ad = ((a.getD x ad).1 + sumL (gB x) l, (a.getD x ad).2.1, keptZ (a.getD x ad).2.2 (sumL (gR x) l))
 here : a'.getD i ad = ((a.getD i ad).1 - sumN (fun j => sumL (gS i j) l - sumL (gS j i) l) j, (a.getD i ad).2.1, keptZ (a.getD i ad).2.2 (sumL (gR i) l))
 rest : ∀ x, x < n → i < x → a'.getD x ad = a.getD x ad
 pl : p'.length = n
 pr : ∀ x, x < n → (p'.getD x []).length = n
 cell : ∀ x, x < n → ∀ y, y < n → cell p' x y = if x < i ∨ (x = i ∧ y < j) then cell p x y + sumL (gS x y) l - sumL (gS y x) l else cell p x y
theorem giroref16_Post_L1_eq {k n : Nat} {a : List Acc} {p : List (List Int)} {l : List PayT} (hk : n < k) (hkl : l.length < k) (hn : n ≤ 1000) (hx : Nums n a p) (hl : Row n l) {i : Nat} (hi : i < n) (b0 : List Acc) (b1 : List (List Int)) (b2 : List Int) (b3 : List (List Int)) (b : List (List Int)) (m : List Int)
  {a0 : List Acc} {p0 : List (List Int)} (h0 : Half n a p l i 0 a0 p0) : ∃ a' p', giroref16_Post_L1 k k l i 0 b0 b1 b2 b3 a0 b m p0 = some (l, (i : Int), b0, b1, b2, b3, a', b, m, p') ∧ Half n a p l i n a' p' := by
 obtain ⟨s, h1, h2⟩ := carryE0 (L := fun c j (s : List Acc × List (List Int)) => giroref16_Post_L1 k c l i j b0 b1 b2 b3 s.1 b m s.2) (N := n) (fun s => (l, (i : Int), b0, b1, b2, b3, s.1, b, m, s.2)) (fun j s => Half n a p l i j s.1 s.2) (fun c s hs => by
   show giroref16_Post_L1b k _ l i n b0 b1 b2 b3 s.1 b m s.2 = _
   unfold giroref16_Post_L1b
   simp only [dec_lt, hs.al, decide_eq_false (Nat.lt_irrefl _), cond_false]) (fun c j s hj hs => by
   refine ⟨(s.1.set i (w64 ((s.1.getD i ad).1 - (sumL (gS i j) l - sumL (gS j i) l)), (s.1.getD i ad).2), s.2.set i ((s.2.getD i []).set j (w64 ((s.2.getD i []).getD j 0 + (sumL (gS i j) l - sumL (gS j i) l))))), ?_, ?_⟩
   ·show giroref16_Post_L1b k _ l i j b0 b1 b2 b3 s.1 b m s.2 = _
    unfold giroref16_Post_L1b
    simp only [boundOk_nat, w64_succ hj (show n < 9223372036854775808 by omega), dec_lt, Int.toNat_natCast, hs.al, hs.pl, hs.pr i hi, decide_eq_true hi, decide_eq_true hj, cond_true, giroref15_Sent_eq hkl hl, Option.bind_some]
   ·have hb := hx.bal i hi
    have hg : ∀ j, -70368744177664 ≤ sumL (gS i j) l - sumL (gS j i) l ∧ sumL (gS i j) l - sumL (gS j i) l ≤ 70368744177664 := fun j => by
     have h1 := sum_gS hl i j
     have h2 := sum_gS hl j i
     omega
    have hs1 := sumN_le hg j
    have hs2 := hg j
    have hj1 : (j : Int) * 70368744177664 ≤ 1000 * 70368744177664 := by omega
    have hnet := hx.net i hi j hj
    have hc := hs.cell i hi j hj
    rw [if_neg (by omega)] at hc
    refine ⟨by simp only [List.length_set]; exact hs.al, fun x hxn hxi => ?_, ?_, fun x hxn hxi => ?_, by simp only [List.length_set]; exact hs.pl, row_set hs.pl hs.pr hi, fun x hxn y hyn => ?_⟩
    ·rw [getD_set, if_neg (fun e => by omega)]
     exact hs.done x hxn hxi
    ·rw [getD_set, if_pos ⟨rfl, by rw [hs.al]; exact hi⟩, hs.here]
     dsimp only
     rw [w64_id (by omega) (by omega)]
     show (_, _) = ((a.getD i ad).1 - (sumN _ j + _), _)
     rw [Int.sub_sub]
    ·rw [getD_set, if_neg (fun e => by omega)]
     exact hs.rest x hxn hxi
    ·have e : (s.2.getD i []).getD j 0 = cell p i j := hc
     rw [cell_set (by rw [hs.pl]; exact hi) (by rw [hs.pr i hi]; exact hj), e]
     by_cases hxy : x = i ∧ y = j
     ·obtain ⟨rfl, rfl⟩ := hxy
      rw [if_pos ⟨rfl, rfl⟩, if_pos (by omega), w64_id (by omega) (by omega)]
      omega
     ·rw [if_neg hxy, hs.cell x hxn y hyn]
      by_cases h : x < i ∨ (x = i ∧ y < j)
      ·rw [if_pos h, if_pos (by omega)]
      ·rw [if_neg h, if_neg (by omega)]) (s := (a0, p0)) hk h0
 exact ⟨s.1, s.2, h1, h2⟩
theorem giroref16_Post_L0_eq {k n : Nat} {a : List Acc} {b : List (List Int)} {m : List Int} {p : List (List Int)} {l : List PayT} (hk : n < k) (hkl : l.length < k) (hn : n ≤ 1000) (hx : Nums n a p) (hl : Row n l) (b0 : List Acc) (b1 : List (List Int)) (b2 : List Int) (b3 : List (List Int)) :
  ∃ a' p', giroref16_Post_L0 k k l 0 b0 b1 b2 b3 a b m p = some (b0, b1, b2, b3, a', b, m, p') ∧ Posted n a p l a' p' := by
 obtain ⟨s, h1, h2⟩ := carryE0 (L := fun c i (s : List Acc × List (List Int)) => giroref16_Post_L0 k c l i b0 b1 b2 b3 s.1 b m s.2) (N := n) (fun s => (b0, b1, b2, b3, s.1, b, m, s.2)) (fun i s => Stage n a p l i s.1 s.2) (fun c s hs => by
   show giroref16_Post_L0b k _ l n b0 b1 b2 b3 s.1 b m s.2 = _
   unfold giroref16_Post_L0b
   simp only [dec_lt, hs.al, decide_eq_false (Nat.lt_irrefl _), cond_false]) (fun c i s hi hs => by
   have hai := hs.rest i hi (Nat.lt_irrefl i)
   have hr := hx.res i hi
   have hsp := sum_gR hl i
   obtain ⟨a', p', h1, h2⟩ := giroref16_Post_L1_eq (a0 := s.1.set i ((s.1.getD i ad).1, ((s.1.getD i ad).2.1, keptZ (s.1.getD i ad).2.2 (sumL (gR i) l)))) (p0 := s.2) hk hkl hn hx hl hi b0 b1 b2 b3 b m ⟨by rw [List.length_set]; exact hs.al, fun x hxn hxi => by
     rw [getD_set, if_neg (fun e => by omega)]; exact hs.done x hxn hxi, by
     rw [getD_set, if_pos ⟨rfl, by rw [hs.al]; exact hi⟩, hai]
     show _ = ((a.getD i ad).1 - 0, _, _)
     rw [Int.sub_zero], fun x hxn hxi => by
     rw [getD_set, if_neg (fun e => by omega)]; exact hs.rest x hxn (by omega), hs.pl, hs.pr, fun x hxn y hyn => by
     rw [hs.cell x hxn y hyn]
     by_cases h : x < i
     ·rw [if_pos h, if_pos (.inl h)]
     ·rw [if_neg h, if_neg (by omega)]⟩
   refine ⟨(a', p'), ?_, ?_⟩
   ·show giroref16_Post_L0b k _ l i b0 b1 b2 b3 s.1 b m s.2 = _
    unfold giroref16_Post_L0b
    have hK := giroref9_Kept_eq k (s.1.getD i ad).1 (s.1.getD i ad).2.1 (s.1.getD i ad).2.2 (sumL (gR i) l) (by rw [hai]; omega) (by rw [hai]; omega) hsp.1
    simp only [boundOk_nat, dec_lt, Int.toNat_natCast, hs.al, decide_eq_true hi, cond_true, giroref15_Spent_eq hkl hl, Option.bind_some]
    rw [hK]
    simp only [Option.bind_some]
    rw [h1]
    simp only [Option.bind_some, w64_succ hi (show n < 9223372036854775808 by omega)]
   ·refine ⟨h2.al, fun x hxn hxi => ?_, fun x hxn hxi => h2.rest x hxn (by omega), h2.pl, h2.pr, fun x hxn y hyn => ?_⟩
    ·by_cases h : x < i
     ·exact h2.done x hxn h
     ·have : x = i := by omega
      subst this
      rw [h2.here, sum_row hl.1 x hxn]
      rw [Int.sub_neg]
    ·rw [h2.cell x hxn y hyn]
     by_cases h : x < i + 1
     ·rw [if_pos (by omega), if_pos h]
     ·rw [if_neg (by omega), if_neg h]) (s := (a, p)) hk ⟨hx.al, fun x _ h => absurd h (Nat.not_lt_zero x), fun x _ _ => rfl, hx.pl, hx.pr, fun x _ y _ => by rw [if_neg (Nat.not_lt_zero x)]⟩
 exact ⟨s.1, s.2, h1, h2.al, fun i hi => h2.done i hi hi, h2.pl, h2.pr, fun i hi j hj => by rw [h2.cell i hi j hj, if_pos hi]⟩
def PostIs (a : List Acc) (b : List (List Int)) (m : List Int) (p : List (List Int)) (l : List PayT) (r : List Acc × List (List Int) × List Int × List (List Int) × Int) : Prop :=
 (Row a.length l → ∃ a' p', Posted a.length a p l a' p' ∧ r = (bif isB a' b m p' then (a', b, m, p', 0) else (a, b, m, p, 8))) ∧ (¬ Row a.length l → r = (a, b, m, p, 1))
theorem post_Post_eq {k : Nat} (hk : 100 < k) {a : List Acc} {b : List (List Int)} {m : List Int} {p : List (List Int)} {l : List PayT} (h : Books a b m p) (hl : l.length ≤ 80) : ∃ r, post_Post k a b m p l = some r ∧ PostIs a b m p l r := by
 unfold post_Post PostIs
 have e : decide (((l.length : Nat) : Int) > 64) = decide (¬ l.length ≤ 64) := by
  by_cases h : l.length ≤ 64
  ·rw [decide_eq_false (by omega), decide_eq_false (by omega)]
  ·rw [decide_eq_true (by omega), decide_eq_true (by omega)]
 rw [e]
 by_cases h64 : l.length ≤ 64
 case neg =>
  rw [decide_eq_true h64]
  exact ⟨_, rfl, fun e => absurd e.2 h64, fun _ => rfl⟩
 rw [decide_eq_false (by omega), contains_pay (by omega) (by omega)]
 simp only [cond_false, Option.bind_some]
 cases hm : allMay a.length l with
 | false =>
  refine ⟨_, rfl, fun e => ?_, fun _ => rfl⟩
  rw [allMay_iff.2 e.1] at hm
  cases hm
 | true =>
  have hrow : Row a.length l := ⟨allMay_iff.1 hm, h64⟩
  simp only [Bool.not_true, cond_false, lim_Copy_eq (show 10 < k by omega) h.toSized, Option.bind_some]
  obtain ⟨a', p', h1, h2⟩ := post_Post_L0_eq (b := b) (m := m) (show l.length < k by omega) h.nums hrow a b m p
  rw [h1]
  simp only [Option.bind_some, lim_Is_eq (show 10 < k by omega)]
  cases hB : isB a' b m p' with
  | true => exact ⟨_, rfl, fun _ => ⟨a', p', h2, by rw [hB]; rfl⟩, fun e => absurd hrow e⟩
  | false => exact ⟨_, rfl, fun _ => ⟨a', p', h2, by rw [hB]; rfl⟩, fun e => absurd hrow e⟩
theorem giroref16_Post_eq {k : Nat} (hk : 100 < k) {a : List Acc} {b : List (List Int)} {m : List Int} {p : List (List Int)} {l : List PayT} (h : Books a b m p) (hl : l.length ≤ 80) : ∃ r, giroref16_Post k a b m p l = some r ∧ PostIs a b m p l r := by
 unfold giroref16_Post PostIs
 rw [giroref15_All_eq (by omega) (by omega)]
 simp only [Option.bind_some]
 cases hm : allMay a.length l with
 | false =>
  refine ⟨_, rfl, fun e => ?_, fun _ => rfl⟩
  rw [allMay_iff.2 e.1] at hm
  cases hm
 | true =>
  by_cases h64 : l.length ≤ 64
  case neg =>
   rw [decide_eq_false h64]
   exact ⟨_, rfl, fun e => absurd e.2 h64, fun _ => rfl⟩
  have hrow : Row a.length l := ⟨allMay_iff.1 hm, h64⟩
  have h6 := h.n6
  rw [decide_eq_true h64]
  simp only [Bool.and_true, Bool.not_true, cond_false, giroref10_Copy_eq (show 10 < k by omega) h.toSized, Option.bind_some]
  obtain ⟨a', p', h1, h2⟩ := giroref16_Post_L0_eq (b := b) (m := m) (show a.length < k by omega) (show l.length < k by omega) (by omega) h.nums hrow a b m p
  rw [h1]
  simp only [Option.bind_some, giroref10_Is_eq (show 10 < k by omega)]
  cases hB : isB a' b m p' with
  | true => exact ⟨_, rfl, fun _ => ⟨a', p', h2, by rw [hB]; rfl⟩, fun e => absurd hrow e⟩
  | false => exact ⟨_, rfl, fun _ => ⟨a', p', h2, by rw [hB]; rfl⟩, fun e => absurd hrow e⟩
theorem PostIs.same {a : List Acc} {b : List (List Int)} {m : List Int} {p : List (List Int)} {l : List PayT} {r r' : List Acc × List (List Int) × List Int × List (List Int) × Int} (h : PostIs a b m p l r) (h' : PostIs a b m p l r') : r = r' := by
 by_cases c : Row a.length l
 ·obtain ⟨a1, p1, x, rfl⟩ := h.1 c
  obtain ⟨a2, p2, y, rfl⟩ := h'.1 c
  obtain ⟨rfl, rfl⟩ := x.same y
  rfl
 ·rw [h.2 c, h'.2 c]
end Go.Ab.Gi
