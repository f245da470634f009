/- part 7 -/
import Derived.Test.YtdhajnjinkknkaaGreatGiXS
import Derived.Test.YtdhajnjinkknkaaGreatGiP0
set_option linter.unusedVariables false
set_option linter.unusedSimpArgs false
set_option linter.unusedSectionVars false
namespace Go.Ab.Gi
open Go.Ab
abbrev Acc := Int × Int × Int
abbrev PayT := Int × Int × Int × Int × Int × Int × Int
def acctB (a : Acc) : Bool := decide (a.1 > -4611686018427387904) && (decide (a.1 < 4611686018427387904) && (decide (a.2.1 ≥ 0) && (decide (a.2.1 ≤ 2305843009213693952) && (decide (a.2.2 ≥ 0) && decide (a.2.2 ≤ 2305843009213693952)))))
def limB (n : Int) : Bool := decide (n ≥ -1) && decide (n ≤ 2305843009213693952)
def netB (n : Int) : Bool := decide (n > -72057594037927936) && decide (n < 72057594037927936)
def cell (m : List (List Int)) (i j : Nat) : Int := (m.getD i []).getD j 0
def sqL (n : Nat) (m : List (List Int)) : Bool := decide (m.length = n) && allF (fun i => decide ((m.getD i []).length = n)) n 0
def cellsB (p : Int → Bool) (n : Nat) (m : List (List Int)) : Bool := allF (fun i => allF (fun j => p (cell m i j)) n 0) n 0
def turnB (n : Nat) (m : List (List Int)) : Bool := allF (fun i => allF (fun j => decide (cell m i j = w64 (0 - cell m j i))) n 0) n 0
def isB (accts : List Acc) (bil : List (List Int)) (mul : List Int) (pos : List (List Int)) : Bool :=
 let n := accts.length
 decide (1 ≤ n) && (decide (n ≤ 6) && (sqL n bil && (sqL n pos && (decide (mul.length = n) && (allF (fun i => acctB (accts.getD i (0, 0, 0))) n 0 && (allF (fun i => limB (mul.getD i 0)) n 0 && (cellsB limB n bil && (cellsB netB n pos && turnB n pos))))))))
theorem giroref9_Is_eq (k : Nat) (b c r : Int) : giroref9_Is k b c r = some (acctB (b, c, r)) := by
 unfold giroref9_Is acctB
 cases decide (b > -4611686018427387904) <;> cases decide (b < 4611686018427387904) <;> cases decide (c ≥ 0) <;> cases decide (c ≤ 2305843009213693952) <;> cases decide (r ≥ 0) <;> rfl
theorem acct_Is_eq (k : Nat) (b c r : Int) : acct_Is k b c r = some (acctB (b, c, r)) := giroref9_Is_eq k b c r
theorem giroref10_limit_eq (k : Nat) (n : Int) : giroref10_limit k n = some (limB n) := by
 unfold giroref10_limit limB
 cases decide (n ≥ -1) <;> rfl
theorem lim_isLimit_eq (k : Nat) (n : Int) : lim_isLimit k n = some (limB n) := giroref10_limit_eq k n
theorem lim_isNet_eq (k : Nat) (n : Int) : lim_isNet k n = some (netB n) := by
 unfold lim_isNet netB
 cases decide (n > -72057594037927936) <;> rfl
theorem giroref10_square_eq {k : Nat} {n : Nat} (hk : n < k) (hn : n ≤ 1000) (m : List (List Int)) : giroref10_square k m n = some (sqL n m) := by
 unfold giroref10_square sqL
 simp only [dec_eq]
 by_cases h : m.length = n
 ·have := scan0 (L := fun c i => giroref10_square_L0 k c m n i) (N := n) (fun i => decide ((m.getD i []).length = n)) (.inl ()) (.inr false) (fun c => by
    show giroref10_square_L0b k _ m n n = _
    unfold giroref10_square_L0b
    simp only [dec_lt, decide_eq_false (Nat.lt_irrefl n), cond_false]) (fun c i hi => by
    show giroref10_square_L0b k _ m n i = _
    unfold giroref10_square_L0b
    simp only [boundOk_nat, w64_succ hi (by omega), dec_lt, dec_eq, Int.toNat_natCast, h, decide_eq_true hi, cond_true]
    cases decide ((m.getD i []).length = n) <;> rfl) hk
  simp only [h, decide_true, Bool.not_true, cond_false, Bool.true_and]
  rw [this]
  generalize allF _ _ _ = r
  cases r <;> rfl
 ·simp only [decide_eq_false h, Bool.not_false, cond_true, Bool.false_and]
theorem giroref10_Is_L1_eq {k : Nat} {N i : Nat} (hk : N < k) (hN : N ≤ 1000) (hi : i < N) {a : List Acc} {b p : List (List Int)} {m : List Int} (hb : b.length = N) (hp : p.length = N) (hbr : ∀ j, j < N → (b.getD j []).length = N) (hpr : ∀ j, j < N → (p.getD j []).length = N) :
  giroref10_Is_L1 k k N i 0 a b m p = some (bif allF (fun j => limB (cell b i j) && (netB (cell p i j) && decide (cell p i j = w64 (0 - cell p j i)))) N 0 then .inl ((N : Int), (i : Int), a, b, m, p) else .inr false) := by
 refine scan0 (L := fun c j => giroref10_Is_L1 k c N i j a b m p) (N := N) _ (.inl ((N : Int), (i : Int), a, b, m, p)) (.inr false) (fun c => ?_) (fun c j hj => ?_) hk
 ·show giroref10_Is_L1b k _ N i N a b m p = _
  unfold giroref10_Is_L1b
  simp only [dec_lt, decide_eq_false (Nat.lt_irrefl N), cond_false]
 ·show giroref10_Is_L1b k _ N i j a b m p = _
  unfold giroref10_Is_L1b
  simp only [boundOk_nat, w64_succ hj (by omega), dec_lt, Int.toNat_natCast, hb, hp, hbr i hi, hpr i hi, hpr j hj, decide_eq_true hj, decide_eq_true hi, cond_true, giroref10_limit_eq, Option.bind_some, netB]
  show (bif !limB (cell b i j) then _ else bif decide (cell p i j ≤ _) then _ else bif decide (cell p i j ≥ _) then _ else bif !decide (cell p i j = _) then _ else _) = _
  have e1 : decide (cell p i j ≤ -72057594037927936) = !decide (cell p i j > -72057594037927936) := by
   by_cases h : cell p i j ≤ -72057594037927936
   ·rw [decide_eq_true h, decide_eq_false (by omega)]; rfl
   ·rw [decide_eq_false h, decide_eq_true (by omega)]; rfl
  have e2 : decide (cell p i j ≥ 72057594037927936) = !decide (cell p i j < 72057594037927936) := by
   by_cases h : cell p i j ≥ 72057594037927936
   ·rw [decide_eq_true h, decide_eq_false (by omega)]; rfl
   ·rw [decide_eq_false h, decide_eq_true (by omega)]; rfl
  rw [e1, e2]
  show (bif !limB (cell b i j) then _ else bif _ then _ else bif _ then _ else bif !decide (cell p i j = w64 (0 - cell p j i)) then _ else _) = _
  cases limB (cell b i j) <;> cases decide (cell p i j > -72057594037927936) <;> cases decide (cell p i j < 72057594037927936) <;> cases decide (cell p i j = w64 (0 - cell p j i)) <;> rfl
theorem giroref10_Is_L0_eq {k : Nat} {N : Nat} (hk : N < k) (hN : N ≤ 1000) {a : List Acc} {b p : List (List Int)} {m : List Int} (ha : a.length = N) (hm : m.length = N) (hb : b.length = N) (hp : p.length = N) (hbr : ∀ j, j < N → (b.getD j []).length = N) (hpr : ∀ j, j < N → (p.getD j []).length = N) :
  giroref10_Is_L0 k k N 0 a b m p = some (bif allF (fun i => acctB (a.getD i (0, 0, 0)) && (limB (m.getD i 0) && allF (fun j => limB (cell b i j) && (netB (cell p i j) && decide (cell p i j = w64 (0 - cell p j i)))) N 0)) N 0 then .inl () else .inr false) := by
 refine scan0 (L := fun c j => giroref10_Is_L0 k c N j a b m p) (N := N) _ (.inl ()) (.inr false) (fun c => ?_) (fun c i hi => ?_) hk
 ·show giroref10_Is_L0b k _ N N a b m p = _
  unfold giroref10_Is_L0b
  simp only [dec_lt, decide_eq_false (Nat.lt_irrefl N), cond_false]
 ·show giroref10_Is_L0b k _ N i a b m p = _
  unfold giroref10_Is_L0b
  simp only [boundOk_nat, dec_lt, Int.toNat_natCast, ha, hm, decide_eq_true hi, cond_true, giroref10_limit_eq, giroref9_Is_eq, Option.bind_some, giroref10_Is_L1_eq hk hN hi hb hp hbr hpr]
  generalize allF _ N 0 = r
  show (bif !acctB (a.getD i (0, 0, 0)) then _ else _) = _
  cases acctB (a.getD i (0, 0, 0)) <;> cases limB (m.getD i 0) <;> cases r <;> simp only [Bool.not_true, Bool.not_false, cond_true, cond_false, Bool.and_true, Bool.and_false, Bool.true_and, Bool.false_and, w64_succ hi (show N < 9223372036854775808 by omega)]
theorem giroref10_Is_eq {k : Nat} (hk : 10 < k) (a : List Acc) (b : List (List Int)) (m : List Int) (p : List (List Int)) : giroref10_Is k a b m p = some (isB a b m p) := by
 unfold giroref10_Is
 have l1 : decide ((a.length : Int) < 1) = !decide (1 ≤ a.length) := by
  by_cases h : 1 ≤ a.length
  ·rw [decide_eq_true h, decide_eq_false (by omega)]; rfl
  ·rw [decide_eq_false h, decide_eq_true (by omega)]; rfl
 have l2 : decide ((a.length : Int) > 6) = !decide (a.length ≤ 6) := by
  by_cases h : a.length ≤ 6
  ·rw [decide_eq_true h, decide_eq_false (by omega)]; rfl
  ·rw [decide_eq_false h, decide_eq_true (by omega)]; rfl
 rw [l1, l2]
 unfold isB
 dsimp only
 by_cases h1 : 1 ≤ a.length
 case neg => rw [decide_eq_false h1]; rfl
 by_cases h2 : a.length ≤ 6
 case neg => rw [decide_eq_true h1, decide_eq_false h2]; rfl
 rw [decide_eq_true h1, decide_eq_true h2]
 simp only [Bool.not_true, cond_false, Bool.true_and]
 rw [giroref10_square_eq (by omega) (by omega), giroref10_square_eq (by omega) (by omega)]
 simp only [Option.bind_some, dec_eq]
 cases hb : sqL a.length b with
 | false => rfl
 | true =>
  cases hp : sqL a.length p with
  | false => rfl
  | true =>
   by_cases hm : m.length = a.length
   case neg => simp only [decide_eq_false hm]; rfl
   simp only [sqL, Bool.and_eq_true, decide_eq_true_eq, allF_zero] at hb hp
   simp only [hm, decide_true, Bool.not_true, cond_false, Bool.true_and]
   rw [giroref10_Is_L0_eq (by omega) (by omega) rfl hm hb.1 hp.1 hb.2 hp.2]
   have e : (allF (fun i => acctB (a.getD i (0, 0, 0))) a.length 0 && (allF (fun i => limB (m.getD i 0)) a.length 0 && (cellsB limB a.length b && (cellsB netB a.length p && turnB a.length p)))) =
     allF (fun i => acctB (a.getD i (0, 0, 0)) && (limB (m.getD i 0) && allF (fun j => limB (cell b i j) && (netB (cell p i j) && decide (cell p i j = w64 (0 - cell p j i)))) a.length 0)) a.length 0 := by
    rw [Bool.eq_iff_iff]
    simp only [cellsB, turnB, Bool.and_eq_true, allF_zero]
    constructor
    ·rintro ⟨h1, h2, h3, h4, h5⟩ i hi
     exact ⟨h1 i hi, h2 i hi, fun j hj => ⟨h3 i hi j hj, h4 i hi j hj, h5 i hi j hj⟩⟩
    ·intro h
     exact ⟨fun i hi => (h i hi).1, fun i hi => (h i hi).2.1, fun i hi j hj => ((h i hi).2.2 j hj).1, fun i hi j hj => ((h i hi).2.2 j hj).2.1, fun i hi j hj => ((h i hi).2.2 j hj).2.2⟩
   rw [e]
   generalize allF _ _ _ = r
   cases r <;> rfl
theorem contains_acct {k : Nat} {a : List Acc} (hk : a.length < k) (hl : a.length < 9223372036854775808) : slices_ContainsFunc_Acct__lim_Is_fn1 k a = some (!allF (fun i => acctB (a.getD i (0, 0, 0))) a.length 0) := by
 obtain ⟨x, h1, h2⟩ := scan_any (L := fun c i => slices_IndexFunc_Acct__lim_Is_fn1_L0 k c a a.length i) (N := a.length) (fun i => !acctB (a.getD i (0, 0, 0))) (fun c => by
  show slices_IndexFunc_Acct__lim_Is_fn1_L0b k _ a a.length a.length = _
  unfold slices_IndexFunc_Acct__lim_Is_fn1_L0b
  simp only [dec_lt, decide_eq_false (Nat.lt_irrefl _), cond_false]) (fun c i hi => by
  show slices_IndexFunc_Acct__lim_Is_fn1_L0b k _ a a.length i = _
  unfold slices_IndexFunc_Acct__lim_Is_fn1_L0b lim_Is_fn1
  simp only [boundOk_nat, w64_succ hi hl, dec_lt, Int.toNat_natCast, decide_eq_true hi, cond_true, acct_Is_eq, Option.bind_some]) hk
 unfold slices_ContainsFunc_Acct__lim_Is_fn1 slices_IndexFunc_Acct__lim_Is_fn1
 rw [h1]
 simp only [Bool.not_not] at h2
 rw [← h2]
 cases x <;> rfl
theorem contains_lim {k : Nat} {a : List Int} (hk : a.length < k) (hl : a.length < 9223372036854775808) : slices_ContainsFunc_int64__lim_isRow_fn1__lim_isLimit k a = some (!allF (fun i => limB (a.getD i 0)) a.length 0) := by
 obtain ⟨x, h1, h2⟩ := scan_any (L := fun c i => slices_IndexFunc_int64__lim_isRow_fn1__lim_isLimit_L0 k c a a.length i) (N := a.length) (fun i => !limB (a.getD i 0)) (fun c => by
  show slices_IndexFunc_int64__lim_isRow_fn1__lim_isLimit_L0b k _ a a.length a.length = _
  unfold slices_IndexFunc_int64__lim_isRow_fn1__lim_isLimit_L0b
  simp only [dec_lt, decide_eq_false (Nat.lt_irrefl _), cond_false]) (fun c i hi => by
  show slices_IndexFunc_int64__lim_isRow_fn1__lim_isLimit_L0b k _ a a.length i = _
  unfold slices_IndexFunc_int64__lim_isRow_fn1__lim_isLimit_L0b lim_isRow_fn1__lim_isLimit
  simp only [boundOk_nat, w64_succ hi hl, dec_lt, Int.toNat_natCast, decide_eq_true hi, cond_true, lim_isLimit_eq, Option.bind_some]) hk
 unfold slices_ContainsFunc_int64__lim_isRow_fn1__lim_isLimit slices_IndexFunc_int64__lim_isRow_fn1__lim_isLimit
 rw [h1]
 simp only [Bool.not_not] at h2
 rw [← h2]
 cases x <;> rfl
theorem contains_net {k : Nat} {a : List Int} (hk : a.length < k) (hl : a.length < 9223372036854775808) : slices_ContainsFunc_int64__lim_isRow_fn1__lim_isNet k a = some (!allF (fun i => netB (a.getD i 0)) a.length 0) := by
 obtain ⟨x, h1, h2⟩ := scan_any (L := fun c i => slices_IndexFunc_int64__lim_isRow_fn1__lim_isNet_L0 k c a a.length i) (N := a.length) (fun i => !netB (a.getD i 0)) (fun c => by
  show slices_IndexFunc_int64__lim_isRow_fn1__lim_isNet_L0b k _ a a.length a.length = _
  unfold slices_IndexFunc_int64__lim_isRow_fn1__lim_isNet_L0b
  simp only [dec_lt, decide_eq_false (Nat.lt_irrefl _), cond_false]) (fun c i hi => by
  show slices_IndexFunc_int64__lim_isRow_fn1__lim_isNet_L0b k _ a a.length i = _
  unfold slices_IndexFunc_int64__lim_isRow_fn1__lim_isNet_L0b lim_isRow_fn1__lim_isNet
  simp only [boundOk_nat, w64_succ hi hl, dec_lt, Int.toNat_natCast, decide_eq_true hi, cond_true, lim_isNet_eq, Option.bind_some]) hk
 unfold slices_ContainsFunc_int64__lim_isRow_fn1__lim_isNet slices_IndexFunc_int64__lim_isRow_fn1__lim_isNet
 rw [h1]
 simp only [Bool.not_not] at h2
 rw [← h2]
 cases x <;> rfl
theorem lim_isRow_lim {k n : Nat} (hk : n < k) (hn : n ≤ 1000) (a : List Int) : lim_isRow__lim_isLimit k a n = some (decide (a.length = n) && allF (fun i => limB (a.getD i 0)) n 0) := by
 unfold lim_isRow__lim_isLimit
 simp only [dec_eq]
 by_cases h : a.length = n
 ·rw [contains_lim (by omega) (by omega)]
  simp only [h, decide_true, cond_true, Option.bind_some, Bool.not_not, Bool.true_and]
 ·simp only [decide_eq_false h, cond_false, Bool.false_and]
theorem lim_isRow_net {k n : Nat} (hk : n < k) (hn : n ≤ 1000) (a : List Int) : lim_isRow__lim_isNet k a n = some (decide (a.length = n) && allF (fun i => netB (a.getD i 0)) n 0) := by
 unfold lim_isRow__lim_isNet
 simp only [dec_eq]
 by_cases h : a.length = n
 ·rw [contains_net (by omega) (by omega)]
  simp only [h, decide_true, cond_true, Option.bind_some, Bool.not_not, Bool.true_and]
 ·simp only [decide_eq_false h, cond_false, Bool.false_and]
theorem lim_isSquare_lim {k n : Nat} (hk : n < k) (hn : n ≤ 1000) (m : List (List Int)) : lim_isSquare__lim_isLimit k m n = some (decide (m.length = n) && allF (fun i => decide ((m.getD i []).length = n) && allF (fun j => limB (cell m i j)) n 0) n 0) := by
 unfold lim_isSquare__lim_isLimit
 simp only [dec_eq]
 by_cases h : m.length = n
 ·have := scan0 (L := fun c i => lim_isSquare__lim_isLimit_L0 k c n m n i) (N := n) (fun i => decide ((m.getD i []).length = n) && allF (fun j => limB (cell m i j)) n 0) (.inl ()) (.inr false) (fun c => by
    show lim_isSquare__lim_isLimit_L0b k _ n m n n = _
    unfold lim_isSquare__lim_isLimit_L0b
    simp only [dec_lt, decide_eq_false (Nat.lt_irrefl n), cond_false]) (fun c i hi => by
    show lim_isSquare__lim_isLimit_L0b k _ n m n i = _
    unfold lim_isSquare__lim_isLimit_L0b
    simp only [boundOk_nat, w64_succ hi (by omega), dec_lt, Int.toNat_natCast, h, decide_eq_true hi, cond_true, lim_isRow_lim hk hn, Option.bind_some]
    show (bif !(decide ((m.getD i []).length = n) && allF (fun j => limB (cell m i j)) n 0) then _ else _) = _
    generalize (decide ((m.getD i []).length = n) && allF (fun j => limB (cell m i j)) n 0) = r
    cases r <;> rfl) hk
  simp only [h, decide_true, Bool.not_true, cond_false, Bool.true_and]
  rw [this]
  generalize allF _ _ _ = r
  cases r <;> rfl
 ·simp only [decide_eq_false h, Bool.not_false, cond_true, Bool.false_and]
theorem lim_isSquare_net {k n : Nat} (hk : n < k) (hn : n ≤ 1000) (m : List (List Int)) : lim_isSquare__lim_isNet k m n = some (decide (m.length = n) && allF (fun i => decide ((m.getD i []).length = n) && allF (fun j => netB (cell m i j)) n 0) n 0) := by
 unfold lim_isSquare__lim_isNet
 simp only [dec_eq]
 by_cases h : m.length = n
 ·have := scan0 (L := fun c i => lim_isSquare__lim_isNet_L0 k c n m n i) (N := n) (fun i => decide ((m.getD i []).length = n) && allF (fun j => netB (cell m i j)) n 0) (.inl ()) (.inr false) (fun c => by
    show lim_isSquare__lim_isNet_L0b k _ n m n n = _
    unfold lim_isSquare__lim_isNet_L0b
    simp only [dec_lt, decide_eq_false (Nat.lt_irrefl n), cond_false]) (fun c i hi => by
    show lim_isSquare__lim_isNet_L0b k _ n m n i = _
    unfold lim_isSquare__lim_isNet_L0b
    simp only [boundOk_nat, w64_succ hi (by omega), dec_lt, Int.toNat_natCast, h, decide_eq_true hi, cond_true, lim_isRow_net hk hn, Option.bind_some]
    show (bif !(decide ((m.getD i []).length = n) && allF (fun j => netB (cell m i j)) n 0) then _ else _) = _
    generalize (decide ((m.getD i []).length = n) && allF (fun j => netB (cell m i j)) n 0) = r
    cases r <;> rfl) hk
  simp only [h, decide_true, Bool.not_true, cond_false, Bool.true_and]
  rw [this]
  generalize allF _ _ _ = r
  cases r <;> rfl
 ·simp only [decide_eq_false h, Bool.not_false, cond_true, Bool.false_and]
theorem lim_isTurned_L1_eq {k N i : Nat} (hk : N < k) (hN : N ≤ 1000) (hi : i < N) {p q : List (List Int)} {u : Int} (hp : p.length = N) (hpr : ∀ j, j < N → (p.getD j []).length = N) :
  lim_isTurned_L1 k k p i q u i (p.getD i []) N 0 = some (bif allF (fun j => decide (cell p j i = w64 (0 - cell p i j))) N 0 then .inl (p, q, u, (i : Int)) else .inr false) := by
 refine scan0 (L := fun c j => lim_isTurned_L1 k c p i q u i (p.getD i []) N j) (N := N) _ (.inl (p, q, u, (i : Int))) (.inr false) (fun c => ?_) (fun c j hj => ?_) hk
 ·show lim_isTurned_L1b k _ p i q u i (p.getD i []) N N = _
  unfold lim_isTurned_L1b
  simp only [dec_lt, decide_eq_false (Nat.lt_irrefl N), cond_false]
 ·show lim_isTurned_L1b k _ p i q u i (p.getD i []) N j = _
  unfold lim_isTurned_L1b
  simp only [boundOk_nat, w64_succ hj (show N < 9223372036854775808 by omega), dec_lt, Int.toNat_natCast, hp, hpr i hi, hpr j hj, decide_eq_true hj, decide_eq_true hi, cond_true]
  show (bif !decide (cell p j i = w64 (0 - cell p i j)) then _ else _) = _
  generalize decide (cell p j i = w64 (0 - cell p i j)) = r
  cases r <;> rfl
theorem lim_isTurned_eq {k N : Nat} (hk : N < k) (hN : N ≤ 1000) {p : List (List Int)} (hp : p.length = N) (hpr : ∀ j, j < N → (p.getD j []).length = N) :
  lim_isTurned k p = some (turnB N p) := by
 have := scan0 (L := fun c i => lim_isTurned_L0 k c p p N i) (N := N) (fun i => allF (fun j => decide (cell p j i = w64 (0 - cell p i j))) N 0) (.inl ()) (.inr false) (fun c => by
   show lim_isTurned_L0b k _ p p N N = _
   unfold lim_isTurned_L0b
   simp only [dec_lt, decide_eq_false (Nat.lt_irrefl N), cond_false]) (fun c i hi => by
   show lim_isTurned_L0b k _ p p N i = _
   unfold lim_isTurned_L0b
   simp only [boundOk_nat, dec_lt, Int.toNat_natCast, hp, hpr i hi, decide_eq_true hi, cond_true, lim_isTurned_L1_eq hk hN hi hp hpr, Option.bind_some]
   generalize allF _ N 0 = r
   cases r <;> simp only [cond_true, cond_false, w64_succ hi (show N < 9223372036854775808 by omega)]) hk
 unfold lim_isTurned
 simp only [hp]
 rw [this]
 have e : allF (fun i => allF (fun j => decide (cell p j i = w64 (0 - cell p i j))) N 0) N 0 = turnB N p := by
  rw [Bool.eq_iff_iff]
  simp only [turnB, allF_zero]
  exact ⟨fun h i hi j hj => h j hj i hi, fun h i hi j hj => h j hj i hi⟩
 rw [e]
 generalize turnB N p = r
 cases r <;> rfl
theorem lim_Is_eq {k : Nat} (hk : 10 < k) (a : List Acc) (b : List (List Int)) (m : List Int) (p : List (List Int)) : lim_Is k a b m p = some (isB a b m p) := by
 unfold lim_Is
 have l1 : decide ((a.length : Int) < 1) = !decide (1 ≤ a.length) := by
  by_cases h : 1 ≤ a.length
  ·rw [decide_eq_true h, decide_eq_false (by omega)]; rfl
  ·rw [decide_eq_false h, decide_eq_true (by omega)]; rfl
 have l2 : decide ((a.length : Int) > 6) = !decide (a.length ≤ 6) := by
  by_cases h : a.length ≤ 6
  ·rw [decide_eq_true h, decide_eq_false (by omega)]; rfl
  ·rw [decide_eq_false h, decide_eq_true (by omega)]; rfl
 rw [l1, l2]
 unfold isB
 dsimp only
 by_cases h1 : 1 ≤ a.length
 case neg => rw [decide_eq_false h1]; rfl
 by_cases h2 : a.length ≤ 6
 case neg => rw [decide_eq_true h1, decide_eq_false h2]; rfl
 rw [decide_eq_true h1, decide_eq_true h2]
 simp only [Bool.not_true, cond_false, Bool.true_and]
 rw [contains_acct (by omega) (by omega), lim_isSquare_lim (by omega) (by omega), lim_isRow_lim (by omega) (by omega), lim_isSquare_net (by omega) (by omega)]
 simp only [Option.bind_some]
 generalize hA : allF (fun i => acctB (a.getD i (0, 0, 0))) a.length 0 = A
 have sq : ∀ (q : Int → Bool) (m : List (List Int)), (decide (m.length = a.length) && allF (fun i => decide ((m.getD i []).length = a.length) && allF (fun j => q (cell m i j)) a.length 0) a.length 0) = (sqL a.length m && cellsB q a.length m) := by
  intro q m
  rw [Bool.eq_iff_iff]
  simp only [sqL, cellsB, Bool.and_eq_true, decide_eq_true_eq, allF_zero]
  exact ⟨fun h => ⟨⟨h.1, fun i hi => (h.2 i hi).1⟩, fun i hi => (h.2 i hi).2⟩, fun h => ⟨h.1.1, fun i hi => ⟨h.1.2 i hi, h.2 i hi⟩⟩⟩
 rw [sq limB b, sq netB p]
 cases hp : sqL a.length p with
 | false =>
  cases A <;> cases sqL a.length b <;> cases cellsB limB a.length b <;> cases decide (m.length = a.length) <;> cases allF (fun i => limB (m.getD i 0)) a.length 0 <;> rfl
 | true =>
  simp only [sqL, Bool.and_eq_true, decide_eq_true_eq, allF_zero] at hp
  rw [lim_isTurned_eq (N := a.length) (by omega) (by omega) hp.1 hp.2]
  cases A <;> cases sqL a.length b <;> cases cellsB limB a.length b <;> cases decide (m.length = a.length) <;> cases allF (fun i => limB (m.getD i 0)) a.length 0 <;> cases cellsB netB a.length p <;> cases turnB a.length p <;> rfl
end Go.Ab.Gi
