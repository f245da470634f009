/- LimZero, LimCopies, LimSquares. -/
import Derived.Test.YtpmkkfbnaohlhaaGiPSome10
import Derived.Test.YtpmkkfbnaohlhaaGiPNet
import Derived.KernelRfl
set_option linter.unusedVariables false
set_option linter.unusedSimpArgs false
set_option maxRecDepth 100000
namespace Go.Ab.Gi
open Go.Ab

theorem girolaw10_known_eq : girolaw10_known 200 = some true := by kernel_rfl

theorem lim_Net_eq {k n i : Nat} {p : List (List Int)} (hk : n < k) (hn : n ≤ 100) (hi : i < n) (hp : p.length = n) (hr : (p.getD i []).length = n) (hb : ∀ j, -72057594037927936 ≤ cell p i j ∧ cell p i j ≤ 72057594037927936) (a : List Acc) (b : List (List Int)) (m : List Int) :
    lim_Net k a b m p i = some (sumN (cell p i) n) := by
  obtain ⟨s, h1, h2⟩ := carryE0 (L := fun c j (s : Int) => lim_Net_L0 k c s (p.getD i []) n j) (N := n) (fun s => s) (fun j s => s = sumN (cell p i) j) (fun c s hs => by
      show lim_Net_L0b k _ s (p.getD i []) n n = _
      unfold lim_Net_L0b
      simp only [dec_lt, decide_eq_false (Nat.lt_irrefl _), cond_false]) (fun c j s hj hs => by
      refine ⟨sumN (cell p i) (j + 1), ?_, rfl⟩
      show lim_Net_L0b k _ s (p.getD i []) n j = _
      have h1 := sumN_le hb j
      have h2 := hb j
      have h3 : (j : Int) * 72057594037927936 ≤ 100 * 72057594037927936 := by omega
      unfold lim_Net_L0b
      simp only [boundOk_nat, w64_succ hj (show n < 9223372036854775808 by omega), dec_lt, Int.toNat_natCast, hr, decide_eq_true hj, cond_true]
      show lim_Net_L0 k c (w64 (s + cell p i j)) _ _ _ = _
      rw [hs, w64_id (by omega) (by omega)]
      rfl) (s := 0) hk rfl
  unfold lim_Net
  simp only [boundOk_nat, hp, decide_eq_true hi, cond_true, Int.toNat_natCast, hr]
  rw [h1, h2]
  rfl

theorem sumN_neg (g : Nat → Int) : ∀ n, sumN (fun j => - g j) n = - sumN g n
  | 0 => rfl
  | n + 1 => by
    show sumN _ n + - g n = -(sumN g n + g n)
    rw [sumN_neg g n]; omega

theorem sumN_swap (g : Nat → Nat → Int) (m : Nat) : ∀ n, sumN (fun i => sumN (fun j => g i j) m) n = sumN (fun j => sumN (fun i => g i j) n) m
  | 0 => (sumN_zero m).symm
  | n + 1 => by
    show sumN _ n + sumN (fun j => g n j) m = sumN (fun j => sumN (fun i => g i j) n + g n j) m
    rw [sumN_swap g m n, sumN_add]

theorem net_zero {a : List Acc} {b : List (List Int)} {m : List Int} {p : List (List Int)} (hb : Books a b m p) : sumN (fun i => sumN (cell p i) a.length) a.length = 0 := by
  have e : sumN (fun i => sumN (cell p i) a.length) a.length = sumN (fun i => - sumN (fun j => cell p j i) a.length) a.length := sumN_congr fun i hi => by
    rw [← sumN_neg]
    refine sumN_congr fun j hj => ?_
    have h1 := hb.turn i hi j hj
    have h2 := net_le hb hj i
    rw [h1, w64_id (by omega) (by omega)]
    omega
  have e2 := sumN_swap (fun i j => cell p i j) a.length a.length
  rw [sumN_neg, ← e2] at e
  have : sumN (fun i => sumN (fun j => cell p i j) a.length) a.length = sumN (fun i => sumN (cell p i) a.length) a.length := rfl
  omega

theorem limZero (a : List Acc) (b : List (List Int)) (m : List Int) (p : List (List Int)) : girolaw10_LimZero 200 a b m p = some true := by
  unfold girolaw10_LimZero
  rw [giroref10_Is_eq (by omega)]
  simp only [Option.bind_some]
  cases hB : isB a b m p with
  | false => rfl
  | true =>
    have hb := isB_iff.1 hB
    have h6 := hb.n6
    obtain ⟨s, h1, h2⟩ := carryE0 (L := fun c i (s : Int) => girolaw10_LimZero_L0 200 c s i a b m p) (N := a.length) (fun s => .inl s) (fun i s => s = sumN (fun i => sumN (cell p i) a.length) i) (fun c s hs => by
        show girolaw10_LimZero_L0b 200 _ s a.length a b m p = _
        unfold girolaw10_LimZero_L0b
        simp only [dec_lt, decide_eq_false (Nat.lt_irrefl _), cond_false]) (fun c i s hi hs => by
        refine ⟨sumN (fun i => sumN (cell p i) a.length) (i + 1), ?_, rfl⟩
        show girolaw10_LimZero_L0b 200 _ s i a b m p = _
        unfold girolaw10_LimZero_L0b
        have hn : ∀ x, x < a.length → -432345564227567616 ≤ sumN (cell p x) a.length ∧ sumN (cell p x) a.length ≤ 432345564227567616 := fun x hx => by
          have := sumN_le (net_le hb hx) a.length
          have h3 : (a.length : Int) * 72057594037927936 ≤ 6 * 72057594037927936 := by omega
          omega
        have hs1 : ∀ x : Nat, x ≤ a.length → -(x * 432345564227567616 : Int) ≤ sumN (fun i => sumN (cell p i) a.length) x ∧ sumN (fun i => sumN (cell p i) a.length) x ≤ x * 432345564227567616 := by
          intro x
          induction x with
          | zero => intro _; simp [sumN]
          | succ x ih =>
            intro hx
            have h1 := ih (by omega)
            have h2 := hn x (by omega)
            show -(((x + 1 : Nat) : Int) * 432345564227567616) ≤ sumN (fun i => sumN (cell p i) a.length) x + sumN (cell p x) a.length ∧ sumN (fun i => sumN (cell p i) a.length) x + sumN (cell p x) a.length ≤ ((x + 1 : Nat) : Int) * 432345564227567616
            omega
        have h4 := hs1 i (by omega)
        have h5 := hn i hi
        have h7 : (i : Int) ≤ 6 := by omega
        simp only [dec_lt, decide_eq_true hi, cond_true, w64_succ hi (show a.length < 9223372036854775808 by omega), lim_Net_eq (k := 200) (n := a.length) (by omega) (by omega) hi hb.pl (hb.pr i hi) (net_le hb hi), giroref10_Net_eq (k := 200) (n := a.length) (by omega) (by omega) hi hb.pl (hb.pr i hi) (net_le hb hi), Option.bind_some, decide_true, Bool.not_true, cond_false]
        rw [hs, w64_id (by omega) (by omega)]
        rfl) (n := 200) (s := 0) (by omega) rfl
    simp only [Bool.not_true, cond_false]
    rw [h1, h2, net_zero hb]
    simp only [Option.bind_some, girolaw10_known_eq]
    rfl

/-! ### Sameness, by the program -/
theorem equal_int {k : Nat} {a b : List Int} (hk : a.length < k) (hl : a.length < 9223372036854775808) : slices_Equal_int64 k a b = some (decide (a = b)) := by
  unfold slices_Equal_int64
  simp only [dec_eq]
  by_cases h : a.length = b.length
  · have := scan0 (L := fun c i => slices_Equal_int64_L0 k c a b a.length i) (N := a.length) (fun i => decide (a.getD i 0 = b.getD i 0)) (.inl ()) (.inr false) (fun c => by
        show slices_Equal_int64_L0b k _ a b a.length a.length = _
        unfold slices_Equal_int64_L0b
        simp only [dec_lt, decide_eq_false (Nat.lt_irrefl _), cond_false]) (fun c i hi => by
        show slices_Equal_int64_L0b k _ a b a.length i = _
        unfold slices_Equal_int64_L0b
        simp only [boundOk_nat, w64_succ hi hl, dec_lt, Int.toNat_natCast, ← h, decide_eq_true hi, cond_true]
        cases decide (a.getD i 0 = b.getD i 0) <;> rfl) hk
    rw [allF_eq 0 h] at this
    rw [decide_eq_true h]
    simp only [Bool.not_true, cond_false]
    rw [this]
    cases decide (a = b) <;> rfl
  · simp only [decide_eq_false h, Bool.not_false, cond_true]
    rw [decide_eq_false fun e => h (by rw [e])]

theorem equal_rows {k : Nat} {a b : List (List Int)} (hk : a.length < k) (hl : a.length < 9223372036854775808) (hr : ∀ i, i < a.length → (a.getD i []).length < k ∧ (a.getD i []).length < 9223372036854775808) : slices_EqualFunc_Rowint64__slices_Equal_int64 k a b = some (decide (a = b)) := by
  unfold slices_EqualFunc_Rowint64__slices_Equal_int64
  simp only [dec_eq]
  by_cases h : a.length = b.length
  · have := scan0 (L := fun c i => slices_EqualFunc_Rowint64__slices_Equal_int64_L0 k c b a a.length i) (N := a.length) (fun i => decide (a.getD i [] = b.getD i [])) (.inl ()) (.inr false) (fun c => by
        show slices_EqualFunc_Rowint64__slices_Equal_int64_L0b k _ b a a.length a.length = _
        unfold slices_EqualFunc_Rowint64__slices_Equal_int64_L0b
        simp only [dec_lt, decide_eq_false (Nat.lt_irrefl _), cond_false]) (fun c i hi => by
        show slices_EqualFunc_Rowint64__slices_Equal_int64_L0b k _ b a a.length i = _
        unfold slices_EqualFunc_Rowint64__slices_Equal_int64_L0b
        simp only [boundOk_nat, w64_succ hi hl, dec_lt, Int.toNat_natCast, ← h, decide_eq_true hi, cond_true, equal_int (hr i hi).1 (hr i hi).2, Option.bind_some]
        cases decide (a.getD i [] = b.getD i []) <;> rfl) hk
    rw [allF_eq [] h] at this
    rw [decide_eq_true h]
    simp only [Bool.not_true, cond_false]
    rw [this]
    cases decide (a = b) <;> rfl
  · simp only [decide_eq_false h, Bool.not_false, cond_true]
    rw [decide_eq_false fun e => h (by rw [e])]

theorem equal_acct {k : Nat} {a b : List Acc} (hk : a.length < k) (hl : a.length < 9223372036854775808) : slices_Equal_Acct k a b = some (decide (a = b)) := by
  unfold slices_Equal_Acct
  simp only [dec_eq]
  by_cases h : a.length = b.length
  · have := scan0 (L := fun c i => slices_Equal_Acct_L0 k c a b a.length i) (N := a.length) (fun i => decide (a.getD i (0, 0, 0) = b.getD i (0, 0, 0))) (.inl ()) (.inr false) (fun c => by
        show slices_Equal_Acct_L0b k _ a b a.length a.length = _
        unfold slices_Equal_Acct_L0b
        simp only [dec_lt, decide_eq_false (Nat.lt_irrefl _), cond_false]) (fun c i hi => by
        show slices_Equal_Acct_L0b k _ a b a.length i = _
        unfold slices_Equal_Acct_L0b
        simp only [boundOk_nat, w64_succ hi hl, dec_lt, Int.toNat_natCast, ← h, decide_eq_true hi, cond_true]
        have e : decide (a.getD i (0, 0, 0) = b.getD i (0, 0, 0)) = (decide ((a.getD i (0, 0, 0)).1 = (b.getD i (0, 0, 0)).1) && (decide ((a.getD i (0, 0, 0)).2.1 = (b.getD i (0, 0, 0)).2.1) && decide ((a.getD i (0, 0, 0)).2.2 = (b.getD i (0, 0, 0)).2.2))) := by
          rw [Bool.eq_iff_iff]
          simp only [Bool.and_eq_true, decide_eq_true_eq]
          exact ⟨fun h => by rw [h]; exact ⟨rfl, rfl, rfl⟩, fun h => Prod.ext h.1 (Prod.ext h.2.1 h.2.2)⟩
        rw [e]
        generalize (decide ((a.getD i (0, 0, 0)).1 = (b.getD i (0, 0, 0)).1) && _) = r
        cases r <;> rfl) hk
    rw [allF_eq (0, 0, 0) h] at this
    rw [decide_eq_true h]
    simp only [Bool.not_true, cond_false]
    rw [this]
    cases decide (a = b) <;> rfl
  · simp only [decide_eq_false h, Bool.not_false, cond_true]
    rw [decide_eq_false fun e => h (by rw [e])]

theorem lim_Same_eq {k : Nat} (hk : 10 < k) {a : List Acc} {b : List (List Int)} {m : List Int} {p : List (List Int)} (h : Sized a b m p) (a' : List Acc) (b' : List (List Int)) (m' : List Int) (p' : List (List Int)) :
    lim_Same k a b m p a' b' m' p' = some (decide (a = a') && (decide (b = b') && (decide (m = m') && decide (p = p')))) := by
  obtain ⟨h1, h2, h3, h4, h5, h6, h7⟩ := h
  unfold lim_Same
  rw [equal_acct (by omega) (by omega), equal_rows (a := b) (by omega) (by omega) (fun i hi => by rw [h4 i (by omega)]; omega), equal_int (a := m) (by omega) (by omega), equal_rows (a := p) (by omega) (by omega) (fun i hi => by rw [h7 i (by omega)]; omega)]
  cases decide (a = a') <;> cases decide (b = b') <;> cases decide (m = m') <;> cases decide (p = p') <;> rfl

theorem limCopies (s : List Int) (w : Int) : girolaw10_LimCopies 200 s w = some true := by
  unfold girolaw10_LimCopies
  rw [some_eq (by omega)]
  have hb := some_books s w
  have hz := hb.toSized
  simp only [Option.bind_some, lim_Copy_eq (show 10 < 200 by omega) hz, lim_Same_eq (show 10 < 200 by omega) hz, giroref10_Same_eq (show 10 < 200 by omega) hz, giroref10_Copy_eq (show 10 < 200 by omega) hz, decide_true, Bool.and_self, Bool.not_true, cond_false]
  have b1 : boundOk 0 (sA s w).length = true := rfl
  have b2 : boundOk 1 (sB w).length = true := by unfold sB; cases decide (band .i64 w 2 = 2) <;> rfl
  have b3 : boundOk 2 ((sB w).getD 1 []).length = true := by unfold sB; cases decide (band .i64 w 2 = 2) <;> rfl
  have b4 : boundOk 1 (sM w).length = true := rfl
  have b5 : boundOk 2 (sP w).length = true := by unfold sP; cases decide (band .i64 w 4 = 4) <;> rfl
  have b6 : boundOk 0 ((sP w).getD 2 []).length = true := by unfold sP; cases decide (band .i64 w 4 = 4) <;> rfl
  have hne : ¬ sA s w = (sA s w).set 0 (w64 (((sA s w).getD 0 (0, (0, 0))).1 + 1), ((sA s w).getD 0 (0, (0, 0))).2) := by
    intro e
    have h0 := hv_range s 0
    have e1 : hv s 0 = w64 (hv s 0 + 1) := congrArg (fun l : List Acc => (l.getD 0 (0, 0, 0)).1) e
    rw [w64_id (by omega) (by omega)] at e1
    omega
  simp only [b1, b2, b3, b4, b5, b6, cond_true, decide_eq_false hne, Bool.false_and, Bool.not_false, girolaw10_known_eq, Option.bind_some]

/-! ### Squares -/
theorem isSize_eq (k : Nat) {n : Nat} (hn : n ≤ 6) : lim_isSize k n = some true := by
  unfold lim_isSize
  rw [decide_eq_true (by omega), decide_eq_true (by omega)]; rfl

theorem fill_set {α : Type} (v z : α) (n i : Nat) (hi : i < n) : (List.replicate i v ++ List.replicate (n - i) z).set i v = List.replicate (i + 1) v ++ List.replicate (n - (i + 1)) z := by
  have e : List.replicate (n - i) z = z :: List.replicate (n - (i + 1)) z := by
    rw [show n - i = (n - (i + 1)) + 1 by omega]; rfl
  rw [List.set_append_right _ _ (by simp), List.length_replicate, Nat.sub_self, e]
  simp [List.replicate_succ']

theorem makeOk_nat {n b : Nat} (hn : n ≤ 1000) (hb : b ≤ 1000) : makeOk (n : Int) (n : Int) b = true := by
  unfold makeOk
  have h : (n : Int) * (b : Int) ≤ 1000000 := by
    have : n * b ≤ 1000 * 1000 := Nat.mul_le_mul hn hb
    have e : ((n * b : Nat) : Int) = (n : Int) * (b : Int) := by simp
    omega
  simp only [Bool.and_eq_true, decide_eq_true_eq]
  omega

theorem lim_Row_eq {k n : Nat} (hk : n < k) (hn : n ≤ 6) (v : Int) : lim_Row k n v = some (List.replicate n v) := by
  unfold lim_Row
  rw [isSize_eq k hn]
  obtain ⟨s, h1, h2⟩ := carryE0 (L := fun c i (s : List Int) => lim_Row_L0 k c v n i s) (N := n) (fun s => s) (fun i s => s = List.replicate i v ++ List.replicate (n - i) 0) (fun c s hs => by
      show lim_Row_L0b k _ v n n s = _
      unfold lim_Row_L0b
      simp only [dec_lt, decide_eq_false (Nat.lt_irrefl _), cond_false]) (fun c i s hi hs => by
      refine ⟨_, ?_, rfl⟩
      show lim_Row_L0b k _ v n i s = _
      have hl : s.length = n := by rw [hs]; simp; omega
      unfold lim_Row_L0b
      simp only [boundOk_nat, w64_succ hi (show n < 9223372036854775808 by omega), dec_lt, Int.toNat_natCast, decide_eq_true hi, cond_true, hl]
      rw [hs, fill_set v 0 n i hi]) (s := List.replicate n 0) hk (by simp)
  simp only [Option.bind_some, Bool.not_true, cond_false, makeOk_nat (n := n) (b := 8) (by omega) (by omega), cond_true, Int.toNat_natCast, List.length_replicate]
  rw [h1, h2]
  simp

theorem ref_Row_eq {k n : Nat} (hk : n < k) (hn : n ≤ 6) (v : Int) : giroref10_Row k n v = some (List.replicate n v) := by
  unfold giroref10_Row
  obtain ⟨s, h1, h2⟩ := carryE0 (L := fun c i (s : List Int) => giroref10_Row_L0 k c n v i s) (N := n) (fun s => s) (fun i s => s = List.replicate i v ++ List.replicate (n - i) 0) (fun c s hs => by
      show giroref10_Row_L0b k _ n v n s = _
      unfold giroref10_Row_L0b
      simp only [dec_lt, decide_eq_false (Nat.lt_irrefl _), cond_false]) (fun c i s hi hs => by
      refine ⟨_, ?_, rfl⟩
      show giroref10_Row_L0b k _ n v i s = _
      have hl : s.length = n := by rw [hs]; simp; omega
      unfold giroref10_Row_L0b
      simp only [boundOk_nat, w64_succ hi (show n < 9223372036854775808 by omega), dec_lt, Int.toNat_natCast, decide_eq_true hi, cond_true, hl]
      rw [hs, fill_set v 0 n i hi]) (s := List.replicate n 0) hk (by simp)
  have d1 : decide ((n : Int) < 0) = false := decide_eq_false (by omega)
  have d2 : decide ((n : Int) > 6) = false := decide_eq_false (by omega)
  rw [d1, d2]
  simp only [cond_false, makeOk_nat (n := n) (b := 8) (by omega) (by omega), cond_true, Int.toNat_natCast]
  rw [h1, h2]
  simp

theorem lim_Square_eq {k n : Nat} (hk : n < k) (hn : n ≤ 6) (v : Int) : lim_Square k n v = some (List.replicate n (List.replicate n v)) := by
  unfold lim_Square
  rw [isSize_eq k hn]
  obtain ⟨s, h1, h2⟩ := carryE0 (L := fun c i (s : List (List Int)) => lim_Square_L0 k c n v n i s) (N := n) (fun s => s) (fun i s => s = List.replicate i (List.replicate n v) ++ List.replicate (n - i) []) (fun c s hs => by
      show lim_Square_L0b k _ n v n n s = _
      unfold lim_Square_L0b
      simp only [dec_lt, decide_eq_false (Nat.lt_irrefl _), cond_false]) (fun c i s hi hs => by
      refine ⟨_, ?_, rfl⟩
      show lim_Square_L0b k _ n v n i s = _
      have hl : s.length = n := by rw [hs]; simp; omega
      unfold lim_Square_L0b
      simp only [boundOk_nat, w64_succ hi (show n < 9223372036854775808 by omega), dec_lt, Int.toNat_natCast, decide_eq_true hi, cond_true, hl, lim_Row_eq hk hn, Option.bind_some]
      rw [hs, fill_set (List.replicate n v) [] n i hi]) (s := List.replicate n []) hk (by simp)
  simp only [Option.bind_some, Bool.not_true, cond_false, makeOk_nat (n := n) (b := 24) (by omega) (by omega), cond_true, Int.toNat_natCast, List.length_replicate]
  rw [h1, h2]
  simp

theorem ref_Square_eq {k n : Nat} (hk : n < k) (hn : n ≤ 6) (v : Int) : giroref10_Square k n v = some (List.replicate n (List.replicate n v)) := by
  unfold giroref10_Square
  obtain ⟨s, h1, h2⟩ := carryE0 (L := fun c i (s : List (List Int)) => giroref10_Square_L0 k c n v i s) (N := n) (fun s => s) (fun i s => s = List.replicate i (List.replicate n v)) (fun c s hs => by
      show giroref10_Square_L0b k _ n v n s = _
      unfold giroref10_Square_L0b
      simp only [dec_lt, decide_eq_false (Nat.lt_irrefl _), cond_false]) (fun c i s hi hs => by
      refine ⟨_, ?_, rfl⟩
      show giroref10_Square_L0b k _ n v i s = _
      have hl : s.length = i := by rw [hs]; simp
      have hroom : roomB (i + 1) 24 = true := roomB_true (by omega) (by omega)
      unfold giroref10_Square_L0b
      simp only [w64_succ hi (show n < 9223372036854775808 by omega), dec_lt, decide_eq_true hi, cond_true, hl, ref_Row_eq hk hn, Option.bind_some, hroom]
      rw [hs, List.replicate_succ']) (s := []) hk rfl
  have d1 : decide ((n : Int) < 0) = false := decide_eq_false (by omega)
  have d2 : decide ((n : Int) > 6) = false := decide_eq_false (by omega)
  rw [d1, d2]
  simp only [cond_false]
  rw [h1, h2]
  rfl

theorem xor_ne (v : Int) : bxor .i64 v 1 ≠ v := by
  intro e
  have h : BitVec.ofInt 64 (bxor .i64 v 1) = BitVec.ofInt 64 v ^^^ BitVec.ofInt 64 1 := by
    unfold bxor bits2
    show BitVec.ofInt 64 (w64 ((BitVec.ofInt 64 v ^^^ BitVec.ofInt 64 1).toNat : Int)) = _
    generalize BitVec.ofInt 64 v ^^^ BitVec.ofInt 64 1 = x
    have hx := x.isLt
    apply BitVec.eq_of_toNat_eq
    rw [BitVec.toNat_ofInt]
    unfold w64 IntKind.wrap
    simp only [IntKind.bits, IntKind.signed, Bool.true_and]
    by_cases c : ((x.toNat : Int) % 2 ^ 64) ≥ 2 ^ (64 - 1)
    · rw [if_pos (by simpa using c)]; omega
    · rw [if_neg (by simpa using c)]; omega
  rw [e] at h
  have h2 : BitVec.ofInt 64 v ^^^ BitVec.ofInt 64 v = BitVec.ofInt 64 v ^^^ (BitVec.ofInt 64 v ^^^ BitVec.ofInt 64 1) := by rw [← h]
  rw [← BitVec.xor_assoc, BitVec.xor_self, BitVec.zero_xor] at h2
  exact absurd h2 (by decide)

theorem squares_L1 {n i j x : Nat} (hn : n ≤ 6) (hi : i < n) (hj : j < n) (hx : x < n) (v : Int) (m : List (List Int)) (hm : m.length = n) (hr : ∀ y, y < n → (m.getD y []).length = n) (hc : ∀ y, y < n → ∀ z, z < n → cell m y z = if y = i ∧ z = j then bxor .i64 v 1 else v) :
    girolaw10_LimSquares_L1 200 200 n v i j x 0 m = some (.inl ((n : Int), v, (i : Int), (j : Int), (x : Int), m)) := by
  have := scan0 (L := fun c z => girolaw10_LimSquares_L1 200 c n v i j x z m) (N := n) (fun _ => true) (.inl ((n : Int), v, (i : Int), (j : Int), (x : Int), m)) (.inr false) (fun c => by
      show girolaw10_LimSquares_L1b 200 _ n v i j x n m = _
      unfold girolaw10_LimSquares_L1b
      simp only [dec_lt, decide_eq_false (Nat.lt_irrefl _), cond_false]) (fun c z hz => by
      show girolaw10_LimSquares_L1b 200 _ n v i j x z m = _
      unfold girolaw10_LimSquares_L1b
      simp only [boundOk_nat, w64_succ hz (show n < 9223372036854775808 by omega), dec_lt, dec_eq, Int.toNat_natCast, decide_eq_true hz, decide_eq_true hx, cond_true, hm, hr x hx]
      have e := hc x hx z hz
      show (bif decide (x = i) then (bif eqBool (decide (cell m x z = v)) (decide (z = j)) then _ else _) else bif eqBool (decide (cell m x z = v)) false then _ else _) = _
      rw [e]
      by_cases c1 : x = i
      · rw [decide_eq_true c1]
        by_cases c2 : z = j
        · rw [decide_eq_true c2, if_pos ⟨c1, c2⟩, decide_eq_false (xor_ne v)]; rfl
        · rw [decide_eq_false c2, if_neg (fun h => c2 h.2), decide_eq_true rfl]; rfl
      · rw [decide_eq_false c1, if_neg (fun h => c1 h.1), decide_eq_true rfl]; rfl) (n := 200) (by omega)
  rw [this]
  have : allF (fun _ => true) n 0 = true := allF_zero.2 fun _ _ => rfl
  rw [this]; rfl

theorem squares_L0 {n i j : Nat} (hn : n ≤ 6) (hi : i < n) (hj : j < n) (v : Int) (m : List (List Int)) (hm : m.length = n) (hr : ∀ y, y < n → (m.getD y []).length = n) (hc : ∀ y, y < n → ∀ z, z < n → cell m y z = if y = i ∧ z = j then bxor .i64 v 1 else v) :
    girolaw10_LimSquares_L0 200 200 n v i j 0 m = some (.inl v) := by
  have := scan0 (L := fun c x => girolaw10_LimSquares_L0 200 c n v i j x m) (N := n) (fun _ => true) (.inl v) (.inr false) (fun c => by
      show girolaw10_LimSquares_L0b 200 _ n v i j n m = _
      unfold girolaw10_LimSquares_L0b
      simp only [dec_lt, decide_eq_false (Nat.lt_irrefl _), cond_false]) (fun c x hx => by
      show girolaw10_LimSquares_L0b 200 _ n v i j x m = _
      unfold girolaw10_LimSquares_L0b
      simp only [dec_lt, decide_eq_true hx, cond_true, squares_L1 hn hi hj hx v m hm hr hc, Option.bind_some, w64_succ hx (show n < 9223372036854775808 by omega)]) (n := 200) (by omega)
  rw [this]
  have : allF (fun _ => true) n 0 = true := allF_zero.2 fun _ _ => rfl
  rw [this]; rfl

theorem limSquares (n v i j : Int) : girolaw10_LimSquares 200 n v i j = some true := by
  unfold girolaw10_LimSquares
  by_cases c1 : n < 1
  · rw [decide_eq_true c1]; rfl
  by_cases c2 : n > 6
  · rw [decide_eq_false c1, decide_eq_true c2]; rfl
  by_cases c3 : i < 0
  · rw [decide_eq_false c1, decide_eq_false c2, decide_eq_true c3]; rfl
  by_cases c4 : i ≥ n
  · rw [decide_eq_false c1, decide_eq_false c2, decide_eq_false c3, decide_eq_true c4]; rfl
  by_cases c5 : j < 0
  · rw [decide_eq_false c1, decide_eq_false c2, decide_eq_false c3, decide_eq_false c4, decide_eq_true c5]; rfl
  by_cases c6 : j ≥ n
  · rw [decide_eq_false c1, decide_eq_false c2, decide_eq_false c3, decide_eq_false c4, decide_eq_false c5, decide_eq_true c6]; rfl
  rw [decide_eq_false c1, decide_eq_false c2, decide_eq_false c3, decide_eq_false c4, decide_eq_false c5, decide_eq_false c6]
  obtain ⟨n, rfl⟩ := Int.eq_ofNat_of_zero_le (show 0 ≤ n by omega)
  obtain ⟨i, rfl⟩ := Int.eq_ofNat_of_zero_le (show 0 ≤ i by omega)
  obtain ⟨j, rfl⟩ := Int.eq_ofNat_of_zero_le (show 0 ≤ j by omega)
  have hn : n ≤ 6 := by omega
  have hi : i < n := by omega
  have hj : j < n := by omega
  have rowv : ∀ y, y < n → (List.replicate n (List.replicate n v)).getD y [] = List.replicate n v := fun y hy => by
    rw [List.getD_eq_getElem?_getD, List.getElem?_replicate, if_pos hy]; rfl
  have cellv : ∀ y, y < n → ∀ z, z < n → cell (List.replicate n (List.replicate n v)) y z = v := fun y hy z hz => by
    unfold cell
    rw [rowv y hy, List.getD_eq_getElem?_getD, List.getElem?_replicate, if_pos hz]; rfl
  simp only [cond_false]
  rw [lim_Square_eq (by omega) hn, ref_Square_eq (by omega) hn]
  simp only [Option.bind_some]
  rw [giroref10_Rows_eq (by simp; omega) (by simp; omega) (fun y hy => by
    have hy : y < n := by simpa using hy
    rw [rowv y hy]; simp; omega)]
  simp only [Option.bind_some, decide_true, Bool.not_true, cond_false, boundOk_nat, List.length_replicate, decide_eq_true hi, cond_true, Int.toNat_natCast, rowv i hi, decide_eq_true hj]
  have hset := fun y z => cell_set' (m := List.replicate n (List.replicate n v)) (f := i) (t := j) (i := y) (j := z) (x := bxor .i64 v 1) (by simp; exact hi) (by rw [rowv i hi]; simp; exact hj)
  rw [rowv i hi] at hset
  rw [squares_L0 hn hi hj v _ (by simp) (fun y hy => by
    rw [getD_set]
    by_cases c : i = y
    · rw [if_pos ⟨c, by simp; exact hi⟩]; simp
    · rw [if_neg (fun e => c e.1), rowv y hy]; simp) (fun y hy z hz => by
    rw [hset y z, cellv y hy z hz])]
  have e1 : lim_Square 200 (-1) v = some [] := rfl
  have e2 : lim_Row 200 7 v = some [] := rfl
  simp only [Option.bind_some, e1, e2, girolaw10_known_eq]
  rfl
end Go.Ab.Gi
