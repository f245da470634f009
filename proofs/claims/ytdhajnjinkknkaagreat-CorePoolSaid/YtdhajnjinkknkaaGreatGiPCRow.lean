/- part 16 -/
import Derived.Test.YtdhajnjinkknkaaGreatGiPRow
set_option linter.unusedVariables false
set_option linter.unusedSimpArgs false
namespace Go.Ab.Gi
open Go.Ab
def leP (q p : PayT) : Bool := decide (q.2.1 < p.2.1) || (decide (q.2.1 = p.2.1) && decide (q.2.2.2.2.1 ≤ p.2.2.2.2.1))
def ltP (q p : PayT) : Bool := decide (q.2.1 < p.2.1) || (decide (q.2.1 = p.2.1) && decide (q.2.2.2.2.1 < p.2.2.2.2.1))
theorem cmp_Or_eq (n : Nat) (x y : Int) : cmp_Or_int (n + 3) [x, y] = some (if x = 0 then y else x) := by
 have key : ∀ n : Nat, cmp_Or_int_L0 (n + 3) (n + 3) 0 [x, y] 2 0 = bif !decide (x = 0) then some (.inr x) else bif !decide (y = 0) then some (.inr y) else some (.inl 0) := fun n => rfl
 unfold cmp_Or_int
 show (cmp_Or_int_L0 (n + 3) (n + 3) 0 [x, y] 2 0).bind _ = _
 rw [key]
 by_cases h : x = 0
 ·rw [decide_eq_true h, if_pos h]
  by_cases h2 : y = 0
  ·rw [decide_eq_true h2, h2]; rfl
  ·rw [decide_eq_false h2]; rfl
 ·rw [decide_eq_false h, if_neg h]; rfl
theorem cmp_Compare_eq (k : Nat) (a b : Int) : cmp_Compare_int k a b = some (if a < b then -1 else if a > b then 1 else 0) := by
 unfold cmp_Compare_int cmp_isNaN_int
 have e : ∀ x : Int, decide (x = x) = true := fun x => decide_eq_true rfl
 simp only [e, Bool.not_true, Option.bind_some, cond_false]
 by_cases h : a < b
 ·rw [decide_eq_true h, if_pos h]; rfl
 ·rw [decide_eq_false h, if_neg h]
  by_cases h2 : a > b
  ·rw [decide_eq_true h2, if_pos h2]; rfl
  ·rw [decide_eq_false h2, if_neg h2]; rfl
theorem row_order_eq {k : Nat} (hk : 3 ≤ k) (q p : PayT) : ∃ x, row_order k q.1 q.2.1 q.2.2.1 q.2.2.2.1 q.2.2.2.2.1 q.2.2.2.2.2.1 q.2.2.2.2.2.2 p.1 p.2.1 p.2.2.1 p.2.2.2.1 p.2.2.2.2.1 p.2.2.2.2.2.1 p.2.2.2.2.2.2 = some x ∧ decide (x ≤ 0) = leP q p ∧ decide (x < 0) = ltP q p := by
 obtain ⟨n, rfl⟩ : ∃ n, k = n + 3 := ⟨k - 3, by omega⟩
 unfold row_order
 simp only [cmp_Compare_eq, Option.bind_some, cmp_Or_eq]
 refine ⟨_, rfl, ?_, ?_⟩
 ·unfold leP
  rcases Int.lt_trichotomy q.2.1 p.2.1 with h | h | h
  ·simp [h]
  ·rcases Int.lt_trichotomy q.2.2.2.2.1 p.2.2.2.2.1 with g | g | g
   ·simp [h, g, Int.le_of_lt g]
   ·simp [h, g]
   ·have g1 : ¬ q.2.2.2.2.1 < p.2.2.2.2.1 := by omega
    have g2 : ¬ q.2.2.2.2.1 ≤ p.2.2.2.2.1 := by omega
    simp [h, g1, g2, g]
  ·have h1 : ¬ q.2.1 < p.2.1 := by omega
   have h2 : ¬ q.2.1 = p.2.1 := by omega
   simp [h1, h2, h]
 ·unfold ltP
  rcases Int.lt_trichotomy q.2.1 p.2.1 with h | h | h
  ·simp [h]
  ·rcases Int.lt_trichotomy q.2.2.2.2.1 p.2.2.2.2.1 with g | g | g
   ·simp [h, g]
   ·simp [h, g]
   ·have g1 : ¬ q.2.2.2.2.1 < p.2.2.2.2.1 := by omega
    simp [h, g1, g]
  ·have h1 : ¬ q.2.1 < p.2.1 := by omega
   have h2 : ¬ q.2.1 = p.2.1 := by omega
   simp [h1, h2, h]
def upto (ok : Nat → Bool) : Nat → Nat → Nat
 | 0, i => i
 | c + 1, i => bif ok i then upto ok c (i + 1) else i
theorem scan_upto {X : Type} {L : Nat → Int → Option X} {N : Nat} (ok : Nat → Bool) (e : Nat → X) (hend : ∀ n, L (n + 1) (N : Int) = some (e N))
  (hstep : ∀ n i, i < N → L (n + 1) (i : Int) = bif ok i then L n ((i + 1 : Nat) : Int) else some (e i)) : ∀ c i n, i + c = N → c < n → L n (i : Int) = some (e (upto ok c i))
 | 0, i, n, h, hn => by
  obtain ⟨n, rfl⟩ : ∃ m, n = m + 1 := ⟨n - 1, by omega⟩
  have : i = N := by omega
  subst this
  exact hend n
 | c + 1, i, n, h, hn => by
  obtain ⟨n, rfl⟩ : ∃ m, n = m + 1 := ⟨n - 1, by omega⟩
  rw [hstep n i (by omega)]
  unfold upto
  cases ok i with
  | false => rfl
  | true => exact scan_upto ok e hend hstep c (i + 1) n (by omega) (by omega)
theorem upto_take {α : Type} (f : α → Bool) (l : List α) (d : α) : ∀ c i, i + c = l.length → upto (fun x => f (l.getD x d)) c i = i + ((l.drop i).takeWhile f).length
 | 0, i, h => by
  rw [List.drop_eq_nil_of_le (by omega)]
  rfl
 | c + 1, i, h => by
  rw [List.drop_eq_getElem_cons (show i < l.length by omega)]
  unfold upto
  have e : l.getD i d = l[i] := by rw [List.getD_eq_getElem?_getD, List.getElem?_eq_getElem (by omega)]; rfl
  rw [e]
  cases hf : f l[i] with
  | false => rw [List.takeWhile_cons_of_neg (by simp [hf])]; rfl
  | true =>
   rw [List.takeWhile_cons_of_pos hf, cond_true, upto_take f l d c (i + 1) (by omega), List.length_cons]
   omega
theorem take_tw {α : Type} (f : α → Bool) (l : List α) : l.take (l.takeWhile f).length = l.takeWhile f ∧ l.drop (l.takeWhile f).length = l.dropWhile f := by
 have e := List.takeWhile_append_dropWhile (p := f) (l := l)
 have h1 : (l.takeWhile f ++ l.dropWhile f).take (l.takeWhile f).length = l.takeWhile f := List.take_left
 have h2 : (l.takeWhile f ++ l.dropWhile f).drop (l.takeWhile f).length = l.dropWhile f := List.drop_left
 rw [e] at h1 h2
 exact ⟨h1, h2⟩
theorem tw_le {α : Type} (f : α → Bool) (l : List α) : (l.takeWhile f).length ≤ l.length := (List.takeWhile_sublist f).length_le
theorem ins_tw {α : Type} {b : Nat} (f : α → Bool) (l : List α) (p : α) (hl : l.length ≤ 1000) (hb : b ≤ 1000) : ins b l (((l.takeWhile f).length : Nat) : Int) [p] = some (l.takeWhile f ++ (p :: l.dropWhile f)) := by
 unfold ins
 have h := tw_le f l
 have hm : (l.length + 1) * b ≤ 1001 * 1000 := Nat.mul_le_mul (by omega) hb
 rw [decide_eq_true (show (0 : Int) ≤ ((l.takeWhile f).length : Int) by omega), decide_eq_true (show ((l.takeWhile f).length : Int) ≤ (l.length : Int) by omega), roomB_true (show (l.length + 1) * b ≤ 70368744177664 by omega) (by omega), Int.toNat_natCast, (take_tw f l).1, (take_tw f l).2]
 rfl
def putL (l : List PayT) (p : PayT) : List PayT := l.takeWhile (fun q => leP q p) ++ (p :: l.dropWhile (fun q => leP q p))
def frontL (l : List PayT) (p : PayT) : List PayT := l.takeWhile (fun q => ltP q p) ++ (p :: l.dropWhile (fun q => ltP q p))
theorem clone_pay {k : Nat} {l : List PayT} (hl : Small l) : slices_Clone_Pay k l = some l := by
 unfold Small at hl
 unfold slices_Clone_Pay
 rw [roomB_true (by omega) (by omega)]
 rfl
theorem put_loop {k : Nat} (hk : 3 ≤ k) (l : List PayT) (hl : Small l) (hkl : l.length < k) (p : PayT) : row_Put_L0 k k l 0 p = some (l, (((l.takeWhile (fun q => leP q p)).length : Nat) : Int), p) := by
 unfold Small at hl
 have := scan_upto (L := fun n i => row_Put_L0 k n l i p) (N := l.length) (fun x => leP (l.getD x pd) p) (fun i => (l, (i : Int), p)) (fun n => by
  show row_Put_L0b k _ l l.length p = _
  unfold row_Put_L0b
  simp only [dec_lt, decide_eq_false (Nat.lt_irrefl _), cond_false]) (fun n i hi => by
  show row_Put_L0b k _ l i p = _
  unfold row_Put_L0b
  obtain ⟨x, h1, h2, _⟩ := row_order_eq hk (l.getD i pd) p
  simp only [pd] at h1
  simp only [boundOk_nat, dec_lt, Int.toNat_natCast, decide_eq_true hi, cond_true, h1, Option.bind_some, h2, w64_succ hi (show l.length < 9223372036854775808 by omega)]
  cases leP (l.getD i pd) p <;> rfl) l.length 0 k (by omega) hkl
 have e : ((0 : Nat) : Int) = 0 := rfl
 rw [e] at this
 show row_Put_L0 k k l 0 p = _
 rw [this, upto_take (fun q => leP q p) l pd l.length 0 (by omega), List.drop_zero, Nat.zero_add]
theorem row_Put_eq {k : Nat} {l : List PayT} (hk : 3 ≤ k) (hkl : l.length < k) (hl : Small l) (p : PayT) :
  row_Put k l p = some (bif (posL l p.1).isSome then (l, 6) else bif decide (40 ≤ l.length) then (l, 3) else (putL l p, 0)) := by
 have hl' := hl
 unfold Small at hl
 unfold row_Put
 rw [row_Find_eq hkl (by omega)]
 unfold posI
 cases hp : posL l p.1 with
 | some x =>
  have e1 : decide ((x : Int) ≥ 0) = true := decide_eq_true (by omega)
  simp only [Option.bind_some, e1, cond_true, Option.isSome_some]
 | none =>
  have e1 : decide ((-1 : Int) ≥ 0) = false := rfl
  simp only [Option.bind_some, e1, cond_false, Option.isSome_none]
  by_cases h : 40 ≤ l.length
  ·rw [decide_eq_true h, decide_eq_true (show (l.length : Int) ≥ 40 by omega)]; rfl
  ·rw [decide_eq_false h, decide_eq_false (show ¬ (l.length : Int) ≥ 40 by omega)]
   simp only [cond_false, put_loop hk l hl' hkl, Option.bind_some, clone_pay hl', slices_Insert_Pay]
   rw [ins_tw _ l p hl (by decide)]
   rfl
theorem cutL_small {l : List PayT} {x : Nat} (h : Small l) : Small (cutL l x) := by
 unfold Small at *
 have := (cutL_sub l x).length_le
 omega
def withoutL (l : List PayT) (id : Int) : List PayT := match posL l id with | some x => cutL l x | none => l
theorem without_none {l : List PayT} {id : Int} (hd : Dist l) : posL (withoutL l id) id = none := by
 cases h : posL (withoutL l id) id with
 | none => rfl
 | some y =>
  exfalso
  obtain ⟨h1, h2⟩ := posL_some h
  unfold withoutL at h h1 h2
  cases hp : posL l id with
  | none =>
   rw [hp] at h
   rw [hp] at h; cases h
  | some x =>
   rw [hp] at h1 h2
   obtain ⟨h3, h4⟩ := posL_some hp
   have hm := getD_mem (d := pd) h1
   have e := split_at l x pd h3
   unfold Dist at hd
   rw [e] at hd
   have hd2 := List.pairwise_append.1 hd
   have hd3 := List.pairwise_cons.1 hd2.2.1
   simp only at h1 h2 hm
   unfold cutL at hm
   rcases List.mem_append.1 hm with hm | hm
   ·exact hd2.2.2 _ hm _ (List.mem_cons_self ..) (h2.trans h4.symm)
   ·exact hd3.1 _ hm (h4.trans h2.symm)
theorem row_Class_eq {k : Nat} {l : List PayT} (hk : 3 ≤ k) (hkl : l.length < k) (hl : Small l) (hd : Dist l) (h40 : l.length ≤ 40) {id : Int} {x : Nat} (hx : posL l id = some x) (c : Int) :
  row_Class k l id c = some (putL (cutL l x) ((l.getD x pd).1, (l.getD x pd).2.1, (l.getD x pd).2.2.1, (l.getD x pd).2.2.2.1, c, (l.getD x pd).2.2.2.2.2.1, (l.getD x pd).2.2.2.2.2.2), 0) := by
 have hx1 := posL_some hx
 have hw := without_none (id := id) hd
 unfold withoutL at hw
 rw [hx] at hw
 have hlen := cutL_length hx1.1
 unfold row_Class
 rw [row_Drop_eq hkl hl]
 unfold dropR
 rw [hx]
 simp only [Option.bind_some, decide_true, Bool.not_true, cond_false]
 rw [row_Put_eq hk (by omega) (cutL_small hl)]
 simp only [hx1.2, hw, Option.isSome_none, cond_false, decide_eq_false (show ¬ 40 ≤ (cutL l x).length by omega), Option.bind_some]
theorem row_Back_eq {k : Nat} {l : List PayT} (hk : 3 ≤ k) (hkl : l.length < k) (hl : Small l) (hd : Dist l) (h40 : l.length ≤ 40) {id : Int} {x : Nat} (hx : posL l id = some x) :
  row_Back k l id = some (putL (cutL l x) (l.getD x pd), 0) := by
 have hx1 := posL_some hx
 have hw := without_none (id := id) hd
 unfold withoutL at hw
 rw [hx] at hw
 have hlen := cutL_length hx1.1
 unfold row_Back
 rw [row_Drop_eq hkl hl]
 unfold dropR
 rw [hx]
 simp only [Option.bind_some, decide_true, Bool.not_true, cond_false]
 rw [row_Put_eq hk (by omega) (cutL_small hl)]
 simp only [hx1.2, hw, Option.isSome_none, cond_false, decide_eq_false (show ¬ 40 ≤ (cutL l x).length by omega), Option.bind_some]
 simp only [g1_7]
 rw [← hx1.2]
theorem front_loop {k : Nat} (hk : 3 ≤ k) (l : List PayT) (hl : Small l) (hkl : l.length < k) (p : PayT) : row_Front_L0 k k 0 l p = some ((((l.takeWhile (fun q => ltP q p)).length : Nat) : Int), l, p) := by
 unfold Small at hl
 have := scan_upto (L := fun n i => row_Front_L0 k n i l p) (N := l.length) (fun x => ltP (l.getD x pd) p) (fun i => ((i : Int), l, p)) (fun n => by
  show row_Front_L0b k _ l.length l p = _
  unfold row_Front_L0b
  simp only [dec_lt, decide_eq_false (Nat.lt_irrefl _), cond_false]) (fun n i hi => by
  show row_Front_L0b k _ i l p = _
  unfold row_Front_L0b
  obtain ⟨x, h1, _, h2⟩ := row_order_eq hk (l.getD i pd) p
  simp only [pd] at h1
  simp only [boundOk_nat, dec_lt, Int.toNat_natCast, decide_eq_true hi, cond_true, h1, Option.bind_some, h2, w64_succ hi (show l.length < 9223372036854775808 by omega)]
  cases ltP (l.getD i pd) p <;> rfl) l.length 0 k (by omega) hkl
 have e : ((0 : Nat) : Int) = 0 := rfl
 rw [e] at this
 show row_Front_L0 k k 0 l p = _
 rw [this, upto_take (fun q => ltP q p) l pd l.length 0 (by omega), List.drop_zero, Nat.zero_add]
theorem row_Front_eq {k : Nat} {l : List PayT} (hk : 3 ≤ k) (hkl : l.length < k) (hl : Small l) {id : Int} {x : Nat} (hx : posL l id = some x) :
  row_Front k l id = some (frontL (cutL l x) (l.getD x pd), 0) := by
 have hl' := hl
 unfold Small at hl
 have hx1 := posL_some hx
 have hlen := cutL_length hx1.1
 have e1 : decide ((x : Int) < 0) = false := decide_eq_false (by omega)
 unfold row_Front row_Drop_own
 rw [row_Find_eq hkl (by omega)]
 unfold posI
 rw [hx]
 simp only [Option.bind_some, e1, cond_false, clone_pay hl', w64_succ hx1.1 (show l.length < 9223372036854775808 by omega), Delete_eq k hx1.1 hl', boundOk_nat, decide_eq_true hx1.1, cond_true, Int.toNat_natCast]
 have e0 : decide ((0 : Int) = 0) = true := rfl
 simp only [f0_7, g1_7, e0, Bool.not_true, cond_false]
 rw [front_loop hk (cutL l x) (cutL_small hl') (by omega)]
 simp only [Option.bind_some, slices_Insert_Pay]
 rw [ins_tw _ (cutL l x) _ (by omega) (by decide)]
 rfl
def idx (l : List Int) (id : Int) : Nat := (l.takeWhile (fun x => decide (x < id))).length
theorem shr1 {x : Int} (h0 : 0 ≤ x) (h1 : x < 9223372036854775808) : w64 (shr .u64 (IntKind.wrap .u64 (w64 x)) 1) = x / 2 := by
 have e1 : w64 x = x := w64_id (by omega) h1
 have e2 : IntKind.wrap .u64 x = x := by
  unfold IntKind.wrap
  simp only [IntKind.bits, IntKind.signed, Bool.false_and, Bool.false_eq_true, if_false]
  omega
 rw [e1, e2]
 have e3 : shr .u64 x 1 = x / 2 := by
  unfold shr
  have : (2 : Int) ^ (min (1 : Int).toNat (IntKind.bits .u64)) = 2 := by decide
  rw [this, Int.fdiv_eq_ediv_of_nonneg _ (by omega)]
 rw [e3]
 exact w64_id (by omega) (by omega)
theorem less_eq (k : Nat) (a b : Int) : cmp_Less_int64 k a b = some (decide (a < b)) := by
 unfold cmp_Less_int64 cmp_isNaN_int64
 simp only [decide_true, Bool.not_true, Option.bind_some, cond_false]
theorem bs_loop {k : Nat} {l : List Int} {id : Int} (hl : l.length ≤ 1000) {c : Nat} (hc : c ≤ l.length) (h1 : ∀ x, x < c → l.getD x 0 < id) (h2 : ∀ x, c ≤ x → x < l.length → id ≤ l.getD x 0) (s6 : Int) :
  ∀ (n i j : Nat), i ≤ c → c ≤ j → j ≤ l.length → j - i < n → slices_BinarySearch_int64_L0 k n l id s6 i j = some (l, id, s6, (c : Int))
 | 0, _, _, _, _, _, h => absurd h (Nat.not_lt_zero _)
 | n + 1, i, j, hi, hj, hjl, hn => by
  show slices_BinarySearch_int64_L0b k (slices_BinarySearch_int64_L0 k n) l id s6 i j = _
  unfold slices_BinarySearch_int64_L0b
  rw [dec_lt]
  by_cases hij : i < j
  ·have hh : w64 (shr .u64 (IntKind.wrap .u64 (w64 ((i : Int) + (j : Int)))) 1) = (((i + j) / 2 : Nat) : Int) := by
    rw [shr1 (by omega) (by omega)]; omega
   have hm : (i + j) / 2 < l.length := by omega
   rw [decide_eq_true hij, cond_true, hh, boundOk_nat, decide_eq_true hm, cond_true, less_eq]
   simp only [Option.bind_some, Int.toNat_natCast]
   by_cases hlt : (i + j) / 2 < c
   ·rw [decide_eq_true (h1 _ hlt), cond_true, w64_succ hm (by omega)]
    exact bs_loop hl hc h1 h2 s6 n _ j (by omega) hj hjl (by omega)
   ·have := h2 _ (Nat.not_lt.1 hlt) hm
    rw [decide_eq_false (show ¬ l.getD ((i + j) / 2) 0 < id by omega), cond_false]
    exact bs_loop hl hc h1 h2 s6 n i _ hi (by omega) (by omega) (by omega)
  ·rw [decide_eq_false hij, cond_false]
   have : i = c := by omega
   rw [this]
theorem bs_eq {k : Nat} {l : List Int} {id : Int} (hkl : l.length < k) (hl : l.length ≤ 1000) {c : Nat} (hc : c ≤ l.length) (h1 : ∀ x, x < c → l.getD x 0 < id) (h2 : ∀ x, c ≤ x → x < l.length → id ≤ l.getD x 0) :
  slices_BinarySearch_int64 k l id = some ((c : Int), decide (c < l.length) && decide (l.getD c 0 = id)) := by
 unfold slices_BinarySearch_int64
 have := bs_loop (k := k) hl hc h1 h2 (l.length : Int) k 0 l.length (by omega) hc (Nat.le_refl _) (by omega)
 rw [show ((0 : Nat) : Int) = 0 from rfl] at this
 rw [this]
 simp only [Option.bind_some, dec_lt, boundOk_nat, Int.toNat_natCast]
 by_cases h : c < l.length
 ·simp only [decide_eq_true h, cond_true, Bool.true_and]
  by_cases h3 : l.getD c 0 = id
  ·rw [decide_eq_true h3]; rfl
  ·rw [decide_eq_false h3]
   unfold slices_isNaN_int64
   simp only [decide_true, cond_false, Option.bind_some, Bool.not_true]
 ·simp only [decide_eq_false h, cond_false, Bool.false_and]
def Asc (l : List Int) : Prop := List.Pairwise (fun a b => a < b) l
theorem tw_lt {l : List Int} {id : Int} : ∀ x, x < idx l id → l.getD x 0 < id := by
 intro x hx
 unfold idx at hx
 have h := take_tw (fun x => decide (x < id)) l
 have e : l.getD x 0 = (l.takeWhile (fun x => decide (x < id))).getD x 0 := by
  rw [← h.1, List.getD_eq_getElem?_getD, List.getD_eq_getElem?_getD, List.getElem?_take, if_pos hx]
 rw [e]
 have hm := getD_mem (d := (0 : Int)) hx
 have := List.all_eq_true.1 (List.all_takeWhile (p := fun x => decide (x < id)) (l := l)) _ hm
 simpa using this
theorem tw_ge {l : List Int} (ha : Asc l) {id : Int} : ∀ x, idx l id ≤ x → x < l.length → id ≤ l.getD x 0 := by
 intro x hx hl
 have hi : idx l id < l.length := by omega
 have h := take_tw (fun x => decide (x < id)) l
 have h0 : ¬ l.getD (idx l id) 0 < id := by
  have hd : l.drop (idx l id) = l[idx l id] :: l.drop (idx l id + 1) := List.drop_eq_getElem_cons hi
  have h2 := h.2
  unfold idx at hd
  rw [h2] at hd
  have hne : l.dropWhile (fun x => decide (x < id)) ≠ [] := by rw [hd]; simp
  have := List.head_dropWhile_not (fun x => decide (x < id)) hne
  have e : (l.dropWhile (fun x => decide (x < id))).head hne = l[idx l id] := by
   unfold idx
   simp only [hd, List.head_cons]
  rw [e] at this
  rw [List.getD_eq_getElem?_getD, List.getElem?_eq_getElem hi]
  simpa using this
 by_cases e : x = idx l id
 ·rw [e]; omega
 ·have := List.pairwise_iff_getElem.1 ha (idx l id) x hi hl (by omega)
  rw [List.getD_eq_getElem?_getD, List.getElem?_eq_getElem hl]
  rw [List.getD_eq_getElem?_getD, List.getElem?_eq_getElem hi] at h0
  simp only [Option.getD_some] at h0 ⊢
  omega
theorem asc_found {l : List Int} (ha : Asc l) (id : Int) : (decide (idx l id < l.length) && decide (l.getD (idx l id) 0 = id)) = decide (id ∈ l) := by
 by_cases hm : id ∈ l
 ·obtain ⟨x, hx, e⟩ := List.getElem_of_mem hm
  have e' : l.getD x 0 = id := by rw [List.getD_eq_getElem?_getD, List.getElem?_eq_getElem hx]; exact e
  have h1 : ¬ x < idx l id := fun h => by have := tw_lt x h; omega
  have h3 : idx l id < l.length := by omega
  have h4 : ¬ idx l id < x := fun h => by
   have g1 := tw_ge ha (id := id) (idx l id) (Nat.le_refl _) h3
   have g2 := List.pairwise_iff_getElem.1 ha (idx l id) x h3 hx h
   rw [List.getD_eq_getElem?_getD, List.getElem?_eq_getElem h3] at g1
   simp only [Option.getD_some] at g1
   omega
  have h5 : idx l id = x := by omega
  rw [decide_eq_true hm, decide_eq_true h3, h5, decide_eq_true e']; rfl
 ·rw [decide_eq_false hm]
  by_cases h : idx l id < l.length
  ·rw [decide_eq_false (show ¬ l.getD (idx l id) 0 = id from fun e => hm (e ▸ getD_mem h)), Bool.and_false]
  ·rw [decide_eq_false h]; rfl
def addI (l : List Int) (id : Int) : List Int := l.takeWhile (fun x => decide (x < id)) ++ (id :: l.dropWhile (fun x => decide (x < id)))
theorem bs_asc {k : Nat} {l : List Int} (hkl : l.length < k) (hl : l.length ≤ 1000) (ha : Asc l) (id : Int) : slices_BinarySearch_int64 k l id = some ((idx l id : Int), decide (id ∈ l)) := by
 rw [bs_eq hkl hl (tw_le _ l) tw_lt (tw_ge ha)]
 show some ((idx l id : Int), decide (idx l id < l.length) && decide (l.getD (idx l id) 0 = id)) = _
 rw [asc_found ha]
theorem ids_Add_eq {k : Nat} {l : List Int} (hkl : l.length < k) (hl : l.length ≤ 1000) (ha : Asc l) (id : Int) :
  ids_Add k l id = some (bif decide (id ∈ l) then (l, 6) else bif decide (200 ≤ l.length) then (l, 3) else (addI l id, 0)) := by
 unfold ids_Add
 rw [bs_asc hkl hl ha]
 simp only [Option.bind_some]
 by_cases hm : id ∈ l
 ·rw [decide_eq_true hm]; rfl
 ·rw [decide_eq_false hm]
  simp only [cond_false]
  by_cases h : 200 ≤ l.length
  ·rw [decide_eq_true h, decide_eq_true (show (l.length : Int) ≥ 200 by omega)]; rfl
  ·rw [decide_eq_false h, decide_eq_false (show ¬ (l.length : Int) ≥ 200 by omega)]
   have e2 : slices_Clone_int64 k l = some l := by
    unfold slices_Clone_int64
    rw [roomB_true (by omega) (by omega)]
    rfl
   simp only [cond_false, e2, Option.bind_some, slices_Insert_int64]
   unfold idx
   rw [ins_tw _ l id hl (by decide)]
   rfl
end Go.Ab.Gi
