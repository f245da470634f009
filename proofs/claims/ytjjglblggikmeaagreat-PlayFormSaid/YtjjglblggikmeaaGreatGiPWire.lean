/- part 7 -/
import Derived.Test.YtjjglblggikmeaaGreatGiXS
import Derived.Test.YtjjglblggikmeaaGreatGiP0
set_option linter.unusedVariables false
set_option linter.unusedSimpArgs false
namespace Go.Ab.Gi
open Go.Ab
def put8 (s c : Int) : Int := bor .u64 (shl .u64 s 8) (IntKind.wrap .u64 c)
def num8 (b : List Int) : Int := w64 (b.foldl put8 0)
def words : Nat → List Int → List Int
 | 0, _ => []
 | m + 1, b => num8 (b.take 8) :: words m (b.drop 8)
theorem words_length : ∀ (m : Nat) (b : List Int), (words m b).length = m
 | 0, _ => rfl
 | m + 1, b => by simp [words, words_length m]
theorem words_snoc : ∀ (m : Nat) (b : List Int), words (m + 1) b = words m b ++ [num8 ((b.drop (8 * m)).take 8)]
 | 0, b => by simp [words]
 | m + 1, b => by
  have h := words_snoc m (b.drop 8)
  rw [show words (m + 1 + 1) b = num8 (b.take 8) :: words (m + 1) (b.drop 8) from rfl, h]
  rw [List.drop_drop, show 8 + 8 * m = 8 * (m + 1) by omega]
  rfl
theorem take_fold {x : List Int} {i : Nat} (h : i < x.length) (s : Int) : (x.take (i + 1)).foldl put8 s = put8 ((x.take i).foldl put8 s) (x.getD i 0) := by
 rw [← take_snoc x i 0 h, List.foldl_append]; rfl
theorem get_one {k : Nat} (hk : 9 ≤ k) (s0 x r0 : List Int) (hx : x.length = 8) : word_Get_L1 k k s0 0 x 8 0 r0 = some (s0, x.foldl put8 0, r0) := by
 obtain ⟨s, h1, h2⟩ := carryE0 (L := fun n i (s : Int) => word_Get_L1 k n s0 s x 8 i r0) (N := 8) (fun s => (s0, s, r0)) (fun i s => s = (x.take i).foldl put8 0) (fun n s _ => rfl) (fun n i s hi hs => by
  refine ⟨put8 s (x.getD i 0), ?_, by rw [take_fold (by omega), hs]⟩
  show word_Get_L1b k (word_Get_L1 k n) s0 s x 8 (i : Int) r0 = _
  unfold word_Get_L1b
  rw [decide_eq_true (show (i : Int) < 8 by omega), cond_true, boundOk_true (by omega) (by omega), cond_true, w64_succ (N := 8) hi (by omega), Int.toNat_natCast]
  rfl) (n := k) (s := 0) (by omega) rfl
 rw [List.take_of_length_le (by omega)] at h2
 subst h2
 exact h1
theorem get_words {k : Nat} (hk : 9 ≤ k) : ∀ (m n : Nat) (b r : List Int), b.length = 8 * m → m < n → r.length + m ≤ 17592186044416 → word_Get_L0 k n b r = some (r ++ words m b)
 | 0, n, b, r, hb, hn, _ => by
  obtain ⟨n, rfl⟩ : ∃ x, n = x + 1 := ⟨n - 1, by omega⟩
  show word_Get_L0b k (word_Get_L0 k n) b r = _
  unfold word_Get_L0b
  rw [decide_eq_false (by omega), cond_false]
  simp [words]
 | m + 1, n, b, r, hb, hn, hr => by
  obtain ⟨n, rfl⟩ : ∃ x, n = x + 1 := ⟨n - 1, by omega⟩
  show word_Get_L0b k (word_Get_L0 k n) b r = _
  unfold word_Get_L0b
  have ht : (b.take 8).length = 8 := by rw [List.length_take]; omega
  have e8 : ((b.take 8).length : Int) = 8 := by rw [ht]; rfl
  rw [decide_eq_true (show (b.length : Int) > 0 by omega), cond_true, decide_eq_true (show (8 : Int) ≤ (b.length : Int) by omega), cond_true, e8, get_one hk _ _ _ ht, Option.bind_some]
  dsimp only
  rw [roomB_true (by omega) (by omega), cond_true, decide_eq_true (show (8 : Int) ≤ (b.length : Int) by omega), cond_true]
  rw [get_words hk m n _ _ (by rw [List.length_drop]; omega) (by omega) (by simp; omega)]
  show some ((r ++ [w64 _]) ++ words m (b.drop 8)) = _
  rw [List.append_assoc]
  rfl
theorem tmod8 (n : Nat) : Int.tmod (n : Int) 8 = ((n % 8 : Nat) : Int) := rfl
def getW (b : List Int) : List Int × Int := if b.length % 8 = 0 then (words (b.length / 8) b, 0) else ([], 2)
theorem word_Get_is {k : Nat} {b : List Int} (hk : 9 ≤ k) (hb : b.length < 8 * k) (hb' : b.length ≤ 140737488355328) : word_Get k b = some (getW b) := by
 unfold word_Get getW
 rw [tmod8]
 by_cases h : b.length % 8 = 0
 ·rw [if_pos h, decide_eq_true (by omega), get_words hk (b.length / 8) k b [] (by omega) (by omega) (by simp; omega)]
  rfl
 ·rw [if_neg h, decide_eq_false (by omega)]
  rfl
theorem ref_one {k : Nat} (hk : 9 ≤ k) (x : List Int) (hx : x.length = 8) : giroref2_one k x = some (num8 x) := by
 unfold giroref2_one
 obtain ⟨s, h1, h2⟩ := carryE0 (L := fun n i (s : Int) => giroref2_one_L0 k n x s i) (N := 8) (fun s => s) (fun i s => s = (x.take i).foldl put8 0) (fun n s _ => rfl) (fun n i s hi hs => by
  refine ⟨put8 s (x.getD i 0), ?_, by rw [take_fold (by omega), hs]⟩
  show giroref2_one_L0b k (giroref2_one_L0 k n) x s (i : Int) = _
  unfold giroref2_one_L0b
  rw [decide_eq_true (show (i : Int) < 8 by omega), cond_true, boundOk_true (by omega) (by omega), cond_true, w64_succ (N := 8) hi (by omega), Int.toNat_natCast]
  rfl) (n := k) (s := 0) (by omega) rfl
 rw [List.take_of_length_le (by omega)] at h2
 subst h2
 rw [h1]
 rfl
theorem ref_words {k : Nat} (hk : 9 ≤ k) (b : List Int) (M : Nat) (hM : b.length = 8 * M) (hb : M ≤ 17592186044416) : ∀ (m n j : Nat), j + m = M → m < n → giroref2_Get_L0 k n b ((8 * j : Nat) : Int) (words j b) = some (words M b)
 | 0, n, j, hj, hn => by
  obtain ⟨n, rfl⟩ : ∃ x, n = x + 1 := ⟨n - 1, by omega⟩
  show giroref2_Get_L0b k (giroref2_Get_L0 k n) b _ _ = _
  unfold giroref2_Get_L0b
  rw [decide_eq_false (by omega), cond_false, show j = M by omega]
 | m + 1, n, j, hj, hn => by
  obtain ⟨n, rfl⟩ : ∃ x, n = x + 1 := ⟨n - 1, by omega⟩
  show giroref2_Get_L0b k (giroref2_Get_L0 k n) b _ _ = _
  unfold giroref2_Get_L0b
  have ew : w64 (((8 * j : Nat) : Int) + 8) = ((8 * (j + 1) : Nat) : Int) := by rw [w64_id (by omega) (by omega)]; omega
  rw [ew, decide_eq_true (show ((8 * j : Nat) : Int) < (b.length : Int) by omega), cond_true, decide_eq_true (show (0 : Int) ≤ ((8 * j : Nat) : Int) by omega), decide_eq_true (show ((8 * j : Nat) : Int) ≤ ((8 * (j + 1) : Nat) : Int) by omega),
   decide_eq_true (show ((8 * (j + 1) : Nat) : Int) ≤ (b.length : Int) by omega), Int.toNat_natCast, Int.toNat_natCast, show 8 * (j + 1) - 8 * j = 8 by omega]
  have hl : (slc b (8 * j) 8).length = 8 := by simp [slc]; omega
  rw [show (true && true && true) = true from rfl, cond_true, ref_one hk _ hl, Option.bind_some]
  rw [roomB_true (by rw [words_length]; omega) (by rw [words_length]; omega), cond_true]
  rw [show words j b ++ [num8 (slc b (8 * j) 8)] = words (j + 1) b from (words_snoc j b).symm]
  exact ref_words hk b M hM hb m n (j + 1) (by omega) (by omega)
theorem ref2_Get_is {k : Nat} {b : List Int} (hk : 9 ≤ k) (hb : b.length < 8 * k) (hb' : b.length ≤ 140737488355328) : giroref2_Get k b = some (getW b) := by
 unfold giroref2_Get getW
 rw [tmod8]
 by_cases h : b.length % 8 = 0
 ·rw [if_pos h, decide_eq_true (by omega)]
  have := ref_words hk b (b.length / 8) (by omega) (by omega) (b.length / 8) k 0 (by omega) (by omega)
  show (giroref2_Get_L0 k k b ((8 * 0 : Nat) : Int) (words 0 b)).bind _ = _
  rw [this]
  rfl
 ·rw [if_neg h, decide_eq_false (by omega)]
  rfl
def manyL : List Int := [(-1), 6, 1, 2, 2, 2, 1, 1, 2, 0, 2, 2, 2, 0, 0, 0, 1, 5, 4, 1, 1, 1, 1, 1]
def manyI (x : Int) : Int := if 0 ≤ x ∧ x < 24 then manyL.getD x.toNat 0 else -1
theorem ref_many (k : Nat) (x : Int) : giroref3_Many k x = some (manyI x) := by
 unfold giroref3_Many manyI
 by_cases h : x < 0
 ·rw [decide_eq_true h, if_neg (by omega)]; rfl
 ·rw [decide_eq_false h, cond_false]
  by_cases h2 : x ≥ 24
  ·rw [decide_eq_true h2, if_neg (by omega)]; rfl
  ·rw [decide_eq_false h2, cond_false, boundOk_true (by omega) (by omega), cond_true, if_pos (by omega)]
   rfl
theorem msg_many (k : Nat) (x : Int) : msg_Many k x = some (manyI x) := by
 by_cases h : 0 ≤ x ∧ x < 24
 ·obtain ⟨n, rfl⟩ : ∃ n : Nat, x = n := ⟨x.toNat, by omega⟩
  have hn : n < 24 := by omega
  have : ∀ n : Nat, n < 24 → msg_Many 0 (n : Int) = some (manyI (n : Int)) := by decide
  exact this n hn
 ·have e : manyI x = -1 := by unfold manyI; rw [if_neg h]
  rw [e]
  unfold msg_Many
  have ne : ∀ c : Int, 0 ≤ c → c < 24 → decide (x = c) = false := fun c h1 h2 => decide_eq_false (by omega)
  rw [ne 9 (by omega) (by omega), ne 13 (by omega) (by omega), ne 14 (by omega) (by omega), ne 15 (by omega) (by omega), ne 2 (by omega) (by omega), ne 6 (by omega) (by omega), ne 7 (by omega) (by omega), ne 16 (by omega) (by omega),
   ne 19 (by omega) (by omega), ne 20 (by omega) (by omega), ne 21 (by omega) (by omega), ne 22 (by omega) (by omega), ne 23 (by omega) (by omega), ne 3 (by omega) (by omega), ne 4 (by omega) (by omega), ne 5 (by omega) (by omega), ne 8 (by omega) (by omega),
   ne 10 (by omega) (by omega), ne 11 (by omega) (by omega), ne 12 (by omega) (by omega), ne 18 (by omega) (by omega), ne 17 (by omega) (by omega), ne 1 (by omega) (by omega)]
  rfl
abbrev WMsg : Type := Int × Int × Int × Int × Int × Int × Int
def readM (b : List Int) : WMsg × Int :=
 if b = [] then ((0, 0, 0, 0, 0, 0, 0), 2)
 else if (getW (b.drop 1)).2 ≠ 0 ∨ ((getW (b.drop 1)).1.length : Int) ≠ manyI (w64 (b.getD 0 0)) then ((0, 0, 0, 0, 0, 0, 0), 2)
 else ((w64 (b.getD 0 0), (getW (b.drop 1)).1.getD 0 0, (getW (b.drop 1)).1.getD 1 0, (getW (b.drop 1)).1.getD 2 0, (getW (b.drop 1)).1.getD 3 0, (getW (b.drop 1)).1.getD 4 0, (getW (b.drop 1)).1.getD 5 0), 0)
theorem getD_cut (l : List Int) (i : Nat) : (bif Nat.blt i l.length then l.getD i 0 else 0) = l.getD i 0 := by
 by_cases h : i < l.length
 ·rw [show Nat.blt i l.length = true by simp [Nat.blt_eq, h]]; rfl
 ·rw [show Nat.blt i l.length = false by
   cases e : Nat.blt i l.length with
   | false => rfl
   | true => rw [Nat.blt_eq] at e; omega]
  rw [List.getD_eq_getElem?_getD, List.getElem?_eq_none (by omega)]; rfl
theorem msg_Read_is {k : Nat} {b : List Int} (hk : 9 ≤ k) (hb : b.length < 8 * k) (hb' : b.length ≤ 140737488355328) : msg_Read k b = some (readM b) := by
 unfold msg_Read readM
 cases b with
 | nil => rfl
 | cons c l =>
  rw [if_neg (by simp)]
  have e0 : ((c :: l).length : Int) = (l.length : Int) + 1 := by simp
  rw [decide_eq_false (by omega), cond_false, decide_eq_true (show (1 : Int) ≤ ((c :: l).length : Int) by omega), cond_true, word_Get_is hk (by simp at hb ⊢; omega) (by simp at hb' ⊢; omega), Option.bind_some]
  by_cases h : (getW (List.drop 1 (c :: l))).2 = 0
  ·rw [decide_eq_true h, boundOk_true (by omega) (by simp), msg_many]
   simp only [Bool.not_true, cond_false, cond_true, Option.bind_some]
   by_cases h2 : ((getW (List.drop 1 (c :: l))).1.length : Int) = manyI (w64 ((c :: l).getD 0 0))
   ·rw [decide_eq_true h2, if_neg (fun hh => hh.elim (fun e => e h) fun e => e h2)]
    simp only [Bool.not_true, cond_false, getD_cut]
   ·rw [decide_eq_false h2, if_pos (.inr h2)]
    rfl
  ·rw [decide_eq_false h, if_pos (.inl h)]
   rfl
theorem many_le (x : Int) : manyI x ≤ 6 := by
 unfold manyI
 split
 ·rename_i h
  obtain ⟨n, rfl⟩ : ∃ n : Nat, x = n := ⟨x.toNat, by omega⟩
  have : ∀ n : Nat, n < 24 → manyL.getD n 0 ≤ 6 := by decide
  exact this n (by omega)
 ·omega
theorem read_loop (k m : Nat) (b0 : WMsg) (x : Int) (l : List Int) (hl : l.length ≤ 6) :
  giroref3_Read_L0 k (m + 7) 0 b0 (x, 0, 0, 0, 0, 0, 0) l = some (b0, (x, l.getD 0 0, l.getD 1 0, l.getD 2 0, l.getD 3 0, l.getD 4 0, l.getD 5 0)) := by
 match l, hl with
 | [], _ => rfl
 | [_], _ => rfl
 | [_, _], _ => rfl
 | [_, _, _], _ => rfl
 | [_, _, _, _], _ => rfl
 | [_, _, _, _, _], _ => rfl
 | [_, _, _, _, _, _], _ => rfl
 | _ :: _ :: _ :: _ :: _ :: _ :: _ :: l, hl => exact absurd hl (by simp)
theorem ref_Read_is {k : Nat} {b : List Int} (hk : 9 ≤ k) (hb : b.length < 8 * k) (hb' : b.length ≤ 140737488355328) : giroref3_Read k b = some (readM b) := by
 unfold giroref3_Read readM
 cases b with
 | nil => rfl
 | cons c l =>
  rw [if_neg (by simp)]
  have e0 : ((c :: l).length : Int) = (l.length : Int) + 1 := by simp
  rw [decide_eq_false (by omega), cond_false, boundOk_true (by omega) (by simp), cond_true, decide_eq_true (show (1 : Int) ≤ ((c :: l).length : Int) by omega), cond_true, ref2_Get_is hk (by simp at hb ⊢; omega) (by simp at hb' ⊢; omega), Option.bind_some]
  by_cases h : (getW (List.drop 1 (c :: l))).2 = 0
  ·rw [decide_eq_true h, ref_many]
   simp only [Bool.not_true, cond_false, Option.bind_some]
   by_cases h2 : ((getW (List.drop 1 (c :: l))).1.length : Int) = manyI (w64 ((c :: l).getD 0 0))
   ·rw [decide_eq_true h2, if_neg (fun hh => hh.elim (fun e => e h) fun e => e h2)]
    have hm := many_le (w64 ((c :: l).getD 0 0))
    obtain ⟨m, rfl⟩ : ∃ m, k = m + 7 := ⟨k - 7, by omega⟩
    simp only [Bool.not_true, cond_false]
    rw [read_loop _ _ _ _ _ (by omega)]
    rfl
   ·rw [decide_eq_false h2, if_pos (.inr h2)]
    rfl
  ·rw [decide_eq_false h, if_pos (.inl h)]
   rfl
end Go.Ab.Gi
