/- part 26 -/
import Derived.Test.YtdhajnjinkknkaaGreatGiPSwept
set_option linter.unusedVariables false
set_option linter.unusedSimpArgs false
namespace Go.Ab.Gi
open Go.Ab
theorem headsN_length (l : List PayT) (many : List Int) : ∀ N, (headsN l many N).length ≤ N
 | 0 => Nat.le_refl _
 | N + 1 => by
  unfold headsN
  rw [List.length_append]
  have := headsN_length l many N
  cases headAt l many N <;> simp <;> omega
theorem cnt_snoc (l : List PayT) (i : Nat) (hi : i < l.length) (f : Int) : cnt (l.take (i + 1)) f = cnt (l.take i) f + (if (l.getD i pd).2.1 = f then 1 else 0) := by
 unfold cnt
 rw [filter_snoc _ _ _ pd hi, List.length_append]
 unfold fromB
 by_cases c : (l.getD i pd).2.1 = f
 ·rw [if_pos c, decide_eq_true c]; rfl
 ·rw [if_neg c, decide_eq_false c]; rfl
def manyL (l : List PayT) (n : Nat) : List Int := (List.range n).map fun (i : Nat) => ((cnt l i : Nat) : Int)
theorem manyL_snoc (l : List PayT) (i : Nat) : manyL l (i + 1) = manyL l i ++ [((cnt l i : Nat) : Int)] := by
 unfold manyL
 rw [List.range_succ, List.map_append]; rfl
theorem manyL_length (l : List PayT) (n : Nat) : (manyL l n).length = n := by
 unfold manyL; simp
theorem decM_bounds : ∀ (s m : List Int) (i : Nat), m.getD i 0 - s.length ≤ (decM s m).getD i 0 ∧ (decM s m).getD i 0 ≤ m.getD i 0
 | [], m, i => by simp [decM]
 | x :: s, m, i => by
  have h := decM_bounds s (m.set x.toNat (m.getD x.toNat 0 - 1)) i
  rw [getD_set] at h
  have e : decM (x :: s) m = decM s (m.set x.toNat (m.getD x.toNat 0 - 1)) := rfl
  rw [e, List.length_cons]
  by_cases c : x.toNat = i ∧ x.toNat < m.length
  ·rw [if_pos c, c.1] at h
   rw [c.1]
   omega
  ·rw [if_neg c] at h
   omega
theorem decM_snoc (s m : List Int) (i : Nat) (hi : i < s.length) : decM (s.take (i + 1)) m = (decM (s.take i) m).set (s.getD i 0).toNat ((decM (s.take i) m).getD (s.getD i 0).toNat 0 - 1) := by
 unfold decM
 rw [← take_snoc s i 0 hi, List.foldl_append]
 rfl
theorem sum_range (g : Nat → Int) : ∀ n, sumL (fun x => x) ((List.range n).map g) = sumN g n
 | 0 => rfl
 | n + 1 => by
  rw [List.range_succ, List.map_append, sumL_append, sum_range g n]
  show sumN g n + (g n + 0) = sumN g n + g n
  omega
theorem cnt_sum (l : List PayT) (f : Int) : ((cnt l f : Nat) : Int) = sumL (fun p : PayT => if p.2.1 = f then 1 else 0) l := by
 induction l with
 | nil => rfl
 | cons p l ih =>
  unfold cnt fromB at *
  show _ = (if p.2.1 = f then (1 : Int) else 0) + sumL _ l
  rw [← ih, List.filter_cons]
  by_cases c : p.2.1 = f
  ·rw [if_pos c, decide_eq_true c, if_pos rfl, List.length_cons]; omega
  ·rw [if_neg c, decide_eq_false c, if_neg (by simp)]; omega
theorem total_many (l : List PayT) (n : Nat) : total (manyL l n) ≤ l.length := by
 unfold total manyL
 rw [sum_range (fun i : Nat => ((cnt l i : Nat) : Int)) n, sumN_congr (h := fun j => sumL (fun p : PayT => if p.2.1 = (j : Int) then 1 else 0) l) (fun j _ => cnt_sum l j), sumN_sumL]
 have := (sumL_le (A := 1) (l := l) (g := fun p : PayT => sumN (fun j => if p.2.1 = (j : Int) then 1 else 0) n) (fun p _ => by
  by_cases c : 0 ≤ p.2.1
  ·obtain ⟨f, hf⟩ : ∃ f : Nat, p.2.1 = f := ⟨p.2.1.toNat, by omega⟩
   have e : sumN (fun j => if p.2.1 = (j : Int) then (1 : Int) else 0) n = sumN (fun j => if j = f then 1 else 0) n := sumN_congr fun j _ => by
    rw [hf]
    by_cases d : j = f
    ·rw [if_pos d, if_pos (by omega)]
    ·rw [if_neg d, if_neg (by omega)]
   rw [e, sumN_one]
   split <;> omega
  ·have e : sumN (fun j => if p.2.1 = (j : Int) then (1 : Int) else 0) n = sumN (fun _ => 0) n := sumN_congr fun j _ => if_neg (by omega)
   rw [e, sumN_zero]
   omega)).2
 omega
theorem manyL_get (l : List PayT) (n i : Nat) : (manyL l n).getD i 0 = if i < n then ((cnt l i : Nat) : Int) else 0 := by
 unfold manyL
 by_cases c : i < n
 ·rw [if_pos c, List.getD_eq_getElem?_getD, List.getElem?_eq_getElem (by simpa using c)]
  simp
 ·rw [if_neg c, List.getD_eq_getElem?_getD, List.getElem?_eq_none (by simpa using c)]
  rfl
theorem cnt_le (l : List PayT) (f : Int) : cnt l f ≤ l.length := List.length_filter_le _ _
theorem many_ok {l : List PayT} (hl : l.length ≤ 1000) (n : Nat) : Some0 (manyL l n) ∧ ∀ i, (manyL l n).getD i 0 ≤ 1000 := by
 refine ⟨fun i => ?_, fun i => ?_⟩
 ·rw [manyL_get]; split <;> omega
 ·rw [manyL_get]
  have := cnt_le l i
  split <;> omega
theorem heads_row {B : BT} {l : List PayT} (hl : ∀ q ∈ l, May B.1.length q) (h64 : l.length ≤ 64) (m : List Int) : Row B.1.length (headsL l m) :=
 ⟨fun p hp => hl p ((headsL_sub l m).subset hp), by have := (headsL_sub l m).length_le; omega⟩
def readyL (l : List PayT) (t : Int) : List PayT := l.filter (readyB t)
theorem ready_may {n : Nat} {l : List PayT} {t : Int} (h : ∀ q ∈ l, May n q) : ∀ q ∈ readyL l t, May n q := fun q hq => h q (List.mem_filter.1 hq).1
theorem ready_length (l : List PayT) (t : Int) : (readyL l t).length ≤ l.length := List.length_filter_le _ _
theorem most_is {B : BT} (hb : BooksT B) {l : List PayT} (hl : ∀ q ∈ l, May B.1.length q) (h64 : l.length ≤ 64) (t : Int) :
  ∃ f n, Swept B (readyL l t) (manyL (readyL l t) B.1.length) f n ∧ n ≤ (readyL l t).length := by
 have h1 := many_ok (l := readyL l t) (by have := ready_length l t; omega) B.1.length
 have h2 := total_many (readyL l t) B.1.length
 exact swept (ready_may hl) (readyL l t).length _ (manyL_length _ _) h1.1 (by omega)
def dropsL (l : List PayT) (hs : List PayT) : List PayT := hs.foldl (fun l p => dropL l p.1) l
theorem dropL_le (l : List PayT) (id : Int) : (dropL l id).length ≤ l.length ∧ List.Sublist (dropL l id) l := by
 unfold dropL dropR
 cases posL l id with
 | none => exact ⟨Nat.le_refl _, List.Sublist.refl _⟩
 | some x => exact ⟨(cutL_sub l x).length_le, cutL_sub l x⟩
theorem dropsL_le : ∀ (hs l : List PayT), (dropsL l hs).length ≤ l.length ∧ List.Sublist (dropsL l hs) l
 | [], l => ⟨Nat.le_refl _, List.Sublist.refl _⟩
 | p :: hs, l => by
  obtain ⟨h1, h2⟩ := dropsL_le hs (dropL l p.1)
  obtain ⟨h3, h4⟩ := dropL_le l p.1
  exact ⟨Nat.le_trans h1 h3, h2.trans h4⟩
theorem dropsL_snoc (l hs : List PayT) (i : Nat) (hi : i < hs.length) : dropsL l (hs.take (i + 1)) = dropL (dropsL l (hs.take i)) (hs.getD i pd).1 := by
 unfold dropsL
 rw [← take_snoc hs i pd hi, List.foldl_append]
 rfl
def knotR (B : BT) (l hs : List PayT) (r : List Acc × List (List Int) × List Int × List (List Int) × Int) : (List (Int × Int × Int)) × (List (List Int)) × (List Int) × (List (List Int)) × (List PayT) × (List PayT) :=
 bif !(decide (r.2.2.2.2 = 0)) then (B.1, B.2.1, B.2.2.1, B.2.2.2, l, []) else (r.1, r.2.1, r.2.2.1, r.2.2.2.1, dropsL l hs, hs)
end Go.Ab.Gi
