/- KnotGreatest. -/
import Derived.Test.YtdlamiafpciphaaGiPKnotAll
set_option linter.unusedVariables false
set_option linter.unusedSimpArgs false
namespace Go.Ab.Gi
open Go.Ab

/-- A choice that holds has no more of anybody. -/
theorem choice_le {B : BT} {l : List PayT} (h3 : B.1.length = 3) (hl : ∀ q ∈ l, May B.1.length q) {f : List Int} {n : Nat} (h : Swept B l (manyL l 3) f n) {i j x : Int} (hi : i ≤ (cnt l 0 : Nat)) (hj : j ≤ (cnt l 1 : Nat)) (hx : x ≤ (cnt l 2 : Nat)) (hf : fitsT B (headsL l [i, j, x]) = true) :
    i ≤ f.getD 0 0 ∧ j ≤ f.getD 1 0 ∧ x ≤ f.getD 2 0 := by
  have hm : (manyL l 3).length = B.1.length := by rw [h3]; rfl
  have hv : LeM [i, j, x] (manyL l 3) := ⟨rfl, fun y hy => by
    have : y = 0 ∨ y = 1 ∨ y = 2 := by have : y < 3 := hy; omega
    rcases this with rfl | rfl | rfl
    · exact hi
    · exact hj
    · exact hx⟩
  have hg := h.greatest hl hm hv (fitsT_iff.1 hf).2.2
  have hfl : f.length = 3 := (h.le hm).1
  exact ⟨hg.2 0 (by omega), hg.2 1 (by omega), hg.2 2 (by omega)⟩

section
variable {k : Nat} (hk : 200 ≤ k) {B : BT} (hB : BooksT B) (h3 : B.1.length = 3) {l : List PayT} (hl : ∀ q ∈ l, May B.1.length q) (h9 : l.length ≤ 9) {f : List Int} (hf3 : f.length = 3) {n : Nat} (h : Swept B l (manyL l 3) f n)
include hk hB h3 hl h9 hf3 h

theorem great_L2 {i j : Nat} (hi : i ≤ cnt l 0) (hj : j ≤ cnt l 1) :
    girolaw20_KnotGreatest_L2 k k i j 0 B.1 B.2.1 B.2.2.1 B.2.2.2 l f [((cnt l 0 : Nat) : Int), ((cnt l 1 : Nat) : Int), ((cnt l 2 : Nat) : Int)] = some (.inl ((i : Int), (j : Int), B.1, B.2.1, B.2.2.1, B.2.2.2, l, f, [((cnt l 0 : Nat) : Int), ((cnt l 1 : Nat) : Int), ((cnt l 2 : Nat) : Int)])) := by
  have hc2 := cnt_le l 2
  have := scan0 (L := fun n x => girolaw20_KnotGreatest_L2 k n i j x B.1 B.2.1 B.2.2.1 B.2.2.2 l f [((cnt l 0 : Nat) : Int), ((cnt l 1 : Nat) : Int), ((cnt l 2 : Nat) : Int)]) (N := cnt l 2 + 1) (fun _ => true) (.inl ((i : Int), (j : Int), B.1, B.2.1, B.2.2.1, B.2.2.2, l, f, [((cnt l 0 : Nat) : Int), ((cnt l 1 : Nat) : Int), ((cnt l 2 : Nat) : Int)])) (.inr false) (fun n => by
    show girolaw20_KnotGreatest_L2b k _ i j ((cnt l 2 + 1 : Nat) : Int) B.1 B.2.1 B.2.2.1 B.2.2.2 l f _ = _
    unfold girolaw20_KnotGreatest_L2b
    have e1 : boundOk 2 [((cnt l 0 : Nat) : Int), ((cnt l 1 : Nat) : Int), ((cnt l 2 : Nat) : Int)].length = true := rfl
    have e2 : [((cnt l 0 : Nat) : Int), ((cnt l 1 : Nat) : Int), ((cnt l 2 : Nat) : Int)].getD 2 0 = ((cnt l 2 : Nat) : Int) := rfl
    have e3 : decide (((cnt l 2 + 1 : Nat) : Int) ≤ ((cnt l 2 : Nat) : Int)) = false := decide_eq_false (by omega)
    rw [e1, e2, e3]
    rfl) (fun n x hx => by
    show girolaw20_KnotGreatest_L2b k _ i j x B.1 B.2.1 B.2.2.1 B.2.2.2 l f _ = _
    unfold girolaw20_KnotGreatest_L2b
    have e1 : boundOk 2 [((cnt l 0 : Nat) : Int), ((cnt l 1 : Nat) : Int), ((cnt l 2 : Nat) : Int)].length = true := rfl
    have e2 : [((cnt l 0 : Nat) : Int), ((cnt l 1 : Nat) : Int), ((cnt l 2 : Nat) : Int)].getD 2 0 = ((cnt l 2 : Nat) : Int) := rfl
    have e3 : decide (((x : Nat) : Int) ≤ ((cnt l 2 : Nat) : Int)) = true := decide_eq_true (by omega)
    rw [e1, e2, e3]
    simp only [cond_true]
    rw [giroref14_Heads_eq (by omega) (by show l.length ≤ 1000; omega)]
    simp only [Option.bind_some]
    have hF : giroref15_Fits k B.1 B.2.1 B.2.2.1 B.2.2.2 (headsL l [(i : Int), (j : Int), (x : Int)]) = some (fitsT B (headsL l [(i : Int), (j : Int), (x : Int)])) := giroref15_Fits_eq (by omega) hB (by have := (headsL_sub l [(i : Int), (j : Int), (x : Int)]).length_le; omega)
    rw [hF]
    simp only [Option.bind_some, w64_succ hx (show cnt l 2 + 1 < 9223372036854775808 by omega)]
    cases hfit : fitsT B (headsL l [(i : Int), (j : Int), (x : Int)]) with
    | false => rfl
    | true =>
      obtain ⟨g0, g1, g2⟩ := choice_le h3 hl h (i := i) (j := j) (x := x) (by omega) (by omega) (by omega) hfit
      have b0 : boundOk 0 f.length = true := by rw [hf3]; rfl
      have b1 : boundOk 1 f.length = true := by rw [hf3]; rfl
      have b2 : boundOk 2 f.length = true := by rw [hf3]; rfl
      have d0 : decide ((i : Int) > f.getD 0 0) = false := decide_eq_false (by omega)
      have d1 : decide ((j : Int) > f.getD 1 0) = false := decide_eq_false (by omega)
      have d2 : decide ((x : Int) > f.getD 2 0) = false := decide_eq_false (by omega)
      simp only [b0, b1, b2, d0, d1, d2, cond_true, cond_false]) (n := k) (by omega)
  rw [allF_zero.2 (fun _ _ => rfl)] at this
  exact this

theorem great_L1 {i : Nat} (hi : i ≤ cnt l 0) :
    girolaw20_KnotGreatest_L1 k k i 0 B.1 B.2.1 B.2.2.1 B.2.2.2 l f [((cnt l 0 : Nat) : Int), ((cnt l 1 : Nat) : Int), ((cnt l 2 : Nat) : Int)] = some (.inl ((i : Int), B.1, B.2.1, B.2.2.1, B.2.2.2, l, f, [((cnt l 0 : Nat) : Int), ((cnt l 1 : Nat) : Int), ((cnt l 2 : Nat) : Int)])) := by
  have hc1 := cnt_le l 1
  have := scan0 (L := fun n x => girolaw20_KnotGreatest_L1 k n i x B.1 B.2.1 B.2.2.1 B.2.2.2 l f [((cnt l 0 : Nat) : Int), ((cnt l 1 : Nat) : Int), ((cnt l 2 : Nat) : Int)]) (N := cnt l 1 + 1) (fun _ => true) (.inl ((i : Int), B.1, B.2.1, B.2.2.1, B.2.2.2, l, f, [((cnt l 0 : Nat) : Int), ((cnt l 1 : Nat) : Int), ((cnt l 2 : Nat) : Int)])) (.inr false) (fun n => by
    show girolaw20_KnotGreatest_L1b k _ i ((cnt l 1 + 1 : Nat) : Int) B.1 B.2.1 B.2.2.1 B.2.2.2 l f _ = _
    unfold girolaw20_KnotGreatest_L1b
    have e1 : boundOk 1 [((cnt l 0 : Nat) : Int), ((cnt l 1 : Nat) : Int), ((cnt l 2 : Nat) : Int)].length = true := rfl
    have e2 : [((cnt l 0 : Nat) : Int), ((cnt l 1 : Nat) : Int), ((cnt l 2 : Nat) : Int)].getD 1 0 = ((cnt l 1 : Nat) : Int) := rfl
    have e3 : decide (((cnt l 1 + 1 : Nat) : Int) ≤ ((cnt l 1 : Nat) : Int)) = false := decide_eq_false (by omega)
    rw [e1, e2, e3]
    rfl) (fun n x hx => by
    show girolaw20_KnotGreatest_L1b k _ i x B.1 B.2.1 B.2.2.1 B.2.2.2 l f _ = _
    unfold girolaw20_KnotGreatest_L1b
    have e1 : boundOk 1 [((cnt l 0 : Nat) : Int), ((cnt l 1 : Nat) : Int), ((cnt l 2 : Nat) : Int)].length = true := rfl
    have e2 : [((cnt l 0 : Nat) : Int), ((cnt l 1 : Nat) : Int), ((cnt l 2 : Nat) : Int)].getD 1 0 = ((cnt l 1 : Nat) : Int) := rfl
    have e3 : decide (((x : Nat) : Int) ≤ ((cnt l 1 : Nat) : Int)) = true := decide_eq_true (by omega)
    rw [e1, e2, e3]
    simp only [cond_true]
    rw [great_L2 hk hB h3 hl h9 hf3 h hi (show x ≤ cnt l 1 by omega)]
    simp only [Option.bind_some, w64_succ hx (show cnt l 1 + 1 < 9223372036854775808 by omega)]) (n := k) (by omega)
  rw [allF_zero.2 (fun _ _ => rfl)] at this
  exact this

theorem great_L0 : girolaw20_KnotGreatest_L0 k k 0 B.1 B.2.1 B.2.2.1 B.2.2.2 l f [((cnt l 0 : Nat) : Int), ((cnt l 1 : Nat) : Int), ((cnt l 2 : Nat) : Int)] = some (.inl ()) := by
  have hc0 := cnt_le l 0
  have := scan0 (L := fun n x => girolaw20_KnotGreatest_L0 k n x B.1 B.2.1 B.2.2.1 B.2.2.2 l f [((cnt l 0 : Nat) : Int), ((cnt l 1 : Nat) : Int), ((cnt l 2 : Nat) : Int)]) (N := cnt l 0 + 1) (fun _ => true) (.inl ()) (.inr false) (fun n => by
    show girolaw20_KnotGreatest_L0b k _ ((cnt l 0 + 1 : Nat) : Int) B.1 B.2.1 B.2.2.1 B.2.2.2 l f _ = _
    unfold girolaw20_KnotGreatest_L0b
    have e1 : boundOk 0 [((cnt l 0 : Nat) : Int), ((cnt l 1 : Nat) : Int), ((cnt l 2 : Nat) : Int)].length = true := rfl
    have e2 : [((cnt l 0 : Nat) : Int), ((cnt l 1 : Nat) : Int), ((cnt l 2 : Nat) : Int)].getD 0 0 = ((cnt l 0 : Nat) : Int) := rfl
    have e3 : decide (((cnt l 0 + 1 : Nat) : Int) ≤ ((cnt l 0 : Nat) : Int)) = false := decide_eq_false (by omega)
    rw [e1, e2, e3]
    rfl) (fun n x hx => by
    show girolaw20_KnotGreatest_L0b k _ x B.1 B.2.1 B.2.2.1 B.2.2.2 l f _ = _
    unfold girolaw20_KnotGreatest_L0b
    have e1 : boundOk 0 [((cnt l 0 : Nat) : Int), ((cnt l 1 : Nat) : Int), ((cnt l 2 : Nat) : Int)].length = true := rfl
    have e2 : [((cnt l 0 : Nat) : Int), ((cnt l 1 : Nat) : Int), ((cnt l 2 : Nat) : Int)].getD 0 0 = ((cnt l 0 : Nat) : Int) := rfl
    have e3 : decide (((x : Nat) : Int) ≤ ((cnt l 0 : Nat) : Int)) = true := decide_eq_true (by omega)
    rw [e1, e2, e3]
    simp only [cond_true]
    rw [great_L1 hk hB h3 hl h9 hf3 h (show x ≤ cnt l 0 by omega)]
    simp only [Option.bind_some, w64_succ hx (show cnt l 0 + 1 < 9223372036854775808 by omega)]) (n := k) (by omega)
  rw [allF_zero.2 (fun _ _ => rfl)] at this
  exact this
end

theorem knotGreatest (have' : List Int) (way : Int) (l : List PayT) (t : Int) : girolaw20_KnotGreatest 200 have' way l t = some true := by
  unfold girolaw20_KnotGreatest
  cases h30 : decide (((l.length : Nat) : Int) > 9) with
  | true => rfl
  | false =>
    have hl : l.length ≤ 9 := by simp at h30; omega
    simp only [cond_false, some20_eq (k := 200) (by omega)]
    obtain ⟨r, h1, h2, h3, h4⟩ := rowedM20 (k := 200) (l := l) (by omega) (by omega)
    rw [h1]
    simp only [Option.bind_some]
    have hB : BooksT (sA have' way, sB way, sM way, sP way) := some_books have' way
    have hmay : ∀ q ∈ r, May 3 q := fun q hq => (h4 q hq).1
    have hrl := ready_length r t
    have hrm : ∀ q ∈ readyL r t, May 3 q := ready_may hmay
    rw [giroref14_Ready_eq (by omega) (by show r.length ≤ 1000; omega)]
    simp only [Option.bind_some]
    obtain ⟨f, n, hSw, hn⟩ := most_is hB (l := r) hmay (by omega) t
    have g1 := knot_Most_is (k := 200) (by omega) hB (l := r) hmay (by omega) t (by omega) hSw
    have hf3 : f.length = 3 := (hSw.le (manyL_length _ _)).1.trans (manyL_length _ _)
    simp only at g1
    rw [g1]
    have e1 : decide (((f.length : Nat) : Int) = 3) = true := by rw [hf3]; rfl
    have w : w64 ((((r.filter (readyB t)).length : Nat) : Int) + 1) = (((readyL r t).length : Nat) : Int) + 1 := w64_id (by omega) (by show (((readyL r t).length : Nat) : Int) + 1 < _; omega)
    have e2 : decide (((n + 1 : Nat) : Int) > (((readyL r t).length : Nat) : Int) + 1) = false := decide_eq_false (by omega)
    simp only [Option.bind_some, e1, Bool.not_true, cond_false, w, e2]
    have hH : giroref14_Heads 200 (r.filter (readyB t)) f = _ := giroref14_Heads_eq (k := 200) (l := readyL r t) (by omega) (by show (readyL r t).length ≤ 1000; omega) f
    rw [hH]
    simp only [Option.bind_some]
    have hhl := (headsL_sub (readyL r t) f).length_le
    have hF : giroref15_Fits 200 (sA have' way) (sB way) (sM way) (sP way) (headsL (readyL r t) f) = some (fitsT (sA have' way, sB way, sM way, sP way) (headsL (readyL r t) f)) := giroref15_Fits_eq (k := 200) (by omega) hB (l := headsL (readyL r t) f) (by omega)
    rw [hF, (fitsT_iff (B := (sA have' way, sB way, sM way, sP way))).2 ⟨fun p hp => hrm p ((headsL_sub _ _).subset hp), by omega, hSw.final⟩]
    have o0 : giroref14_Of 200 (r.filter (readyB t)) 0 = _ := giroref14_Of_eq (k := 200) (l := readyL r t) (by omega) (by show (readyL r t).length ≤ 1000; omega) 0
    have o1 : giroref14_Of 200 (r.filter (readyB t)) 1 = _ := giroref14_Of_eq (k := 200) (l := readyL r t) (by omega) (by show (readyL r t).length ≤ 1000; omega) 1
    have o2 : giroref14_Of 200 (r.filter (readyB t)) 2 = _ := giroref14_Of_eq (k := 200) (l := readyL r t) (by omega) (by show (readyL r t).length ≤ 1000; omega) 2
    simp only [Option.bind_some, Bool.not_true, cond_false, o0, o1, o2]
    have hG : girolaw20_KnotGreatest_L0 200 200 0 (sA have' way) (sB way) (sM way) (sP way) (r.filter (readyB t)) f [(((List.filter (fromB 0) (readyL r t)).length : Nat) : Int), (((List.filter (fromB 1) (readyL r t)).length : Nat) : Int), (((List.filter (fromB 2) (readyL r t)).length : Nat) : Int)] = _ := great_L0 (k := 200) (Nat.le_refl _) hB rfl (l := readyL r t) hrm (by omega) hf3 hSw
    rw [hG]
    simp only [Option.bind_some, known20']
end Go.Ab.Gi
