/- PairTwo. -/
import Derived.Test.YtpmkkfbnaohlhaaGiPSame19
import Derived.Test.YtpmkkfbnaohlhaaGiPSome19
set_option linter.unusedVariables false
set_option linter.unusedSimpArgs false
namespace Go.Ab.Gi
open Go.Ab

def twoA (a b : Int) : List Acc := [(a, 0, 0), (b, 0, 0), (0, 0, 0)]
def twoM : List (List Int) := [[-1, -1, -1], [-1, -1, -1], [-1, -1, -1]]
def twoP : List (List Int) := [[0, 0, 0], [0, 0, 0], [0, 0, 0]]
def twoL (x y : Int) : List PayT := [(1, 0, 1, x, 3, 0, 9), (2, 1, 0, y, 1, 0, 9)]
def twoB (a b : Int) : BT := (twoA a b, twoM, [-1, -1, -1], twoP)

theorem two_some {a b : Int} (ha : 0 ≤ a ∧ a ≤ 60) (hb : 0 ≤ b ∧ b ≤ 60) : girolaw19_some 200 [a, b] 0 = some (twoB a b) := by
  rw [some19_eq (by omega)]
  have e : ∀ x : Int, 0 ≤ x ∧ x ≤ 60 → band .i64 x 63 = x := fun x h => by
    have h1 : band .i64 x 63 = x % 64 := band_mask 6 (by omega) x
    rw [h1]; omega
  have h0 : hv [a, b] 0 = a := by
    show band .i64 a 63 = a
    exact e a ha
  have h1 : hv [a, b] 1 = b := by
    show band .i64 b 63 = b
    exact e b hb
  have h2 : hv [a, b] 2 = 0 := rfl
  have eA : sA [a, b] 0 = twoA a b := by
    unfold sA twoA
    rw [h0, h1, h2]
    rfl
  rw [eA]
  rfl

theorem two_may {x y : Int} (hx : 1 ≤ x ∧ x ≤ 200) (hy : 1 ≤ y ∧ y ≤ 200) : allMay 3 (twoL x y) = true := by
  rw [allMay_iff]
  intro p hp
  simp only [twoL, List.mem_cons, List.not_mem_nil, or_false] at hp
  rcases hp with rfl | rfl <;> constructor <;> first | omega | (simp; done) | (simp; omega)

theorem two_short0 (a b x y : Int) (hx : 1 ≤ x) (hy : 1 ≤ y) : shortB (twoA a b) twoM [-1, -1, -1] twoP (twoL x y) 0 = decide (a + y < x) := by
  rw [Bool.eq_iff_iff]
  simp [shortB, bilOk, allF, sumL, sumN, gN, gR, gB, gS, dS, cell, keptZ, twoA, twoM, twoP, twoL, ad]
  omega

theorem two_short1 (a b x y : Int) (hx : 1 ≤ x) (hy : 1 ≤ y) : shortB (twoA a b) twoM [-1, -1, -1] twoP (twoL x y) 1 = decide (b + x < y) := by
  rw [Bool.eq_iff_iff]
  simp [shortB, bilOk, allF, sumL, sumN, gN, gR, gB, gS, dS, cell, keptZ, twoA, twoM, twoP, twoL, ad]
  omega

theorem two_short2 (a b x y : Int) : shortB (twoA a b) twoM [-1, -1, -1] twoP (twoL x y) 2 = false := by
  simp [shortB, bilOk, allF, sumL, sumN, gN, gR, gB, gS, dS, cell, keptZ, twoA, twoM, twoP, twoL, ad]

theorem two_fits {a b x y : Int} (hx : 1 ≤ x ∧ x ≤ 200) (hy : 1 ≤ y ∧ y ≤ 200) : fitsT (twoB a b) (twoL x y) = (!decide (a + y < x) && !decide (b + x < y)) := by
  unfold fitsT fitsB
  show ((allMay 3 (twoL x y) && decide (2 ≤ 64)) && allF (fun i => !shortB (twoA a b) twoM [-1, -1, -1] twoP (twoL x y) i) 3 0) = _
  rw [two_may hx hy]
  simp only [allF, two_short0 a b x y hx.1 hy.1, two_short1 a b x y hx.1 hy.1]
  simp [two_short2]

theorem two_books {a b : Int} (ha : 0 ≤ a ∧ a ≤ 60) (hb : 0 ≤ b ∧ b ≤ 60) : BooksT (twoB a b) := by
  have h := some_books [a, b] 0
  have := two_some ha hb
  rw [some19_eq (by omega)] at this
  simp only [Option.some.injEq] at this
  have e : BooksT (sA [a, b] 0, sB 0, sM 0, sP 0) := h
  rw [this] at e
  exact e

theorem two_goes {a b x y : Int} (ha : 0 ≤ a ∧ a ≤ 60) (hb : 0 ≤ b ∧ b ≤ 60) (hx : 1 ≤ x ∧ x ≤ 200) (hy : 1 ≤ y ∧ y ≤ 200) : (goes 200 (twoB a b) (twoL x y)).isSome = (!decide (a + y < x) && !decide (b + x < y)) := by
  have hB := two_books ha hb
  have hrow : Row 3 (twoL x y) := ⟨allMay_iff.1 (two_may hx hy), by show 2 ≤ 64; omega⟩
  obtain ⟨r, h1, h2, h3⟩ := giroref16_is (k := 200) (by omega) hB (l := twoL x y) (by show 2 ≤ 80; omega)
  obtain ⟨a', p', h4, h5⟩ := h3.1 hrow
  have hbk := posted_books hB hrow h4 (fun i hi => by
    have h6 : ((twoB a b).1.getD i ad).1 ≤ 60 ∧ 0 ≤ ((twoB a b).1.getD i ad).1 := by
      show ((twoA a b).getD i ad).1 ≤ 60 ∧ 0 ≤ ((twoA a b).getD i ad).1
      have : i = 0 ∨ i = 1 ∨ i = 2 := by have : i < 3 := hi; omega
      rcases this with rfl | rfl | rfl <;> simp [twoA, ad] <;> omega
    have h7 := sum_gB hrow i
    omega) (fun i hi j hj => by
    have h6 : cell (twoB a b).2.2.2 i j = 0 := by
      have ei : i = 0 ∨ i = 1 ∨ i = 2 := by have : i < 3 := hi; omega
      have ej : j = 0 ∨ j = 1 ∨ j = 2 := by have : j < 3 := hj; omega
      rcases ei with rfl | rfl | rfl <;> rcases ej with rfl | rfl | rfl <;> rfl
    have h7 := sum_gS hrow i j
    have h8 := sum_gS hrow j i
    omega)
  have hI : isB a' (twoB a b).2.1 (twoB a b).2.2.1 p' = true := isB_iff.2 hbk
  rw [hI] at h5
  unfold goes
  rw [h1, two_fits hx hy]
  subst h5
  simp only [cond_true]
  cases (!decide (a + y < x) && !decide (b + x < y)) <;> rfl

theorem two_mayL (x y : Int) : mayL (twoL x y) 3 = twoL x y := by
  simp [mayL, readyB, mayB', headB, plainB, fromB, twoL, allF, List.filter, pd]

theorem two_pairs (k : Nat) (B : BT) (x y : Int) : pairs k B (twoL x y) 3 = match goes k B (twoL x y) with
    | some C => some ((1, 0, 1, x, 3, 0, 9), (2, 1, 0, y, 1, 0, 9), C)
    | none => none := by
  unfold pairs
  rw [two_mayL]
  unfold twoL
  simp only [nextP, nextQ, duo]
  cases h : goes k B [(1, 0, 1, x, 3, 0, 9), (2, 1, 0, y, 1, 0, 9)] with
  | some C => simp [h]
  | none => simp [h]

theorem two_dist (x y : Int) : Dist (twoL x y) := by
  unfold Dist twoL
  simp

theorem pairTwo (a b x y : Int) : girolaw19_PairTwo 200 a b x y = some true := by
  unfold girolaw19_PairTwo
  cases c1 : decide (a < 0) with
  | true => rfl
  | false =>
  cases c2 : decide (a > 60) with
  | true => rfl
  | false =>
  cases c3 : decide (b < 0) with
  | true => rfl
  | false =>
  cases c4 : decide (b > 60) with
  | true => rfl
  | false =>
  cases c5 : decide (x < 1) with
  | true => rfl
  | false =>
  cases c6 : decide (x > 200) with
  | true => rfl
  | false =>
  cases c7 : decide (y < 1) with
  | true => rfl
  | false =>
  cases c8 : decide (y > 200) with
  | true => rfl
  | false =>
  simp only [decide_eq_false_iff_not] at c1 c2 c3 c4 c5 c6 c7 c8
  have ha : 0 ≤ a ∧ a ≤ 60 := by omega
  have hb : 0 ≤ b ∧ b ≤ 60 := by omega
  have hx : 1 ≤ x ∧ x ≤ 200 := by omega
  have hy : 1 ≤ y ∧ y ≤ 200 := by omega
  have hB := two_books ha hb
  rw [two_some ha hb]
  simp only [cond_false, Option.bind_some]
  obtain ⟨C, m, done, g1, g2, g3, g4, g5, g6⟩ := run2_both (k := 200) (by omega) hB (two_dist x y) (by show 2 ≤ 100; omega) 3
  have g1' : pair_Run 200 (twoB a b).1 (twoB a b).2.1 (twoB a b).2.2.1 (twoB a b).2.2.2 [(1, (0, (1, (x, (3, (0, 9)))))), (2, (1, (0, (y, (1, (0, 9))))))] 3 = _ := g1
  rw [g1']
  simp only [Option.bind_some, known19]
  have hP := two_pairs 200 (twoB a b) x y
  have hG := two_goes ha hb hx hy
  have hlen := g3.length (two_dist x y)
  have w1 : w64 (a + y) = a + y := w64_id (by omega) (by omega)
  have w2 : w64 (b + x) = b + x := w64_id (by omega) (by omega)
  rw [w1, w2]
  have hl2 : (decide (((done.length : Nat) : Int) = 2)) = (!decide (a + y < x) && !decide (b + x < y)) := by
    rw [← hG]
    cases hg : goes 200 (twoB a b) (twoL x y) with
    | none =>
      rw [hg] at hP
      cases g3 with
      | stop _ => rfl
      | step h _ => rw [hP] at h; cases h
    | some D =>
      rw [hg] at hP
      cases g3 with
      | stop h => rw [hP] at h; cases h
      | @step _ E _ _ _ done' p q h h' =>
        have e2 : (twoL x y).length = 2 := rfl
        rw [e2] at hlen
        simp only [List.length_cons] at hlen
        have : done'.length = 0 := by omega
        simp [this]
  rw [hl2]
  by_cases e1 : a + y < x <;> by_cases e2 : b + x < y
  · have : decide (a + y ≥ x) = false := decide_eq_false (by omega)
    simp [this, e1, e2, eqBool]
  · have : decide (a + y ≥ x) = false := decide_eq_false (by omega)
    simp [this, e1, e2, eqBool]
  · have h1 : decide (a + y ≥ x) = true := decide_eq_true (by omega)
    have h2 : decide (b + x ≥ y) = false := decide_eq_false (by omega)
    rw [h1, h2]
    simp [e1, e2, eqBool]
  · have h1 : decide (a + y ≥ x) = true := decide_eq_true (by omega)
    have h2 : decide (b + x ≥ y) = true := decide_eq_true (by omega)
    rw [h1, h2]
    simp [e1, e2, eqBool]
end Go.Ab.Gi
