/- Three that wait for each other, with nothing: none goes alone, no two, all at once. -/
import Derived.Test.YtifhjndcjphhbaaGiPSettle
set_option linter.unusedVariables false
set_option linter.unusedSimpArgs false
namespace Go.Ab.Gi
open Go.Ab

def zeA : List Acc := [(0, 0, 0), (0, 0, 0), (0, 0, 0)]
def zeM : List (List Int) := [[-1, -1, -1], [-1, -1, -1], [-1, -1, -1]]
def zeP : List (List Int) := [[0, 0, 0], [0, 0, 0], [0, 0, 0]]
def zeB : BT := (zeA, zeM, [-1, -1, -1], zeP)
def r1 (n : Int) : PayT := (1, 0, 1, n, 3, 0, 100)
def r2 (n : Int) : PayT := (2, 1, 2, n, 3, 0, 100)
def r3 (n : Int) : PayT := (3, 2, 0, n, 3, 0, 100)
def triL (n : Int) : List PayT := [r1 n, r2 n, r3 n]

theorem tri_may {n : Int} (hn : 1 ≤ n ∧ n ≤ 100) : ∀ q ∈ triL n, May 3 q := by
  intro p hp
  simp only [triL, r1, r2, r3, List.mem_cons, List.not_mem_nil, or_false] at hp
  rcases hp with rfl | rfl | rfl <;> constructor <;> first | omega | (simp; done) | (simp; omega)

theorem tri_dist (n : Int) : Dist (triL n) := by
  unfold Dist triL r1 r2 r3
  simp

theorem tri_ready (n : Int) {t : Int} (ht : 0 ≤ t ∧ t ≤ 100) : readyL (triL n) t = triL n := by
  have h1 : decide (t ≥ 0) = true := decide_eq_true ht.1
  have h2 : decide (t ≤ 100) = true := decide_eq_true ht.2
  simp [readyL, readyB, triL, r1, r2, r3, h1, h2]

theorem tri_mayL (n : Int) {t : Int} (ht : 0 ≤ t ∧ t ≤ 100) : mayL (triL n) t = triL n := by
  unfold mayL
  have := tri_ready n ht
  unfold readyL at this
  rw [this]
  simp [mayB', headB, plainB, fromB, triL, r1, r2, r3, allF, List.filter, pd]

theorem one_short {n : Int} (hn : 1 ≤ n) : fitsT zeB [r1 n] = false ∧ fitsT zeB [r2 n] = false ∧ fitsT zeB [r3 n] = false := by
  have h1 : shortB zeA zeM [-1, -1, -1] zeP [r1 n] 0 = true := by
    simp [shortB, bilOk, allF, sumL, sumN, gN, gR, gB, gS, dS, cell, keptZ, zeA, zeM, zeP, r1, ad]
    omega
  have h2 : shortB zeA zeM [-1, -1, -1] zeP [r2 n] 1 = true := by
    simp [shortB, bilOk, allF, sumL, sumN, gN, gR, gB, gS, dS, cell, keptZ, zeA, zeM, zeP, r2, ad]
    omega
  have h3 : shortB zeA zeM [-1, -1, -1] zeP [r3 n] 2 = true := by
    simp [shortB, bilOk, allF, sumL, sumN, gN, gR, gB, gS, dS, cell, keptZ, zeA, zeM, zeP, r3, ad]
    omega
  unfold fitsT fitsB
  refine ⟨?_, ?_, ?_⟩
  · show (_ && allF (fun i => !shortB zeA zeM [-1, -1, -1] zeP [r1 n] i) 3 0) = false
    simp [allF, h1]
  · show (_ && allF (fun i => !shortB zeA zeM [-1, -1, -1] zeP [r2 n] i) 3 0) = false
    simp [allF, h2]
  · show (_ && allF (fun i => !shortB zeA zeM [-1, -1, -1] zeP [r3 n] i) 3 0) = false
    simp [allF, h3]

theorem tri_none (k : Nat) {n : Int} (hn : 1 ≤ n) {t : Int} (ht : 0 ≤ t ∧ t ≤ 100) : nextL k zeB (mayL (triL n) t) = none := by
  rw [tri_mayL n ht]
  obtain ⟨h1, h2, h3⟩ := one_short hn
  have no : ∀ p : PayT, fitsT zeB [p] = false → goes k zeB [p] = none := by
    intro p hp
    unfold goes
    cases post_Post k zeB.1 zeB.2.1 zeB.2.2.1 zeB.2.2.2 [p] with
    | none => rfl
    | some r => simp only [hp, Bool.and_false, cond_false]
  unfold triL
  simp only [nextL, no _ h1, no _ h2, no _ h3]

theorem tri_nopair (k : Nat) (n : Int) {t : Int} (ht : 0 ≤ t ∧ t ≤ 100) : pairs k zeB (triL n) t = none := by
  unfold pairs
  rw [tri_mayL n ht]
  have d11 : duo (r1 n) (r1 n) = false := rfl
  have d12 : duo (r1 n) (r2 n) = false := rfl
  have d13 : duo (r1 n) (r3 n) = false := rfl
  have d21 : duo (r2 n) (r1 n) = false := rfl
  have d22 : duo (r2 n) (r2 n) = false := rfl
  have d23 : duo (r2 n) (r3 n) = false := rfl
  have d31 : duo (r3 n) (r1 n) = false := rfl
  have d32 : duo (r3 n) (r2 n) = false := rfl
  have d33 : duo (r3 n) (r3 n) = false := rfl
  simp only [triL, nextP, nextQ, d11, d12, d13, d21, d22, d23, d31, d32, d33, cond_false]

theorem tri_many (n : Int) : manyL (triL n) 3 = [1, 1, 1] := by
  simp [manyL, cnt, fromB, triL, r1, r2, r3, List.range_succ]

theorem tri_heads (n : Int) : headsL (triL n) [1, 1, 1] = triL n := by
  simp [headsL, headsN, headAt, cnt, fromB, triL, r1, r2, r3, pd]

theorem tri_fits {n : Int} (hn : 1 ≤ n) : shortT zeB (triL n) = [] := by
  apply shortT_nil.2
  intro j hj
  have : j = 0 ∨ j = 1 ∨ j = 2 := by have : j < 3 := hj; omega
  rcases this with rfl | rfl | rfl <;>
    simp [shortF, shortB, bilOk, allF, sumL, sumN, gN, gR, gB, gS, dS, cell, keptZ, zeB, zeA, zeM, zeP, triL, r1, r2, r3, ad] <;> omega

theorem zeB_books : BooksT zeB := by
  apply isB_iff.1
  kernel_rfl

/-- Alone, or two by two, nothing goes. -/
theorem tri_waits {k : Nat} (hk : 200 ≤ k) {n : Int} (hn : 1 ≤ n ∧ n ≤ 100) {t : Int} (ht : 0 ≤ t ∧ t ≤ 100) : settle_some k zeB.1 zeB.2.1 zeB.2.2.1 zeB.2.2.2 (triL n) t = some (zeB.1, zeB.2.1, zeB.2.2.1, zeB.2.2.2, triL n, []) := by
  obtain ⟨C, m, d, f1, f2, f3⟩ := settle_some_is hk zeB_books (tri_dist n) (by show 3 ≤ 100; omega) t
  obtain ⟨rfl, rfl, rfl⟩ := f2.none (tri_none k hn.1 ht) (tri_nopair k n ht)
  exact f1

/-- All at once they go. -/
theorem tri_go {k : Nat} (hk : 200 ≤ k) {n : Int} (hn : 1 ≤ n ∧ n ≤ 100) {t : Int} (ht : 0 ≤ t ∧ t ≤ 100) : ∃ (C : BT), settle_Run k zeB.1 zeB.2.1 zeB.2.2.1 zeB.2.2.2 (triL n) t true = some (C.1, C.2.1, C.2.2.1, C.2.2.2, [], triL n) ∧ BooksT C ∧ C.1.length = 3 := by
  have hw := tri_waits hk hn ht
  have hmay := tri_may hn
  have hSw : Swept zeB (readyL (triL n) t) (manyL (readyL (triL n) t) zeB.1.length) [1, 1, 1] 0 := by
    rw [tri_ready n ht]
    show Swept zeB (triL n) (manyL (triL n) 3) [1, 1, 1] 0
    rw [tri_many]
    exact .stop (by rw [tri_heads]; exact tri_fits hn.1)
  obtain ⟨r, h1, h2, h3⟩ := giroref16_is (k := k) (by omega) zeB_books (l := triL n) (by show 3 ≤ 80; omega)
  have hrow : Row zeB.1.length (triL n) := ⟨hmay, by show 3 ≤ 64; omega⟩
  obtain ⟨a', p', h4, h5⟩ := h3.1 hrow
  have hbk := posted_books zeB_books hrow h4 (fun i hi => by
    have h6 : (zeB.1.getD i ad).1 = 0 := by
      have : i = 0 ∨ i = 1 ∨ i = 2 := by have : i < 3 := hi; omega
      rcases this with rfl | rfl | rfl <;> rfl
    have h7 := sum_gB hrow i
    omega) (fun i hi j hj => by
    have h6 : cell zeB.2.2.2 i j = 0 := by
      have ei : i = 0 ∨ i = 1 ∨ i = 2 := by have : i < 3 := hi; omega
      have ej : j = 0 ∨ j = 1 ∨ j = 2 := by have : j < 3 := hj; omega
      rcases ei with rfl | rfl | rfl <;> rcases ej with rfl | rfl | rfl <;> rfl
    have h7 := sum_gS hrow i j
    have h8 := sum_gS hrow j i
    omega)
  have hI : isB a' zeB.2.1 zeB.2.2.1 p' = true := isB_iff.2 hbk
  rw [hI] at h5
  subst h5
  have hhead : headsL (readyL (triL n) t) [1, 1, 1] = triL n := by rw [tri_ready n ht, tri_heads]
  have g := knot_Run_is (k := k) (by omega) zeB_books (l := triL n) hmay (by show 3 ≤ 64; omega) t (f := [1, 1, 1]) (n := 0) (Nat.zero_le _) hSw (by rw [hhead]; exact h1)
  rw [hhead] at g
  unfold knotR at g
  have hdrop : dropsL (triL n) (triL n) = [] := rfl
  rw [hdrop] at g
  simp only [cond_true, decide_true, Bool.not_true, cond_false] at g
  obtain ⟨C, m, d, f1, f2, f3, f4, f5⟩ := settle_some_is hk (B := (a', zeB.2.1, zeB.2.2.1, p')) hbk (l := []) List.Pairwise.nil (by simp) t
  have hm : m = [] := List.eq_nil_of_length_eq_zero (by have := f5.length_le; simpa using this)
  have hd : d = [] := by
    have := (f2.perm List.Pairwise.nil).length_eq
    rw [List.length_append] at this
    simp at this
    exact this.1
  subst hm; subst hd
  refine ⟨C, ?_, f3, f4.trans h4.al⟩
  unfold settle_Run
  rw [hw]
  simp only [Option.bind_some, Bool.not_true, cond_false]
  rw [g]
  simp only [Option.bind_some]
  rw [f1]
  rfl

/-- Of none nothing goes. -/
theorem nil_settle {k : Nat} (hk : 200 ≤ k) {B : BT} (hb : BooksT B) (t : Int) (all : Bool) : ∃ (C : BT), settle_Run k B.1 B.2.1 B.2.2.1 B.2.2.2 [] t all = some (C.1, C.2.1, C.2.2.1, C.2.2.2, [], []) ∧ BooksT C ∧ C.1.length = B.1.length := by
  obtain ⟨C, m, d, f1, f2, f3, f4, f5, _⟩ := settle_Run_is hk hb (l := []) List.Pairwise.nil (fun q hq => by cases hq) (by simp) t all
  have hm : m = [] := List.eq_nil_of_length_eq_zero (by have := f4.length_le; simpa using this)
  have hd : d = [] := by
    have := f5.length_eq
    rw [List.length_append] at this
    simp at this
    exact this.1
  subst hm; subst hd
  exact ⟨C, f1, f2, f3⟩
end Go.Ab.Gi
