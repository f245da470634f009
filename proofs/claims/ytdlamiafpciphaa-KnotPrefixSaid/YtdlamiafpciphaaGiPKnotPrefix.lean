/- KnotPrefix. -/
import Derived.Test.YtdlamiafpciphaaGiPKnotAll
set_option linter.unusedVariables false
set_option linter.unusedSimpArgs false
namespace Go.Ab.Gi
open Go.Ab

def preA : List Acc := [(50, 0, 0), (0, 0, 0), (0, 0, 0)]
def preM : List (List Int) := [[-1, -1, -1], [-1, -1, -1], [-1, -1, -1]]
def preP : List (List Int) := [[0, 0, 0], [0, 0, 0], [0, 0, 0]]
def preB : BT := (preA, preM, [-1, -1, -1], preP)
def pre1 (n : Int) : PayT := (1, 0, 1, n, 3, 0, 9)
def pre2 (m : Int) : PayT := (2, 0, 1, m, 3, 0, 9)
def preL (n m : Int) : List PayT := [pre1 n, pre2 m]

theorem pre_some : girolaw20_some 200 [50] 0 = some (preA, preM, [-1, -1, -1], preP) := by
  rw [some20_eq (by omega)]
  rfl

theorem pre_books : BooksT preB := by
  have h := some_books [50] 0
  exact h

theorem pre_may {n m : Int} (hn : 1 ≤ n ∧ n ≤ 100) (hm : 1 ≤ m ∧ m ≤ 100) : ∀ q ∈ preL n m, May 3 q := by
  intro p hp
  simp only [preL, pre1, pre2, List.mem_cons, List.not_mem_nil, or_false] at hp
  rcases hp with rfl | rfl <;> constructor <;> first | omega | (simp; done) | (simp; omega)

theorem pre_ready (n m : Int) : readyL (preL n m) 1 = preL n m := by
  simp [readyL, readyB, preL, pre1, pre2]

theorem pre_many (n m : Int) : manyL (preL n m) 3 = [2, 0, 0] := by
  simp [manyL, cnt, fromB, preL, pre1, pre2, List.range_succ]

theorem pre_heads2 (n m : Int) : headsL (preL n m) [2, 0, 0] = preL n m := by
  simp [headsL, headsN, headAt, cnt, fromB, preL, pre1, pre2, pd]
theorem pre_heads1 (n m : Int) : headsL (preL n m) [1, 0, 0] = [pre1 n] := by
  simp [headsL, headsN, headAt, cnt, fromB, preL, pre1, pre2, pd]
theorem pre_heads0 (n m : Int) : headsL (preL n m) [0, 0, 0] = [] := by
  simp [headsL, headsN, headAt, cnt, fromB, preL, pre1, pre2, pd]

theorem short_of {B : BT} (h3 : B.1.length = 3) {l : List PayT} {b0 : Bool} (h0 : shortF B l 0 = b0) (h1 : shortF B l 1 = false) (h2 : shortF B l 2 = false) : shortT B l = bif b0 then [0] else [] := by
  unfold shortT shortL
  rw [h3, show (fun i => shortB B.1 B.2.1 B.2.2.1 B.2.2.2 l i) = fun i => shortF B l i from rfl, show List.range 3 = [0, 1, 2] from rfl]
  simp only [List.filter, h0, h1, h2]
  cases b0 <;> rfl

theorem pre_short2 {n m : Int} (hn : 1 ≤ n) (hm : 1 ≤ m) : shortT preB (preL n m) = bif decide (50 < n + m) then [0] else [] := by
  apply short_of rfl
  · rw [Bool.eq_iff_iff]
    simp [shortF, shortB, bilOk, allF, sumL, sumN, gN, gR, gB, gS, dS, cell, keptZ, preB, preA, preM, preP, preL, pre1, pre2, ad]
    omega
  · simp [shortF, shortB, bilOk, allF, sumL, sumN, gN, gR, gB, gS, dS, cell, keptZ, preB, preA, preM, preP, preL, pre1, pre2, ad]
  · simp [shortF, shortB, bilOk, allF, sumL, sumN, gN, gR, gB, gS, dS, cell, keptZ, preB, preA, preM, preP, preL, pre1, pre2, ad]

theorem pre_short1 {n : Int} (hn : 1 ≤ n) : shortT preB [pre1 n] = bif decide (50 < n) then [0] else [] := by
  apply short_of rfl
  · rw [Bool.eq_iff_iff]
    simp [shortF, shortB, bilOk, allF, sumL, sumN, gN, gR, gB, gS, dS, cell, keptZ, preB, preA, preM, preP, preL, pre1, pre2, ad]
    omega
  · simp [shortF, shortB, bilOk, allF, sumL, sumN, gN, gR, gB, gS, dS, cell, keptZ, preB, preA, preM, preP, preL, pre1, pre2, ad]
  · simp [shortF, shortB, bilOk, allF, sumL, sumN, gN, gR, gB, gS, dS, cell, keptZ, preB, preA, preM, preP, preL, pre1, pre2, ad]

theorem pre_short0 : shortT preB [] = [] := by
  have := short_of (B := preB) (l := []) (b0 := false) rfl (by simp [shortF, shortB, sumL]) (by simp [shortF, shortB, sumL]) (by simp [shortF, shortB, sumL])
  exact this

theorem pre_post {l : List PayT} (hl : ∀ q ∈ l, May 3 q) (h : l.length ≤ 2) : ∃ r, post_Post 200 preB.1 preB.2.1 preB.2.2.1 preB.2.2.2 l = some r ∧ r.2.2.2.2 = 0 := by
  obtain ⟨r, h1, _, h2, _⟩ := small_post (k := 200) (by omega) pre_books (fun i hi => by
    have : i = 0 ∨ i = 1 ∨ i = 2 := by have : i < 3 := hi; omega
    rcases this with rfl | rfl | rfl <;> decide) (fun i hi j hj => by
    have ei : i = 0 ∨ i = 1 ∨ i = 2 := by have : i < 3 := hi; omega
    have ej : j = 0 ∨ j = 1 ∨ j = 2 := by have : j < 3 := hj; omega
    rcases ei with rfl | rfl | rfl <;> rcases ej with rfl | rfl | rfl <;> decide) (l := l) ⟨hl, by omega⟩
  exact ⟨r, h1, h2⟩

theorem pre_run {n m : Int} (hn : 1 ≤ n ∧ n ≤ 100) (hm : 1 ≤ m ∧ m ≤ 100) {f : List Int} {c : Nat} (hc : c ≤ 2) (h : Swept preB (preL n m) [2, 0, 0] f c) :
    ∃ C : BT, knot_Run 200 preA preM [-1, -1, -1] preP (preL n m) 1 = some (C.1, C.2.1, C.2.2.1, C.2.2.2, dropsL (preL n m) (headsL (preL n m) f), headsL (preL n m) f) := by
  have hmay := pre_may hn hm
  have hsub := headsL_sub (preL n m) f
  have hl2 : (preL n m).length = 2 := rfl
  obtain ⟨r, h1, h2⟩ := pre_post (l := headsL (preL n m) f) (fun q hq => hmay q (hsub.subset hq)) (by have := hsub.length_le; omega)
  have g := knot_Run_is (k := 200) (by omega) pre_books (l := preL n m) hmay (by rw [hl2]; omega) 1 (f := f) (n := c) (by rw [hl2]; omega) (by rw [pre_ready]; show Swept preB (preL n m) (manyL (preL n m) 3) f c; rw [pre_many]; exact h) (r := r) (by rw [pre_ready]; exact h1)
  rw [pre_ready] at g
  unfold knotR at g
  rw [h2] at g
  exact ⟨(r.1, r.2.1, r.2.2.1, r.2.2.2.1), g⟩

theorem knotPrefix (n m : Int) : girolaw20_KnotPrefix 200 n m = some true := by
  unfold girolaw20_KnotPrefix
  cases c1 : decide (n < 1) with
  | true => rfl
  | false =>
  cases c2 : decide (n > 100) with
  | true => rfl
  | false =>
  cases c3 : decide (m < 1) with
  | true => rfl
  | false =>
  cases c4 : decide (m > 100) with
  | true => rfl
  | false =>
  simp only [decide_eq_false_iff_not] at c1 c2 c3 c4
  have hn : 1 ≤ n ∧ n ≤ 100 := by omega
  have hm : 1 ≤ m ∧ m ≤ 100 := by omega
  rw [pre_some]
  simp only [cond_false, Option.bind_some]
  have w : w64 (n + m) = n + m := w64_id (by omega) (by omega)
  rw [w]
  have s2 := pre_short2 hn.1 hm.1
  have s1 := pre_short1 hn.1
  by_cases h50 : n + m ≤ 50
  · have hs : Swept preB (preL n m) [2, 0, 0] [2, 0, 0] 0 := .stop (by
      rw [pre_heads2, s2, decide_eq_false (by omega)]; rfl)
    obtain ⟨C, g⟩ := pre_run hn hm (by omega) hs
    rw [pre_heads2] at g
    have g' : knot_Run 200 preA preM [-1, -1, -1] preP [(1, (0, (1, (n, (3, (0, 9)))))), (2, (0, (1, (m, (3, (0, 9))))))] 1 = _ := g
    rw [g', decide_eq_true h50]
    simp only [Option.bind_some, cond_true, known20']
    rfl
  · have hs2 : shortT preB (headsL (preL n m) [2, 0, 0]) = [0] := by
      rw [pre_heads2, s2, decide_eq_true (by omega)]; rfl
    have ne : shortT preB (headsL (preL n m) [2, 0, 0]) ≠ [] := by rw [hs2]; simp
    by_cases hn50 : n ≤ 50
    · have hs : Swept preB (preL n m) [2, 0, 0] [1, 0, 0] 1 := .step ne (by
        rw [hs2]
        exact .stop (by show shortT preB (headsL (preL n m) [1, 0, 0]) = []; rw [pre_heads1, s1, decide_eq_false (by omega)]; rfl))
      obtain ⟨C, g⟩ := pre_run hn hm (by omega) hs
      rw [pre_heads1] at g
      have g' : knot_Run 200 preA preM [-1, -1, -1] preP [(1, (0, (1, (n, (3, (0, 9)))))), (2, (0, (1, (m, (3, (0, 9))))))] 1 = _ := g
      rw [g', decide_eq_false h50, decide_eq_true hn50]
      simp only [Option.bind_some, cond_true, cond_false, known20']
      have e1 : slc [(1, (0, (1, (n, (3, (0, 9)))))), (2, (0, (1, (m, (3, (0, 9))))))] 0 1 = [pre1 n] := rfl
      have e2 : slc [(1, (0, (1, (n, (3, (0, 9)))))), (2, (0, (1, (m, (3, (0, 9))))))] 1 1 = [pre2 m] := rfl
      have e3 : dropsL (preL n m) [pre1 n] = [pre2 m] := rfl
      rw [e1, e2, e3, giroref11_Same_eq (k := 200) (a := [pre1 n]) (b := [pre1 n]) (by simp) (by simp), giroref11_Same_eq (k := 200) (a := [pre2 m]) (b := [pre2 m]) (by simp) (by simp)]
      simp
    · have hs1 : shortT preB (headsL (preL n m) [1, 0, 0]) = [0] := by
        rw [pre_heads1, s1, decide_eq_true (by omega)]; rfl
      have ne1 : shortT preB (headsL (preL n m) [1, 0, 0]) ≠ [] := by rw [hs1]; simp
      have hs : Swept preB (preL n m) [2, 0, 0] [0, 0, 0] 2 := .step ne (by
        rw [hs2]
        exact .step ne1 (by
          show Swept preB (preL n m) (decM (shortT preB (headsL (preL n m) [1, 0, 0])) [1, 0, 0]) [0, 0, 0] 0
          rw [hs1]
          exact .stop (by show shortT preB (headsL (preL n m) [0, 0, 0]) = []; rw [pre_heads0]; exact pre_short0)))
      obtain ⟨C, g⟩ := pre_run hn hm (by omega) hs
      rw [pre_heads0] at g
      have g' : knot_Run 200 preA preM [-1, -1, -1] preP [(1, (0, (1, (n, (3, (0, 9)))))), (2, (0, (1, (m, (3, (0, 9))))))] 1 = _ := g
      rw [g', decide_eq_false h50, decide_eq_false hn50]
      simp only [Option.bind_some, cond_true, cond_false, known20']
      have e3 : dropsL (preL n m) [] = [(1, (0, (1, (n, (3, (0, 9)))))), (2, (0, (1, (m, (3, (0, 9))))))] := rfl
      rw [e3, giroref11_Same_eq (k := 200) (by simp) (by simp)]
      simp
end Go.Ab.Gi
