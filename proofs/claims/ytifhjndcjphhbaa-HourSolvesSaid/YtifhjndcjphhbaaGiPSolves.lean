/- HourSolves. -/
import Derived.Test.YtifhjndcjphhbaaGiPRing22
import Derived.Test.YtifhjndcjphhbaaGiPHourTick
set_option linter.unusedVariables false
set_option linter.unusedSimpArgs false
namespace Go.Ab.Gi
open Go.Ab

theorem known22s : girolaw22_known 200 = some true := by kernel_rfl

theorem solves_is {k : Nat} (pa : Int) (as : List (Int × Int)) (cu : Int) {p t : Int} (hp : 1 ≤ p) (ht : 0 ≤ t ∧ t < 19) : day_Solves k pa as cu 20 p (t + 1) = some (decide ((t + 1) % p = 0)) := by
  unfold day_Solves
  have h1 : decide (t + 1 > 0) = true := decide_eq_true (by omega)
  have h2 : decide (t + 1 < 20) = true := decide_eq_true (by omega)
  have h3 : decide (p = 0) = false := decide_eq_false (by omega)
  simp only [h1, h2, h3, cond_true, Bool.not_false]
  rw [Int.tmod_eq_emod_of_nonneg (by omega)]

/-- A tick, once it is known what settles. -/
theorem tick_of {k : Nat} (hk : 200 ≤ k) {B C : BT} {m m' d : List PayT} (h64 : m.length ≤ 64) (hd : d.length ≤ 64) (pa : Int) (as : List (Int × Int)) (cu : Int) {p t : Int} (hp : 1 ≤ p) (ht : 0 ≤ t ∧ t < 19) (hl : ∀ q ∈ m, lateB (t + 1) q = false)
    (hs : settle_Run k B.1 B.2.1 B.2.2.1 B.2.2.2 m (t + 1) (decide ((t + 1) % p = 0)) = some (C.1, C.2.1, C.2.2.1, C.2.2.2, m', d)) :
    ∃ o, hour_Tick k pa as cu 20 p t B.1 B.2.1 B.2.2.1 B.2.2.2 [] [] m [] 0 false = some (t + 1, C.1, C.2.1, C.2.2.1, C.2.2.2, [], [], m', [], 0, false, o) := by
  have w : w64 (t + 1) = t + 1 := w64_id (by omega) (by omega)
  unfold hour_Tick day_Closes
  have hc : decide (t + 1 = 20) = false := decide_eq_false (by omega)
  simp only [w, cond_false, Option.bind_some, hc]
  rw [late_loop hk (by omega)]
  simp only [Option.bind_some]
  rw [solves_is pa as cu hp ht]
  have f1 : m.filter (lateB (t + 1)) = [] := List.filter_eq_nil_iff.2 fun q hq => by rw [hl q hq]; simp
  have f2 : m.filter (fun q => !lateB (t + 1) q) = m := List.filter_eq_self.2 fun q hq => by rw [hl q hq]; rfl
  simp only [Option.bind_some, f1, f2]
  unfold hour_Settle
  rw [hs]
  simp only [Option.bind_some]
  rw [hour_Told_eq (by omega) (by omega)]
  have htl := toldL_length d
  have hr : roomB ((([] : List PayT).map (lateO 21)).length + (toldL d).length) 64 = true := roomB_true (by simp; omega) (by simp; omega)
  simp only [Option.bind_some, hr, cond_true]
  exact ⟨_, rfl⟩

theorem tri_put (n p c : Int) (as : List (Int × Int)) (a b d : Int) : girolaw22_HourSolves_L0 200 200 p n c 0 a b d p as 0 [] 0 false zeA zeM [-1, -1, -1] zeP = some (p, c, a, b, d, p, as, 0, triL n, 0, false, zeA, zeM, [-1, -1, -1], zeP) := by kernel_rfl

theorem solves_loop {n p : Int} {c : Nat} (hn : 1 ≤ n ∧ n ≤ 100) (hp : 1 ≤ p ∧ p ≤ 10) (hc : c ≤ 15) (pa : Int) (as : List (Int × Int)) (cu : Int) :
    ∃ (B : BT) (m : List PayT), girolaw22_HourSolves_L1 200 200 p c 0 pa cu 20 p as 0 zeA zeM [-1, -1, -1] zeP [] [] (triL n) [] 0 false = some (p, (c : Int), (c : Int), B.1, B.2.1, B.2.2.1, B.2.2.2, [], [], m, [], 0, false) ∧ (m.length = 0 ↔ p ≤ c) := by
  obtain ⟨s', g1, g2, g3⟩ := carryE0 (L := fun n' i (s : Int × BT × List PayT) => girolaw22_HourSolves_L1 200 n' p c i pa cu 20 p as s.1 s.2.1.1 s.2.1.2.1 s.2.1.2.2.1 s.2.1.2.2.2 [] [] s.2.2 [] 0 false) (N := c)
    (fun s => (p, (c : Int), s.1, s.2.1.1, s.2.1.2.1, s.2.1.2.2.1, s.2.1.2.2.2, [], [], s.2.2, [], 0, false)) (fun i s => s.1 = (i : Int) ∧ (((i : Int) < p ∧ s.2.1 = zeB ∧ s.2.2 = triL n) ∨ (p ≤ (i : Int) ∧ BooksT s.2.1 ∧ s.2.2 = []))) (fun n' s _ => by
    show girolaw22_HourSolves_L1b 200 _ p c c pa cu 20 p as s.1 s.2.1.1 s.2.1.2.1 s.2.1.2.2.1 s.2.1.2.2.2 [] [] s.2.2 [] 0 false = _
    unfold girolaw22_HourSolves_L1b
    simp only [decide_eq_false (Int.lt_irrefl _), cond_false]) (fun n' i s hi hs => by
    obtain ⟨t, B, m⟩ := s
    simp only at hs
    obtain ⟨rfl, hs⟩ := hs
    show ∃ s', girolaw22_HourSolves_L1b 200 _ p c i pa cu 20 p as i B.1 B.2.1 B.2.2.1 B.2.2.2 [] [] m [] 0 false = _ ∧ _
    unfold girolaw22_HourSolves_L1b
    have hi' : decide ((i : Int) < (c : Int)) = true := decide_eq_true (by omega)
    simp only [hi', cond_true, w64_succ hi (show c < 9223372036854775808 by omega)]
    have one : ∀ (C : BT) (m' d : List PayT), settle_Run 200 B.1 B.2.1 B.2.2.1 B.2.2.2 m ((i : Int) + 1) (decide (((i : Int) + 1) % p = 0)) = some (C.1, C.2.1, C.2.2.1, C.2.2.2, m', d) → m.length ≤ 64 → d.length ≤ 64 → (∀ q ∈ m, lateB ((i : Int) + 1) q = false) →
        (((((i + 1 : Nat) : Int) < p ∧ C = zeB ∧ m' = triL n) ∨ (p ≤ ((i + 1 : Nat) : Int) ∧ BooksT C ∧ m' = []))) →
        ∃ s' : Int × BT × List PayT, ((hour_Tick 200 pa as cu 20 p i B.1 B.2.1 B.2.2.1 B.2.2.2 [] [] m [] 0 false).bind fun x3 => girolaw22_HourSolves_L1 200 n' p c ((i + 1 : Nat) : Int) pa cu 20 p as x3.1 x3.2.1 x3.2.2.1 x3.2.2.2.1 x3.2.2.2.2.1 x3.2.2.2.2.2.1 x3.2.2.2.2.2.2.1 x3.2.2.2.2.2.2.2.1 x3.2.2.2.2.2.2.2.2.1 x3.2.2.2.2.2.2.2.2.2.1 x3.2.2.2.2.2.2.2.2.2.2.1) = girolaw22_HourSolves_L1 200 n' p c ((i + 1 : Nat) : Int) pa cu 20 p as s'.1 s'.2.1.1 s'.2.1.2.1 s'.2.1.2.2.1 s'.2.1.2.2.2 [] [] s'.2.2 [] 0 false ∧ (s'.1 = ((i + 1 : Nat) : Int) ∧ (((((i + 1 : Nat) : Int) < p ∧ s'.2.1 = zeB ∧ s'.2.2 = triL n) ∨ (p ≤ ((i + 1 : Nat) : Int) ∧ BooksT s'.2.1 ∧ s'.2.2 = [])))) := by
      intro C m' d h1 h2 h3 h4 h5
      obtain ⟨o, ho⟩ := tick_of (k := 200) (by omega) h2 h3 pa as cu hp.1 (by omega) h4 h1
      rw [ho]
      exact ⟨(i + 1, C, m'), rfl, rfl, h5⟩
    have tl : ∀ q ∈ triL n, lateB ((i : Int) + 1) q = false := by
      intro q hq
      simp only [triL, r1, r2, r3, List.mem_cons, List.not_mem_nil, or_false] at hq
      rcases hq with rfl | rfl | rfl <;> exact decide_eq_false (by show ¬ (i : Int) + 1 > 100; omega)
    rcases hs with ⟨h1, h2, h3⟩ | ⟨h1, h2, h3⟩
    · subst h2 h3
      by_cases c : (i : Int) + 1 = p
      · have e : decide (((i : Int) + 1) % p = 0) = true := decide_eq_true (by rw [c]; exact Int.emod_self)
        obtain ⟨C, g1, g2, g3⟩ := tri_go (k := 200) (by omega) hn (t := (i : Int) + 1) (by omega)
        exact one C [] (triL n) (by rw [e]; exact g1) (by show 3 ≤ 64; omega) (by show 3 ≤ 64; omega) tl (.inr ⟨by omega, g2, rfl⟩)
      · have e : decide (((i : Int) + 1) % p = 0) = false := decide_eq_false (by rw [Int.emod_eq_of_lt (by omega) (by omega)]; omega)
        refine one zeB (triL n) [] ?_ (by show 3 ≤ 64; omega) (by simp) tl (.inl ⟨by omega, rfl, rfl⟩)
        rw [e]
        unfold settle_Run
        rw [tri_waits (k := 200) (by omega) hn (t := (i : Int) + 1) (by omega)]
        rfl
    · subst h3
      obtain ⟨C, g1, g2, g3⟩ := nil_settle (k := 200) (by omega) h2 ((i : Int) + 1) (decide (((i : Int) + 1) % p = 0))
      exact one C [] [] g1 (by simp) (by simp) (fun q hq => by cases hq) (.inr ⟨by omega, g2, rfl⟩)) (s := (0, zeB, triL n)) (show c < 200 by omega) ⟨rfl, .inl ⟨by omega, rfl, rfl⟩⟩
  refine ⟨s'.2.1, s'.2.2, ?_, ?_⟩
  · exact g1.trans (by rw [g2])
  · rcases g3 with ⟨h1, h2, h3⟩ | ⟨h1, h2, h3⟩
    · rw [h3]
      constructor
      · intro h; cases h
      · intro h; omega
    · rw [h3]
      exact ⟨fun _ => h1, fun _ => rfl⟩

theorem hourSolves (p n c : Int) : girolaw22_HourSolves 200 p n c = some true := by
  unfold girolaw22_HourSolves
  cases h1 : decide (p < 1) with
  | true => rfl
  | false =>
  cases h2 : decide (p > 10) with
  | true => rfl
  | false =>
  cases h3 : decide (n < 1) with
  | true => rfl
  | false =>
  cases h4 : decide (n > 100) with
  | true => rfl
  | false =>
  cases h5 : decide (c < 0) with
  | true => rfl
  | false =>
  cases h6 : decide (c > 15) with
  | true => rfl
  | false =>
  rw [decide_eq_false_iff_not] at h1 h2 h3 h4 h5 h6
  obtain ⟨j, rfl⟩ : ∃ j : Nat, c = j := ⟨c.toNat, by omega⟩
  have hR : girolaw22_rules 200 0 = some (3, [(100, 1000), (7, 0)], 12, 20, 4) := by kernel_rfl
  have hS : girolaw22_some 200 [] 0 = some (zeA, zeM, [-1, -1, -1], zeP) := by kernel_rfl
  rw [hR, hS]
  simp only [Option.bind_some, cond_false]
  rw [tri_put]
  simp only [Option.bind_some]
  obtain ⟨B, m, g1, g2⟩ := solves_loop (n := n) (p := p) (c := j) (by omega) (by omega) (by omega) 3 [(100, 1000), (7, 0)] 12
  rw [g1]
  simp only [Option.bind_some]
  have e : eqBool (decide ((m.length : Int) = 0)) (decide ((j : Int) ≥ p)) = true := by
    by_cases x : p ≤ (j : Int)
    · rw [decide_eq_true (show (j : Int) ≥ p from x), decide_eq_true (by have := g2.2 x; omega)]; rfl
    · rw [decide_eq_false (show ¬ (j : Int) ≥ p from x), decide_eq_false (by intro h; exact x (g2.1 (by omega)))]; rfl
  rw [e, known22s]
  rfl
end Go.Ab.Gi
