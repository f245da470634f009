/- part 47 -/
import Derived.Test.YtdhajnjinkknkaaGreatGiPCPool3
set_option linter.unusedVariables false
set_option linter.unusedSimpArgs false
namespace Go.Ab.Gi
open Go.Ab
theorem may_one {p : PayT} {t : Int} (h : readyB t p = true) : mayL [p] t = [p] := by
 have e : [p].filter (readyB t) = [p] := by simp [h]
 have e2 : [p].filter (fromB p.2.1) = [p] := by simp [fromB]
 have e3 : mayB' [p] p = true := by
  unfold mayB' headB
  rw [e2]
  simp
 unfold mayL
 rw [e]
 simp [e3]
theorem after2 {a0 a1 : Int} (h0 : 1 ≤ a0 ∧ a0 ≤ 100) (h1 : 1 ≤ a1 ∧ a1 ≤ 5000) : ∃ s o b, core_Do 1000 r0 (S1 a0).st (0, 1, 1, 1, a1, 3, 0, 9) = some (StR.st s, o, 0) ∧ Inv r0 s ∧ s.pr = [100, 7] ∧ s.ho = [[a0, 0], [0, 0], [0, 0]] ∧ s.ov = false ∧ s.t = 0 ∧ s.ids = [1] ∧
  s.B.1.getD 0 ad = (b, 90 * a0, 0) ∧ (a1 ≤ 90 * a0 → b = -a1 ∧ s.m = [] ∧ Is3 105000 s.B (-a1) (90 * a0)) ∧ (¬ a1 ≤ 90 * a0 → b = 0) := by
 obtain ⟨C, m', dn, o, q1, q2, q3⟩ := step_pay (inv1 h0) rfl (pay1 (a0 := a0) h1) (msg_pay ..)
 have g := goes_one (k := 1000) (by decide) (N := 100000) (by decide) (is3_1 h0) (may1 h1) rfl h1.2
 have e0 : (p1 a1).2.2.2.1 = a1 := rfl
 rw [e0] at g
 refine ⟨_, o, if a1 ≤ 90 * a0 then -a1 else 0, q1, q3, rfl, rfl, rfl, rfl, rfl, ?_⟩
 rcases loop_one (may_one (p := p1 a1) (t := (S1 a0).t) rfl) q2 with ⟨l1, rfl, rfl, rfl⟩ | ⟨l1, rfl, rfl⟩
 ·have hn : ¬ a1 ≤ 90 * a0 := fun q => by
   obtain ⟨D, d1, _⟩ := g.2 (by omega)
   rw [l1] at d1; cases d1
  rw [if_neg hn]
  exact ⟨rfl, fun q => absurd q hn, fun _ => rfl⟩
 ·have hy : a1 ≤ 90 * a0 := by
   by_cases q : a1 ≤ 90 * a0
   ·exact q
   ·rw [g.1 (by omega)] at l1; cases l1
  obtain ⟨D, d1, d2⟩ := g.2 (by omega)
  rw [l1] at d1
  cases d1
  have ez : (0 : Int) - a1 = -a1 := by omega
  rw [ez] at d2
  rw [if_pos hy]
  exact ⟨d2.me, fun _ => ⟨rfl, rfl, d2⟩, fun q => absurd hy q⟩
theorem price4 {s : StR} (hp : s.pr = [100, 7]) {a0 a2 : Int} (h0 : 1 ≤ a0 ∧ a0 ≤ 100) (h2 : 0 ≤ a2 ∧ a2 ≤ 200) (hh : s.ho = [[a0, 0], [0, 0], [0, 0]]) (hl : s.B.1.length = 3) :
  priceS r0 s 0 a2 = (0, { s with B := (credL r0.2.1 [a2, 7] s.ho s.B.1, s.B.2.1, s.B.2.2.1, s.B.2.2.2), pr := [a2, 7] }) := by
 unfold priceS
 have c1 : (!(decide ((0 : Int) ≥ 0) && decide ((0 : Int) ≤ (r0.2.1.length : Int) - 1))) = false := rfl
 have c2 : (!(decide (a2 ≥ 0) && decide (a2 ≤ 1048576))) = false := by rw [decide_eq_true (show a2 ≥ 0 by omega), decide_eq_true (show a2 ≤ 1048576 by omega)]; rfl
 rw [c1, c2]
 simp only [cond_false]
 have e : s.pr.set (0 : Int).toNat a2 = [a2, 7] := by rw [hp]; rfl
 rw [e]
 unfold priceN
 have hm := mul_le_of h2.1 h2.2 (show 0 ≤ a0 by omega) h0.2
 have hall : allF (fun j => !decide (credAt r0.2.1 [a2, 7] s.ho j > 1152921504606846976)) s.B.1.length 0 = true := allF_zero.2 fun i hi => by
  have : credAt r0.2.1 [a2, 7] s.ho i ≤ 1152921504606846976 := by
   unfold credAt
   rw [hh]
   rcases lt3' (show i < 3 by omega) with rfl | rfl | rfl
   ·show valueI r0.2.1 [a2, 7] [a0, 0] ≤ _
    rw [value_r0]
    generalize a2 * a0 = x at *
    omega
   ·show valueI r0.2.1 [a2, 7] [0, 0] ≤ _
    rw [value_r0]
    omega
   ·show valueI r0.2.1 [a2, 7] [0, 0] ≤ _
    rw [value_r0]
    omega
  rw [decide_eq_false (by omega)]
  rfl
 rw [hall]
 rfl
theorem pay5 {s : StR} (ht : s.t = 0) (hm : s.m = []) (hi : s.ids = [1]) : payS r0 s 0 (1, 2, 2, 1, 1, 0, 9) = (0, [p2], [1, 2]) := by
 unfold payS
 rw [ht, hm, hi]
 rfl
theorem after5 {s : StR} (hs : Inv r0 s) (hp : s.pr = [100, 7]) {a0 a1 a2 : Int} (h0 : 1 ≤ a0 ∧ a0 ≤ 100) (h1 : 1 ≤ a1 ∧ a1 ≤ 5000) (h2 : 0 ≤ a2 ∧ a2 ≤ 200) (hh : s.ho = [[a0, 0], [0, 0], [0, 0]]) (ho : s.ov = false) (ht : s.t = 0) (hi : s.ids = [1]) (hm : s.m = []) (h3 : Is3 105000 s.B (-a1) (90 * a0)) :
  ∃ t o u w b, core_Do 1000 r0 s.st (-1, 12, 0, a2, 0, 0, 0, 0) = some (StR.st t, o, 0) ∧ Inv r0 t ∧ (t.B.1.getD 0 ad).1 = -a1 ∧ core_Do 1000 r0 t.st (0, 1, 2, 2, 1, 1, 0, 9) = some (StR.st u, w, 0) ∧ Inv r0 u ∧ (u.B.1.getD 0 ad).1 = b ∧ b = (if -a1 + a2 * a0 * 9000 / 10000 ≥ 1 then -a1 - 1 else -a1) := by
 have hl := h3.len
 have e := price4 hp h0 h2 hh hl
 obtain ⟨C, m', dn, o, q1, q2, q3⟩ := do_price (k := 1000) (by decide) ways0.ok hs ho (f := (12, 0, a2, 0, 0, 0, 0)) rfl (msg_price 0 a2) (by show (priceS r0 s 0 a2).1 = 0; rw [e])
 have e' : priceS r0 s ((12, 0, a2, 0, 0, 0, 0) : MsgT).2.1 ((12, 0, a2, 0, 0, 0, 0) : MsgT).2.2.1 = _ := e
 rw [e'] at q1 q2 q3
 have q2' : Loop 1000 s.t (credL r0.2.1 [a2, 7] s.ho s.B.1, s.B.2.1, s.B.2.2.1, s.B.2.2.2) s.m dn C m' := q2
 rw [hm] at q2'
 obtain ⟨rfl, rfl, rfl⟩ := loop_nil q2'
 have w0 : credAt r0.2.1 [a2, 7] s.ho 0 = a2 * a0 * 9000 / 10000 := by
  unfold credAt
  rw [hh]
  exact value_r0 a2 a0
 have me0 : (credL r0.2.1 [a2, 7] s.ho s.B.1).getD 0 ad = (-a1, a2 * a0 * 9000 / 10000, 0) := by
  rw [credL_get _ _ _ _ (by omega), w0, h3.me]
 have i3 : Is3 105000 (credL r0.2.1 [a2, 7] s.ho s.B.1, s.B.2.1, s.B.2.2.1, s.B.2.2.2) (-a1) (a2 * a0 * 9000 / 10000) := by
  refine ⟨q3.bk, (credL_length _ _ _ _).trans hl, me0, fun i hi => ?_, h3.net, h3.bil, h3.mul⟩
  show -105000 ≤ ((credL r0.2.1 [a2, 7] s.ho s.B.1).getD i ad).1 ∧ ((credL r0.2.1 [a2, 7] s.ho s.B.1).getD i ad).1 ≤ 105000
  rw [credL_get _ _ _ _ (by omega)]
  exact h3.bal i hi
 obtain ⟨D, m2, d2, w, r1, r2, r3⟩ := step_pay q3 ho (pay5 ht rfl hi) (msg_pay ..)
 have g := goes_one (k := 1000) (by decide) (N := 105000) (by decide) i3 may2 rfl (by decide)
 have e0 : p2.2.2.2.1 = 1 := rfl
 rw [e0] at g
 refine ⟨_, o, _, w, (D.1.getD 0 ad).1, q1, q3, by show ((credL r0.2.1 [a2, 7] s.ho s.B.1).getD 0 ad).1 = -a1; rw [me0], r1, r3, rfl, ?_⟩
 have r2' : Loop 1000 s.t (credL r0.2.1 [a2, 7] s.ho s.B.1, s.B.2.1, s.B.2.2.1, s.B.2.2.2) [p2] d2 D m2 := r2
 rw [ht] at r2'
 rcases loop_one (may_one (p := p2) (t := 0) rfl) r2' with ⟨l1, rfl, rfl, rfl⟩ | ⟨l1, rfl, rfl⟩
 ·have hn : ¬ -a1 + a2 * a0 * 9000 / 10000 ≥ 1 := fun q => by
   obtain ⟨E, d1, _⟩ := g.2 q
   rw [l1] at d1; cases d1
  rw [if_neg hn]
  show ((credL r0.2.1 [a2, 7] s.ho s.B.1).getD 0 ad).1 = -a1
  rw [me0]
 ·have hy : -a1 + a2 * a0 * 9000 / 10000 ≥ 1 := by
   by_cases q : -a1 + a2 * a0 * 9000 / 10000 ≥ 1
   ·exact q
   ·rw [g.1 q] at l1; cases l1
  obtain ⟨E, d1, d2⟩ := g.2 hy
  rw [l1] at d1
  cases d1
  rw [if_pos hy, d2.me]
theorem len_is {s : StR} (h : Inv r0 s) : ((s.st.2.1.length : Nat) : Int) = 3 ∧ boundOk 0 s.st.2.1.length = true := by
 have : ((s.B.1.length : Nat) : Int) = 3 := h.n
 exact ⟨this, boundOk_true (by decide) (by show (0 : Int) < (s.B.1.length : Int); omega)⟩
theorem eqBool_self (b : Bool) : eqBool b b = true := by cases b <;> rfl
theorem corePool (a0 a1 a2 : Int) : girolaw23_CorePool 1000 a0 a1 a2 = some true := by
 unfold girolaw23_CorePool
 by_cases g1 : a0 < 1
 ·rw [decide_eq_true g1]; rfl
 by_cases g2 : a0 > 100
 ·rw [decide_eq_false g1, decide_eq_true g2]; rfl
 by_cases g3 : a1 < 1
 ·rw [decide_eq_false g1, decide_eq_false g2, decide_eq_true g3]; rfl
 by_cases g4 : a1 > 5000
 ·rw [decide_eq_false g1, decide_eq_false g2, decide_eq_false g3, decide_eq_true g4]; rfl
 by_cases g5 : a2 < 0
 ·rw [decide_eq_false g1, decide_eq_false g2, decide_eq_false g3, decide_eq_false g4, decide_eq_true g5]; rfl
 by_cases g6 : a2 > 200
 ·rw [decide_eq_false g1, decide_eq_false g2, decide_eq_false g3, decide_eq_false g4, decide_eq_false g5, decide_eq_true g6]; rfl
 rw [decide_eq_false g1, decide_eq_false g2, decide_eq_false g3, decide_eq_false g4, decide_eq_false g5, decide_eq_false g6]
 simp only [cond_false]
 have h0 : 1 ≤ a0 ∧ a0 ≤ 100 := by omega
 have h1 : 1 ≤ a1 ∧ a1 ≤ 5000 := by omega
 have h2 : 0 ≤ a2 ∧ a2 ≤ 200 := by omega
 have w90 : w64 (a0 * 90) = 90 * a0 := by rw [w64_id (by omega) (by omega)]; omega
 have c0 : girolaw23_rules 1000 0 = some r0 := by kernel_rfl
 have c1 : girolaw23_cmd 1000 0 8 [0, a0] = some (0, 8, 0, a0, 0, 0, 0, 0) := by kernel_rfl
 have c2 : girolaw23_cmd 1000 0 1 [1, 1, a1, 3, 0, 9] = some (0, 1, 1, 1, a1, 3, 0, 9) := by kernel_rfl
 have c3 : girolaw23_cmd 1000 0 8 [0, 0] = some (0, 8, 0, 0, 0, 0, 0, 0) := by kernel_rfl
 have c4 : girolaw23_cmd 1000 (-1) 12 [0, a2] = some (-1, 12, 0, a2, 0, 0, 0, 0) := by kernel_rfl
 have c5 : girolaw23_cmd 1000 0 1 [2, 2, 1, 1, 0, 9] = some (0, 1, 2, 2, 1, 1, 0, 9) := by kernel_rfl
 obtain ⟨o1, s1⟩ := step_hold h0
 obtain ⟨s, o2, b, s2, i2, f1, f2, f3, f4, f5, me, fy, fn⟩ := after2 h0 h1
 have hb : b < 0 ↔ a1 ≤ 90 * a0 := by
  by_cases q : a1 ≤ 90 * a0
  ·have := (fy q).1; omega
  ·have := fn q; omega
 obtain ⟨x7, o7, s3⟩ := do_hold3 i2 f3 (hold3 f1 f2 me (by omega))
 rw [c0]
 simp only [Option.bind_some]
 have hnew : core_New 1000 r0 = some S0.st := ways0.new
 rw [hnew]
 simp only [Option.bind_some]
 rw [c1]
 simp only [Option.bind_some]
 rw [step_of s1, w90]
 simp only [Option.bind_some, decide_true, Bool.not_true, cond_false]
 obtain ⟨l1, l1'⟩ := len_is (inv1 h0)
 have m1 : ((S1 a0).st.2.1.getD (0 : Int).toNat (0, 0, 0)).2.1 = 90 * a0 := rfl
 have m1' : ((S1 a0).st.2.1.getD 0 (0, 0, 0)).2.1 = 90 * a0 := rfl
 rw [l1, l1']
 simp only [decide_true, Bool.not_true, cond_false, cond_true]
 rw [m1', c2]
 simp only [decide_true, Bool.not_true, cond_false, cond_true, Option.bind_some]
 rw [step_of s2]
 simp only [Option.bind_some]
 obtain ⟨l2, l2'⟩ := len_is i2
 have m2 : (s.st.2.1.getD 0 (0, 0, 0)).1 = b := by
  have : s.B.1.getD 0 ad = (b, 90 * a0, 0) := me
  show (s.B.1.getD 0 ad).1 = b
  rw [this]
 have wn : w64 (0 - a1) = -a1 := by rw [w64_id (by omega) (by omega)]; omega
 rw [l2, l2', m2, wn]
 simp only [decide_true, Bool.not_true, cond_false, cond_true]
 have hb2 : decide (b = -a1) = decide (a1 ≤ 90 * a0) := by
  by_cases q : a1 ≤ 90 * a0
  ·rw [decide_eq_true q, decide_eq_true (fy q).1]
  ·have := fn q
   rw [decide_eq_false q, decide_eq_false (by omega)]
 rw [hb2, eqBool_self]
 simp only [Bool.not_true, cond_false]
 rw [c3]
 simp only [Option.bind_some]
 rw [s3]
 simp only [Option.bind_some]
 have hb3 : decide ((if b < 0 then (9 : Int) else 0) = 9) = decide (a1 ≤ 90 * a0) := by
  by_cases q : a1 ≤ 90 * a0
  ·rw [if_pos (hb.2 q), decide_eq_true q]; rfl
  ·rw [if_neg (fun z => q (hb.1 z)), decide_eq_false q]; rfl
 rw [hb3, eqBool_self]
 simp only [Bool.not_true, cond_false]
 rw [c4]
 simp only [Option.bind_some]
 by_cases q : a1 ≤ 90 * a0
 ·obtain ⟨_, fm, f6⟩ := fy q
  obtain ⟨t, o4, u, o5, b5, s4, i4, m4, s5, i5, m5, e5⟩ := after5 i2 f1 h0 h1 h2 f2 f3 f4 f5 fm f6
  rw [step_of s4]
  simp only [Option.bind_some]
  obtain ⟨l4, l4'⟩ := len_is i4
  rw [l4, l4', c5]
  simp only [decide_true, Bool.not_true, cond_false, cond_true, Option.bind_some]
  rw [step_of s5]
  simp only [Option.bind_some]
  obtain ⟨l5, l5'⟩ := len_is i5
  have m4' : (t.st.2.1.getD 0 (0, 0, 0)).1 = -a1 := m4
  have m5' : (u.st.2.1.getD 0 (0, 0, 0)).1 = b5 := m5
  rw [l5, l5', decide_eq_true q, m4', m5', known_is]
  simp only [decide_true, Bool.not_true, cond_false, cond_true, Option.bind_some]
  have hx := mul_le_of h2.1 h2.2 (show 0 ≤ a0 by omega) h0.2
  have ew : decide (b5 < -a1) = decide (w64 (-a1 + w64 (Int.tdiv (w64 (w64 (a2 * a0) * 9)) 10)) ≥ 1) := by
   generalize a2 * a0 = X at *
   rw [w64_id (x := X) (by omega) (by omega), w64_id (x := X * 9) (by omega) (by omega), Int.tdiv_eq_ediv_of_nonneg (by omega), w64_id (x := X * 9 / 10) (by omega) (by omega), w64_id (by omega) (by omega)]
   by_cases z : -a1 + X * 9000 / 10000 ≥ 1
   ·rw [if_pos z] at e5
    rw [decide_eq_true (by omega), decide_eq_true (by omega)]
   ·rw [if_neg z] at e5
    rw [decide_eq_false (by omega), decide_eq_false (by omega)]
  rw [ew, eqBool_self]
  rfl
 ·obtain ⟨t, o4, e4, s4, d4⟩ := step_is (k := 1000) (by decide) ways0.ok i2 ((-1, 12, 0, a2, 0, 0, 0, 0) : CmdT)
  obtain ⟨u, o5, e5, s5, d5⟩ := step_is (k := 1000) (by decide) ways0.ok d4.inv ((0, 1, 2, 2, 1, 1, 0, 9) : CmdT)
  rw [s4]
  simp only [Option.bind_some]
  obtain ⟨l4, l4'⟩ := len_is d4.inv
  rw [l4, l4', c5]
  simp only [decide_true, Bool.not_true, cond_false, cond_true, Option.bind_some]
  rw [s5]
  simp only [Option.bind_some]
  obtain ⟨l5, l5'⟩ := len_is d5.inv
  rw [l5, l5', decide_eq_false q, known_is]
  simp only [decide_true, Bool.not_true, Bool.not_false, cond_false, cond_true, Option.bind_some, cond_same]
end Go.Ab.Gi
