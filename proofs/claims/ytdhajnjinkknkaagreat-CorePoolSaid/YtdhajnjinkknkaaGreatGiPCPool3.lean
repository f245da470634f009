/- part 46 -/
import Derived.Test.YtdhajnjinkknkaaGreatGiPCPool2
set_option linter.unusedVariables false
set_option linter.unusedSimpArgs false
namespace Go.Ab.Gi
open Go.Ab
def p1 (a : Int) : PayT := (1, 0, 1, a, 3, 0, 9)
def p2 : PayT := (2, 0, 2, 1, 1, 0, 9)
def S0 : StR := startS r0
def S1 (a0 : Int) : StR := { S0 with B := ([(0, 90 * a0, 0), (0, 0, 0), (0, 0, 0)], S0.B.2.1, S0.B.2.2.1, S0.B.2.2.2), ho := [[a0, 0], [0, 0], [0, 0]] }
theorem lt3' {i : Nat} (h : i < 3) : i = 0 ∨ i = 1 ∨ i = 2 := by omega
theorem value_r0 (pr : Int) (a0 : Int) : valueI r0.2.1 [pr, 7] [a0, 0] = pr * a0 * 9000 / 10000 := by
 show (0 + worthI pr a0 1000) + worthI 7 0 0 = _
 unfold worthI
 have e : pr * a0 * (10000 - 1000) = pr * a0 * 9000 := rfl
 rw [e]
 generalize pr * a0 * 9000 / 10000 = x
 omega
theorem hold1 {a0 : Int} (h : 1 ≤ a0 ∧ a0 ≤ 100) : holdS r0 S0 0 0 a0 = (0, S1 a0) := by
 unfold holdS
 have c1 : (!(decide ((0 : Int) ≥ 0) && decide ((0 : Int) ≤ (r0.2.1.length : Int) - 1))) = false := rfl
 have c2 : (!(decide (a0 ≥ 0) && decide (a0 ≤ 1099511627776))) = false := by rw [decide_eq_true (show a0 ≥ 0 by omega), decide_eq_true (show a0 ≤ 1099511627776 by omega)]; rfl
 rw [c1, c2]
 simp only [cond_false]
 have e : ((S0.ho.getD (0 : Int).toNat []).set (0 : Int).toNat a0) = [a0, 0] := rfl
 have ep : S0.pr = [100, 7] := rfl
 rw [e, ep, value_r0]
 have ev : 100 * a0 * 9000 / 10000 = 90 * a0 := by omega
 rw [ev]
 unfold holdN
 rw [decide_eq_false (show ¬ 90 * a0 > 1152921504606846976 by omega)]
 have ec : decide (90 * a0 < (S0.B.1.getD (0 : Int).toNat ad).2.1) = false := decide_eq_false (by show ¬ 90 * a0 < 0; omega)
 rw [ec]
 rfl
theorem pay1 {a0 a1 : Int} (h : 1 ≤ a1 ∧ a1 ≤ 5000) : payS r0 (S1 a0) 0 (1, 1, 1, a1, 3, 0, 9) = (0, [p1 a1], [1]) := by
 have ck : checkS r0 (S1 a0).t (payF 0 (1, 1, 1, a1, 3, 0, 9)) = 0 := by
  unfold checkS
  have : isPayB r0.1 (S1 a0).t (payF 0 (1, 1, 1, a1, 3, 0, 9)) = true := by
   unfold isPayB
   show (true && true && (true && true && (true && (decide (a1 ≥ 1) && (decide (a1 ≤ 1099511627776) && (true && (true && (true && (true && (true && (true && true))))))))))) = true
   rw [decide_eq_true (show a1 ≥ 1 by omega), decide_eq_true (show a1 ≤ 1099511627776 by omega)]
   rfl
  rw [this]
  rfl
 unfold payS
 rw [ck]
 rfl
theorem inv1 {a0 : Int} (h : 1 ≤ a0 ∧ a0 ≤ 100) : Inv r0 (S1 a0) := by
 have g := hold_inv ways0.ok ways0.inv (who := 0) (by decide) (a := 0) (many := a0) (by show (holdS r0 S0 0 0 a0).1 = 0; rw [hold1 h])
 have e : holdS r0 (startS r0) 0 0 a0 = (0, S1 a0) := hold1 h
 rw [e] at g
 exact g
theorem is3_1 {a0 : Int} (h : 1 ≤ a0 ∧ a0 ≤ 100) : Is3 100000 (S1 a0).B 0 (90 * a0) where
 bk := (inv1 h).bk
 len := rfl
 me := rfl
 bal := fun i hi => by rcases lt3' hi with rfl | rfl | rfl <;> (show (-100000 : Int) ≤ 0 ∧ (0 : Int) ≤ 100000) <;> omega
 net := fun i hi j hj => by rcases lt3' hi with rfl | rfl | rfl <;> rcases lt3' hj with rfl | rfl | rfl <;> (show (-100000 : Int) ≤ 0 ∧ (0 : Int) ≤ 100000) <;> omega
 bil := fun j hj => by rcases lt3' hj with rfl | rfl | rfl <;> rfl
 mul := rfl
theorem may1 {a1 : Int} (h : 1 ≤ a1 ∧ a1 ≤ 5000) : May 3 (p1 a1) := ⟨(show (0 : Int) ≤ 0 by decide), (show (0 : Int) < ((3 : Nat) : Int) by decide), (show (0 : Int) ≤ 1 by decide), (show (1 : Int) < ((3 : Nat) : Int) by decide), (show (0 : Int) ≠ 1 by decide), h.1, by show a1 ≤ 1099511627776; omega, (show (1 : Int) ≤ 3 by decide), (show (3 : Int) ≤ 3 by decide)⟩
theorem may2 : May 3 p2 := ⟨by decide, by decide, by decide, by decide, by decide, by decide, by decide, by decide, by decide⟩
theorem step_hold {a0 : Int} (h : 1 ≤ a0 ∧ a0 ≤ 100) : ∃ o, core_Do 1000 r0 S0.st (0, 8, 0, a0, 0, 0, 0, 0) = some ((S1 a0).st, o, 0) := by
 obtain ⟨d, e1, e2⟩ := holds_eq (k := 1000) (by decide) ways0.ok ways0.inv (who := 0) (by decide) [noteO 0 15 0] 0 a0
 have e : holdS r0 (startS r0) 0 0 a0 = (0, S1 a0) := hold1 h
 rw [e] at e1 e2
 have hd : core_desk_does 1000 (dk r0 (startS r0) 0 [noteO 0 15 0]) (8, 0, a0, 0, 0, 0, 0) = some (0, d) := by
  have : (core_desk_holds 1000 (dk r0 (startS r0) 0 [noteO 0 15 0]) 0 a0).bind (fun x => some (x.1, x.2)) = some (0, d) := by rw [e1]; rfl
  exact this
 obtain ⟨C, m', dn, o, q1, q2, q3⟩ := (do_party (k := 1000) (by decide) ways0.ok (s := startS r0) rfl (who := 0) (by decide) (f := (8, 0, a0, 0, 0, 0, 0)) (show (1 : Int) ≤ 8 ∧ (8 : Int) ≤ 8 by decide) (by kernel_rfl) hd).2 rfl (S1 a0) [noteO 0 15 0] (e2 rfl) (by simp) (inv1 h) rfl
 obtain ⟨rfl, rfl, rfl⟩ := loop_nil q2
 exact ⟨o, q1⟩
theorem step_pay {s : StR} (hs : Inv r0 s) (ho : s.ov = false) {id to n cl : Int} {m : List PayT} {ids : List Int} (hp : payS r0 s 0 (1, id, to, n, cl, 0, 9) = (0, m, ids)) (hm : msg_Is 1000 (1, id, to, n, cl, 0, 9) = some true) :
  ∃ C m' dn o, core_Do 1000 r0 s.st (0, 1, id, to, n, cl, 0, 9) = some (({ s with m := m', ids := ids, B := C } : StR).st, o, 0) ∧ Loop 1000 s.t s.B m dn C m' ∧ Inv r0 { s with m := m', ids := ids, B := C } := by
 obtain ⟨d, e1, e2⟩ := pays_eq (k := 1000) (by decide) ways0.ok hs.waits 0 [noteO 0 15 0] (1, id, to, n, cl, 0, 9)
 have hw := pay_waits ways0.ok hs (who := 0) (f := (1, id, to, n, cl, 0, 9)) (by rw [hp])
 rw [hp] at e1 e2 hw
 have hd : core_desk_does 1000 (dk r0 s 0 [noteO 0 15 0]) (1, id, to, n, cl, 0, 9) = some (0, d) := by
  have : (core_desk_pays 1000 (dk r0 s 0 [noteO 0 15 0]) (id, to, n, cl, 0, 9)).bind (fun x => some (x.1, x.2)) = some (0, d) := by
   have e1' : core_desk_pays 1000 (dk r0 s 0 [noteO 0 15 0]) (id, to, n, cl, 0, 9) = some (0, d) := e1
   rw [e1']; rfl
  exact this
 obtain ⟨C, m', dn, o, q1, q2, q3⟩ := (do_party (k := 1000) (by decide) ways0.ok ho (who := 0) (by decide) (f := (1, id, to, n, cl, 0, 9)) (show (1 : Int) ≤ 1 ∧ (1 : Int) ≤ 8 by decide) hm hd).2 rfl { s with m := m, ids := ids } [noteO 0 15 0] (e2 rfl) (by simp) (hs.queue ho hw) ho
 exact ⟨C, m', dn, o, q1, q2, q3⟩
theorem msg_hold (a n : Int) : msg_Is 1000 (8, a, n, 0, 0, 0, 0) = some true := by kernel_rfl
theorem msg_price (a n : Int) : msg_Is 1000 (12, a, n, 0, 0, 0, 0) = some true := by kernel_rfl
theorem msg_pay (a b c d e f : Int) : msg_Is 1000 (1, a, b, c, d, e, f) = some true := by kernel_rfl
theorem hold3 {s : StR} (hp : s.pr = [100, 7]) {a0 : Int} (hh : s.ho = [[a0, 0], [0, 0], [0, 0]]) {b c : Int} (hme : s.B.1.getD 0 ad = (b, c, 0)) (hc : 0 < c) : (holdS r0 s 0 0 0).1 = (if b < 0 then 9 else 0) := by
 unfold holdS
 have c1 : (!(decide ((0 : Int) ≥ 0) && decide ((0 : Int) ≤ (r0.2.1.length : Int) - 1))) = false := rfl
 have c2 : (!(decide ((0 : Int) ≥ 0) && decide ((0 : Int) ≤ 1099511627776))) = false := rfl
 rw [c1, c2]
 simp only [cond_false]
 have e : ((s.ho.getD (0 : Int).toNat []).set (0 : Int).toNat 0) = [0, 0] := by rw [hh]; rfl
 rw [e, hp, value_r0]
 have ev : (100 : Int) * 0 * 9000 / 10000 = 0 := by decide
 rw [ev]
 unfold holdN
 have em : s.B.1.getD (0 : Int).toNat ad = (b, c, 0) := hme
 rw [em]
 have c3 : decide ((0 : Int) > 1152921504606846976) = false := by decide
 have c4 : decide ((0 : Int) < c) = true := decide_eq_true hc
 rw [c3]
 simp only [cond_false]
 rw [c4, Bool.true_and]
 by_cases q : b < 0
 ·rw [if_pos q, decide_eq_true (show b + 0 < 0 by omega)]; rfl
 ·rw [if_neg q, decide_eq_false (show ¬ b + 0 < 0 by omega)]; rfl
theorem do_hold3 {s : StR} (hs : Inv r0 s) (ho : s.ov = false) {e : Int} (he : (holdS r0 s 0 0 0).1 = e) : ∃ x o, core_Do 1000 r0 s.st (0, 8, 0, 0, 0, 0, 0, 0) = some (x, o, e) := by
 obtain ⟨d, e1, e2⟩ := holds_eq (k := 1000) (by decide) ways0.ok hs (who := 0) (by decide) [noteO 0 15 0] 0 0
 rw [he] at e1
 have hd : core_desk_does 1000 (dk r0 s 0 [noteO 0 15 0]) (8, 0, 0, 0, 0, 0, 0) = some (e, d) := by
  have : (core_desk_holds 1000 (dk r0 s 0 [noteO 0 15 0]) 0 0).bind (fun x => some (x.1, x.2)) = some (e, d) := by rw [e1]; rfl
  exact this
 have g := do_party (k := 1000) (by decide) ways0.ok ho (who := 0) (by decide) (f := (8, 0, 0, 0, 0, 0, 0)) ⟨by decide, by decide⟩ (msg_hold 0 0) hd
 by_cases hz : e = 0
 ·have hi := hold_inv ways0.ok hs (who := 0) (by decide) (a := 0) (many := 0) (he.trans hz)
  obtain ⟨C, m', dn, o, q1, _⟩ := g.2 hz _ _ (e2 (he.trans hz)) (by simp) hi ((holdS_rest r0 s 0 0 0).2.1.trans ho)
  exact ⟨_, o, by rw [q1, hz]⟩
 ·exact ⟨_, _, g.1 hz⟩
end Go.Ab.Gi
