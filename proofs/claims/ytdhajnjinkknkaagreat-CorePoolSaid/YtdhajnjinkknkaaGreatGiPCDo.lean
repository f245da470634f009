/- part 38 -/
import Derived.Test.YtdhajnjinkknkaaGreatGiPCInv2
set_option linter.unusedVariables false
set_option linter.unusedSimpArgs false
namespace Go.Ab.Gi
open Go.Ab
abbrev CmdT := Int × MsgT
theorem many_is (k : Nat) (kd : Int) : ∃ n, msg_Many k kd = some n ∧ -1 ≤ n ∧ n ≤ 6 := by
 have c : ∀ (b : Bool) (x y : Option Int), (∃ n, x = some n ∧ -1 ≤ n ∧ n ≤ 6) → (∃ n, y = some n ∧ -1 ≤ n ∧ n ≤ 6) → ∃ n, (bif b then x else y) = some n ∧ -1 ≤ n ∧ n ≤ 6 := by
  intro b x y hx hy
  cases b
  ·exact hy
  ·exact hx
 unfold msg_Many
 iterate 23 (refine c _ _ _ ⟨_, rfl, by decide, by decide⟩ ?_)
 exact ⟨_, rfl, by decide, by decide⟩
theorem zeros_is {k : Nat} {s : List Int} (hs : s.length ≤ 6) : ∀ (n i : Nat), s.length < i + n → i ≤ s.length → ∃ x, msg_Is_L0 k n s (s.length : Int) (i : Int) = some x
 | 0, i, h, g => by omega
 | n + 1, i, h, g => by
  show ∃ x, msg_Is_L0b k (msg_Is_L0 k n) s (s.length : Int) (i : Int) = some x
  unfold msg_Is_L0b
  by_cases hi : i < s.length
  ·simp only [dec_lt, decide_eq_true hi, cond_true, boundOk_nat, Int.toNat_natCast]
   cases decide (s.getD i 0 = 0) with
   | false => exact ⟨_, rfl⟩
   | true =>
    simp only [Bool.not_true, cond_false]
    rw [w64_succ hi (by omega)]
    exact zeros_is hs n (i + 1) (by omega) hi
  ·simp only [dec_lt, decide_eq_false hi, cond_false]
   exact ⟨_, rfl⟩
theorem msg_is {k : Nat} (hk : 10 ≤ k) (f : MsgT) : ∃ b, msg_Is k f = some b := by
 unfold msg_Is
 obtain ⟨n, h1, h2, h3⟩ := many_is k f.1
 rw [h1]
 simp only [Option.bind_some]
 by_cases h0 : n < 0
 ·rw [decide_eq_true h0]; exact ⟨_, rfl⟩
 ·rw [decide_eq_false h0, decide_eq_true (show (0 : Int) ≤ n by omega), decide_eq_true h3]
  simp only [cond_false, Bool.and_true, cond_true]
  have hl : (slc [f.2.1, f.2.2.1, f.2.2.2.1, f.2.2.2.2.1, f.2.2.2.2.2.1, f.2.2.2.2.2.2] n.toNat (6 - n.toNat)).length ≤ 6 := by
   unfold slc
   rw [List.length_take, List.length_drop]
   omega
  obtain ⟨x, hx⟩ := zeros_is (k := k) hl k 0 (by omega) (Nat.zero_le _)
  rw [show ((0 : Nat) : Int) = 0 from rfl] at hx
  rw [hx]
  cases x <;> exact ⟨_, rfl⟩
theorem host_eq (k : Nat) (a : Int) : msg_Host k a = some (decide (a ≥ 10) && decide (a ≤ 14)) := by
 unfold msg_Host; cases decide (a ≥ 10) <;> rfl
theorem asked_eq (k : Nat) (a : Int) : msg_Asked k a = some (decide (a ≥ 1) && decide (a ≤ 14)) := by
 unfold msg_Asked; cases decide (a ≥ 1) <;> rfl
def mayC (A B C D E F G b o : Bool) : Int :=
 bif !(D && C) then 5 else bif !b then 5 else bif B && C then (bif !E then 5 else bif o && !G then 7 else 0) else bif !(A && F) then 5 else bif o && !G then 7 else 0
theorem mayC_zero : ∀ {A B C D E F G b o : Bool}, mayC A B C D E F G b o = 0 → (D && C && ((B && E) || (!B && A && F)) && (!o || G)) = true := by
 intro A B C D E F G b o h
 cases A <;> cases B <;> cases C <;> cases D <;> cases E <;> cases F <;> cases G <;> cases b <;> cases o <;> first | rfl | exact absurd h (by decide)
theorem may_eq {k : Nat} (hk : 10 ≤ k) (r : RulesT) (s : StR) (c : CmdT) : ∃ b, core_may k r s.st c = some (mayC (decide (c.1 ≥ 0)) (decide (c.2.1 ≥ 10)) (decide (c.2.1 ≤ 14)) (decide (c.2.1 ≥ 1)) (decide (c.1 = -1)) (decide (c.1 < r.1)) (decide (c.2.1 = 9)) b s.ov) := by
 unfold core_may
 rw [host_eq, asked_eq]
 simp only [Option.bind_some]
 obtain ⟨b, hb⟩ := msg_is hk c.2
 rw [hb]
 simp only [Option.bind_some]
 have eo : s.st.2.2.2.2.2.2.2.2.2.2 = s.ov := rfl
 rw [eo]
 refine ⟨b, ?_⟩
 generalize decide (c.1 ≥ 0) = A
 generalize decide (c.2.1 ≥ 10) = B
 generalize decide (c.2.1 ≤ 14) = C
 generalize decide (c.2.1 ≥ 1) = D
 generalize decide (c.1 = -1) = E
 generalize decide (c.1 < r.1) = F
 generalize decide (c.2.1 = 9) = G
 generalize s.ov = o
 cases A <;> cases B <;> cases C <;> cases D <;> cases E <;> cases F <;> cases G <;> cases b <;> cases o <;> rfl
theorem may_is {k : Nat} (hk : 10 ≤ k) (r : RulesT) (s : StR) (c : CmdT) : ∃ e, core_may k r s.st c = some e ∧
  (e = 0 → ((10 ≤ c.2.1 ∧ c.2.1 ≤ 14 ∧ c.1 = -1) ∨ (1 ≤ c.2.1 ∧ c.2.1 ≤ 9 ∧ 0 ≤ c.1 ∧ c.1 < r.1)) ∧ (s.ov = true → c.2.1 = 9)) := by
 obtain ⟨b, hb⟩ := may_eq hk r s c
 refine ⟨_, hb, fun e => ?_⟩
 have := mayC_zero e
 simp only [Bool.and_eq_true, Bool.or_eq_true, Bool.not_eq_true', decide_eq_true_eq, decide_eq_false_iff_not] at this
 refine ⟨by omega, fun ho => ?_⟩
 rcases this.2 with g | g
 ·rw [ho] at g; cases g
 ·exact g
structure Dealt (r : RulesT) (s : StR) (f : MsgT) (t : StR) (l : List OutT) : Prop where
 inv : Inv r t
 tk : t.t = s.t
 ov : t.ov = s.ov
 few : l.length ≤ 2
 to : t.to = s.to + (if f.1 = 10 then f.2.2.1 else if f.1 = 11 then -f.2.2.1 else 0)
theorem limS_rest (r : RulesT) (s : StR) (who : Int) (f : MsgT) : (limS r s who f).2.t = s.t ∧ (limS r s who f).2.ov = s.ov ∧ (limS r s who f).2.to = s.to := by
 unfold limS
 cases decide (f.1 = 5) with
 | true =>
  cases !((decide (f.2.1 ≥ 0) && decide (f.2.1 ≤ r.1 - 1)) && !decide (f.2.1 = who)) <;> cases !(decide (f.2.2.1 ≥ -1) && decide (f.2.2.1 ≤ 1152921504606846976)) <;> exact ⟨rfl, rfl, rfl⟩
 | false =>
  cases decide (f.1 = 6) with
  | true => cases !(decide (f.2.1 ≥ -1) && decide (f.2.1 ≤ 1152921504606846976)) <;> exact ⟨rfl, rfl, rfl⟩
  | false => cases !(decide (f.2.1 ≥ 0) && decide (f.2.1 ≤ 1152921504606846976)) <;> exact ⟨rfl, rfl, rfl⟩
theorem holdS_rest (r : RulesT) (s : StR) (who a n : Int) : (holdS r s who a n).2.t = s.t ∧ (holdS r s who a n).2.ov = s.ov ∧ (holdS r s who a n).2.to = s.to := by
 unfold holdS
 cases !(decide (a ≥ 0) && decide (a ≤ (r.2.1.length : Int) - 1)) with
 | true => exact ⟨rfl, rfl, rfl⟩
 | false =>
 cases !(decide (n ≥ 0) && decide (n ≤ 1099511627776)) with
 | true => exact ⟨rfl, rfl, rfl⟩
 | false =>
 simp only [cond_false]
 unfold holdN
 generalize (s.ho.getD who.toNat []).set a.toNat n = h
 cases decide (valueI r.2.1 s.pr h > 1152921504606846976) with
 | true => exact ⟨rfl, rfl, rfl⟩
 | false => cases decide (valueI r.2.1 s.pr h < (s.B.1.getD who.toNat ad).2.1) && decide ((s.B.1.getD who.toNat ad).1 + valueI r.2.1 s.pr h < 0) <;> exact ⟨rfl, rfl, rfl⟩
theorem priceS_rest (r : RulesT) (s : StR) (a p : Int) : (priceS r s a p).2.t = s.t ∧ (priceS r s a p).2.ov = s.ov ∧ (priceS r s a p).2.to = s.to := by
 unfold priceS
 cases !(decide (a ≥ 0) && decide (a ≤ (r.2.1.length : Int) - 1)) with
 | true => exact ⟨rfl, rfl, rfl⟩
 | false =>
 cases !(decide (p ≥ 0) && decide (p ≤ 1048576)) with
 | true => exact ⟨rfl, rfl, rfl⟩
 | false =>
 simp only [cond_false]
 unfold priceN
 cases allF (fun j => !decide (credAt r.2.1 (s.pr.set a.toNat p) s.ho j > 1152921504606846976)) s.B.1.length 0 <;> exact ⟨rfl, rfl, rfl⟩
theorem moveS_ov {r : RulesT} {s : StR} {kd to n : Int} : (moveS r s kd to n).2.ov = s.ov := by
 unfold moveS
 cases !(decide (to ≥ 0) && decide (to ≤ r.1 - 1)) with
 | true => rfl
 | false =>
 cases !(decide (n ≥ 1) && decide (n ≤ 1099511627776)) with
 | true => rfl
 | false =>
 simp only [cond_false]
 cases decide (kd = 11) with
 | true =>
  simp only [cond_true]
  unfold outN
  cases decide ((s.B.1.getD to.toNat ad).1 + (s.B.1.getD to.toNat ad).2.1 - (s.B.1.getD to.toNat ad).2.2 < n) <;> cases decide (s.to - n < 0) <;> cases decide ((movedS (s.B.1.getD to.toNat ad) (-n)).2 = 0) <;> cases decide (s.to - n > 1152921504606846976) <;> rfl
 | false =>
  simp only [cond_false]
  unfold inN
  cases decide ((movedS (s.B.1.getD to.toNat ad) n).2 = 0) <;> cases decide (s.to + n > 1152921504606846976) <;> rfl
theorem waitS_few {r : RulesT} {s : StR} {who : Int} {f : MsgT} : (waitS r s who f).2.2.length ≤ 1 := by
 unfold waitS
 cases posL s.m f.2.1 with
 | none => exact Nat.zero_le _
 | some x =>
  simp only []
  cases !decide ((s.m.getD x pd).2.1 = who) with
  | true => exact Nat.zero_le _
  | false =>
  cases decide (f.1 = 2) with
  | true => exact Nat.le_refl _
  | false =>
  cases decide (f.1 = 4) with
  | true =>
   cases !(decide (f.2.2.1 ≥ 1) && decide (f.2.2.1 ≤ 3)) <;> cases !decide (mayS r.2.2.1 r.2.2.2.1 s.t f.2.2.1 = 0) <;> exact Nat.zero_le _
  | false =>
  cases decide (f.2.2.1 = 0) <;> cases decide (f.2.2.1 = 1) <;> exact Nat.zero_le _
theorem does_is {k : Nat} (hk : 1000 ≤ k) {r : RulesT} (hr : RulesOK r) {s : StR} (h : Inv r s) (ho : s.ov = false) {who : Int} (hw : 0 ≤ who ∧ who < r.1) {f : MsgT} (hf : 1 ≤ f.1 ∧ f.1 ≤ 8) (x : OutT) :
  ∃ e d, core_desk_does k (dk r s who [x]) f = some (e, d) ∧ (e = 0 → ∃ t l, d = dk r t who l ∧ Dealt r s f t l) := by
 unfold core_desk_does
 have h10 : ¬ f.1 = 10 := by omega
 have h11 : ¬ f.1 = 11 := by omega
 have h0 : s.to = s.to + (if f.1 = 10 then f.2.2.1 else if f.1 = 11 then -f.2.2.1 else 0) := by rw [if_neg h10, if_neg h11]; omega
 by_cases h1 : f.1 = 1
 ·rw [decide_eq_true h1]
  obtain ⟨d, e1, e2⟩ := pays_eq hk hr h.waits who [x] f
  simp only [cond_true]
  rw [e1]
  refine ⟨_, d, rfl, fun e => ⟨_, _, e2 e, h.queue ho (pay_waits hr h e), rfl, rfl, by simp, h0⟩⟩
 rw [decide_eq_false h1]
 by_cases hq : f.1 = 2 ∨ f.1 = 3 ∨ f.1 = 4
 ·obtain ⟨d, e1, e2⟩ := waits_eq hk h.waits who (l := [x]) (by simp) f
  have g : ∃ e d, (core_desk_waits k (dk r s who [x]) f).bind (fun x => some (x.1, x.2)) = some (e, d) ∧ (e = 0 → ∃ t l, d = dk r t who l ∧ Dealt r s f t l) := by
   rw [e1]
   refine ⟨_, d, rfl, fun e => ⟨_, _, e2 e, h.queue ho (wait_waits h e), rfl, rfl, ?_, h0⟩⟩
   have := waitS_few (r := r) (s := s) (who := who) (f := f)
   rw [List.length_append]
   simp
   omega
  rcases hq with e | e | e
  ·rw [decide_eq_true e]; exact g
  ·rw [decide_eq_false (show ¬ f.1 = 2 by omega), decide_eq_true e]; exact g
  ·rw [decide_eq_false (show ¬ f.1 = 2 by omega), decide_eq_false (show ¬ f.1 = 3 by omega), decide_eq_true e]; exact g
 rw [decide_eq_false (show ¬ f.1 = 2 by omega), decide_eq_false (show ¬ f.1 = 3 by omega), decide_eq_false (show ¬ f.1 = 4 by omega)]
 by_cases hq : f.1 = 5 ∨ f.1 = 6 ∨ f.1 = 7
 ·obtain ⟨d, e1, e2⟩ := limits_eq hk hr h.bk h.n hw [x] f
  have g : ∃ e d, (core_desk_limits k (dk r s who [x]) f).bind (fun x => some (x.1, x.2)) = some (e, d) ∧ (e = 0 → ∃ t l, d = dk r t who l ∧ Dealt r s f t l) := by
   rw [e1]
   have hrest := limS_rest r s who f
   refine ⟨_, d, rfl, fun e => ⟨_, _, e2 e, lim_inv h hw e, hrest.1, hrest.2.1, by simp, hrest.2.2.trans h0⟩⟩
  rcases hq with e | e | e
  ·rw [decide_eq_true e]; exact g
  ·rw [decide_eq_false (show ¬ f.1 = 5 by omega), decide_eq_true e]; exact g
  ·rw [decide_eq_false (show ¬ f.1 = 5 by omega), decide_eq_false (show ¬ f.1 = 6 by omega), decide_eq_true e]; exact g
 rw [decide_eq_false (show ¬ f.1 = 5 by omega), decide_eq_false (show ¬ f.1 = 6 by omega), decide_eq_false (show ¬ f.1 = 7 by omega), decide_eq_true (show f.1 = 8 by omega)]
 obtain ⟨d, e1, e2⟩ := holds_eq hk hr h hw [x] f.2.1 f.2.2.1
 simp only [cond_true, cond_false]
 rw [e1]
 have hrest := holdS_rest r s who f.2.1 f.2.2.1
 exact ⟨_, d, rfl, fun e => ⟨_, _, e2 e, hold_inv hr h hw e, hrest.1, hrest.2.1, by simp, hrest.2.2.trans h0⟩⟩
theorem does2_is {k : Nat} (hk : 1000 ≤ k) {r : RulesT} (hr : RulesOK r) {s : StR} (h : Inv r s) (who : Int) {f : MsgT} (hf : 10 ≤ f.1 ∧ f.1 ≤ 14) :
  ∃ e d, core_desk_does_v2 k (dk2 r s who) f = some (e, d) ∧ (e = 0 → ∃ t l, d = dk r t who l ∧ Dealt r s f t l) := by
 unfold core_desk_does_v2
 rw [decide_eq_false (show ¬ f.1 = 1 by omega), decide_eq_false (show ¬ f.1 = 2 by omega), decide_eq_false (show ¬ f.1 = 3 by omega), decide_eq_false (show ¬ f.1 = 4 by omega), decide_eq_false (show ¬ f.1 = 5 by omega), decide_eq_false (show ¬ f.1 = 6 by omega), decide_eq_false (show ¬ f.1 = 7 by omega), decide_eq_false (show ¬ f.1 = 8 by omega)]
 by_cases hq : f.1 = 10 ∨ f.1 = 11
 ·obtain ⟨d, e1, e2⟩ := moves_eq hk hr h who f.1 f.2.1 f.2.2.1
  have g : ∃ e d, (core_desk_moves_v2 k (dk2 r s who) f.1 f.2.1 f.2.2.1).bind (fun x => some (x.1, x.2)) = some (e, d) ∧ (e = 0 → ∃ t l, d = dk r t who l ∧ Dealt r s f t l) := by
   rw [e1]
   refine ⟨_, d, rfl, fun e => ?_⟩
   obtain ⟨g1, g2, g3, g4, g5⟩ := move_inv h e
   refine ⟨_, _, e2 e, g1, g5, moveS_ov, by simp, ?_⟩
   rw [g2]
   rcases hq with e | e
   ·rw [if_neg (by omega), if_pos e]
   ·rw [if_pos e, if_neg (by omega), if_pos e]
  rcases hq with e | e
  ·rw [decide_eq_true e]; exact g
  ·rw [decide_eq_false (show ¬ f.1 = 10 by omega), decide_eq_true e]; exact g
 have h0 : s.to = s.to + (if f.1 = 10 then f.2.2.1 else if f.1 = 11 then -f.2.2.1 else 0) := by rw [if_neg (by omega), if_neg (by omega)]; omega
 rw [decide_eq_false (show ¬ f.1 = 10 by omega), decide_eq_false (show ¬ f.1 = 11 by omega)]
 by_cases hp : f.1 = 12
 ·rw [decide_eq_true hp]
  obtain ⟨d, e1, e2⟩ := price_eq hk hr h who f.2.1 f.2.2.1
  simp only [cond_true, cond_false]
  rw [e1]
  have hrest := priceS_rest r s f.2.1 f.2.2.1
  exact ⟨_, d, rfl, fun e => ⟨_, _, e2 e, price_inv h e, hrest.1, hrest.2.1, by simp, hrest.2.2.trans h0⟩⟩
 ·rw [decide_eq_false hp]
  exact ⟨_, _, rfl, fun _ => ⟨s, [], rfl, h, rfl, rfl, by simp, h0⟩⟩
end Go.Ab.Gi
