/- part 37 -/
import Derived.Test.YtdhajnjinkknkaaGreatGiPCInv
set_option linter.unusedVariables false
set_option linter.unusedSimpArgs false
namespace Go.Ab.Gi
open Go.Ab
theorem limB_of {n : Int} (h : -1 ≤ n ∧ n ≤ 1152921504606846976) : limB n = true := by
 unfold limB; simp; omega
theorem acctB_iff {a : Acc} : acctB a = true ↔ (-4611686018427387904 < a.1 ∧ a.1 < 4611686018427387904) ∧ (0 ≤ a.2.1 ∧ a.2.1 ≤ 2305843009213693952) ∧ (0 ≤ a.2.2 ∧ a.2.2 ≤ 2305843009213693952) := by
 unfold acctB; simp only [Bool.and_eq_true, decide_eq_true_eq]; omega
theorem Books.setBil {a : List Acc} {b : Mtx'} {m : List Int} {p : Mtx'} (h : Books a b m p) {w i : Nat} (hw : w < a.length) (hi : i < a.length) {n : Int} (hn : -1 ≤ n ∧ n ≤ 1152921504606846976) : Books a (b.set w ((b.getD w []).set i n)) m p :=
  { h with
    bl := by rw [List.length_set]; exact h.bl
    br := fun j hj => by
      rw [getD_set]
      split
      · rw [List.length_set]; exact h.br w hw
      · exact h.br j hj
    bil := fun j hj k hk => by
      unfold cell
      rw [getD_set]
      split
      · rename_i e
        rw [getD_set]
        split
        · exact limB_of hn
        · exact h.bil w hw k hk
      · exact h.bil j hj k hk }
theorem Books.setMul {a : List Acc} {b : Mtx'} {m : List Int} {p : Mtx'} (h : Books a b m p) (w : Nat) {n : Int} (hn : -1 ≤ n ∧ n ≤ 1152921504606846976) : Books a b (m.set w n) p :=
  { h with
    ml := by rw [List.length_set]; exact h.ml
    mul := fun j hj => by
      rw [getD_set]
      split
      · exact limB_of hn
      · exact h.mul j hj }
theorem Books.setAcct {a : List Acc} {b : Mtx'} {m : List Int} {p : Mtx'} (h : Books a b m p) {a' : List Acc} (hl : a'.length = a.length) (ha : ∀ i, i < a.length → acctB (a'.getD i ad) = true) : Books a' b m p where
 n1 := by rw [hl]; exact h.n1
 n6 := by rw [hl]; exact h.n6
 bl := by rw [hl]; exact h.bl
 br := by rw [hl]; exact h.br
 ml := by rw [hl]; exact h.ml
 pl := by rw [hl]; exact h.pl
 pr := by rw [hl]; exact h.pr
 mul := by rw [hl]; exact h.mul
 bil := by rw [hl]; exact h.bil
 acct := by rw [hl]; exact ha
 net := by rw [hl]; exact h.net
 turn := by rw [hl]; exact h.turn
theorem sumN_set {n : Nat} {g : Nat → Int} {i : Nat} (hi : i < n) (d : Int) : sumN (fun j => if j = i then g j + d else g j) n = sumN g n + d := by
 have e : sumN (fun j => if j = i then g j + d else g j) n = sumN (fun j => g j + (if j = i then d else 0)) n := sumN_congr fun j _ => by
  by_cases h : j = i
  ·rw [if_pos h, if_pos h]
  ·rw [if_neg h, if_neg h]; omega
 rw [e, sumN_add, sumN_one, if_pos hi]
theorem Inv.books {r : RulesT} {s : StR} (h : Inv r s) {B : BT} (hb : BooksT B) (hl : B.1.length = s.B.1.length) (hbal : ∀ i, i < s.B.1.length → (B.1.getD i ad).1 = (s.B.1.getD i ad).1) (hc : ∀ i, i < s.B.1.length → (B.1.getD i ad).2.1 = (s.B.1.getD i ad).2.1) : Inv r { s with B := B } where
 tk := h.tk
 bk := hb
 n := by show ((B.1.length : Nat) : Int) = r.1; rw [hl]; exact h.n
 hol := by show s.ho.length = B.1.length; rw [hl]; exact h.hol
 laid := by show ∀ i, i < B.1.length → _; rw [hl]; exact h.laid
 cred := by show ∀ i, i < B.1.length → _; rw [hl]; intro i hi; show (B.1.getD i ad).2.1 = _; rw [hc i hi]; exact h.cred i hi
 most := by show ∀ i, i < B.1.length → _; rw [hl]; intro i hi; show (B.1.getD i ad).2.1 ≤ _; rw [hc i hi]; exact h.most i hi
 waits := by show Waits B.1.length s.m s.ids; rw [hl]; exact h.waits
 sum := by show sumN (fun i => (B.1.getD i ad).1) B.1.length = s.to; rw [hl, sumN_congr hbal]; exact h.sum
 tot := h.tot
 over := h.over
 none := h.none
theorem Inv.queue {r : RulesT} {s : StR} (h : Inv r s) (ho : s.ov = false) {m : List PayT} {ids : List Int} (hw : Waits s.B.1.length m ids) : Inv r { s with m := m, ids := ids } where
 tk := h.tk
 bk := h.bk
 n := h.n
 hol := h.hol
 laid := h.laid
 cred := h.cred
 most := h.most
 waits := hw
 sum := h.sum
 tot := h.tot
 over := h.over
 none := fun e => by rw [show s.ov = true from e] at ho; cases ho
theorem set_bal {a : List Acc} {w i : Nat} {x : Acc} (hw : w < a.length) : (a.set w x).getD i ad = if i = w then x else a.getD i ad := by
 rw [getD_set]
 by_cases e : i = w
 ·rw [if_pos e, if_pos ⟨e.symm, hw⟩]
 ·rw [if_neg e, if_neg (fun h => e h.1.symm)]
theorem lim_inv {r : RulesT} {s : StR} (h : Inv r s) {who : Int} (hw : 0 ≤ who ∧ who < r.1) {f : MsgT} (h0 : (limS r s who f).1 = 0) : Inv r (limS r s who f).2 := by
 have hn := h.n
 have hb : Books s.B.1 s.B.2.1 s.B.2.2.1 s.B.2.2.2 := h.bk
 obtain ⟨w, rfl⟩ := Int.eq_ofNat_of_zero_le hw.1
 have hwn : w < s.B.1.length := by omega
 unfold limS at h0 ⊢
 simp only [Int.toNat_natCast] at h0 ⊢
 cases hc : decide (f.1 = 5) with
 | true =>
  rw [hc] at h0
  simp only [cond_true] at h0 ⊢
  cases hc2 : decide (f.2.1 ≥ 0) && decide (f.2.1 ≤ r.1 - 1) with
  | false => rw [hc2] at h0; cases h0
  | true =>
  cases hc3 : decide (f.2.1 = (w : Int)) with
  | true => rw [hc2, hc3] at h0; cases h0
  | false =>
  cases hc4 : decide (f.2.2.1 ≥ -1) && decide (f.2.2.1 ≤ 1152921504606846976) with
  | false => rw [hc2, hc3, hc4] at h0; cases h0
  | true =>
  simp only [Bool.and_eq_true, decide_eq_true_eq] at hc2 hc4
  exact h.books (B := (s.B.1, s.B.2.1.set w ((s.B.2.1.getD w []).set f.2.1.toNat f.2.2.1), s.B.2.2.1, s.B.2.2.2)) (hb.setBil hwn (by omega) ⟨by omega, by omega⟩) rfl (fun _ _ => rfl) (fun _ _ => rfl)
 | false =>
  rw [hc] at h0
  simp only [cond_false] at h0 ⊢
  cases hc2 : decide (f.1 = 6) with
  | true =>
   rw [hc2] at h0
   simp only [cond_true] at h0 ⊢
   cases hc3 : decide (f.2.1 ≥ -1) && decide (f.2.1 ≤ 1152921504606846976) with
   | false => rw [hc3] at h0; cases h0
   | true =>
   simp only [Bool.and_eq_true, decide_eq_true_eq] at hc3
   exact h.books (B := (s.B.1, s.B.2.1, s.B.2.2.1.set w f.2.1, s.B.2.2.2)) (hb.setMul w ⟨by omega, by omega⟩) rfl (fun _ _ => rfl) (fun _ _ => rfl)
  | false =>
   rw [hc2] at h0
   simp only [cond_false] at h0 ⊢
   cases hc3 : decide (f.2.1 ≥ 0) && decide (f.2.1 ≤ 1152921504606846976) with
   | false => rw [hc3] at h0; cases h0
   | true =>
   simp only [Bool.and_eq_true, decide_eq_true_eq] at hc3
   have hg : ∀ i, (s.B.1.set w ((s.B.1.getD w ad).1, (s.B.1.getD w ad).2.1, f.2.1)).getD i ad = if i = w then ((s.B.1.getD w ad).1, (s.B.1.getD w ad).2.1, f.2.1) else s.B.1.getD i ad := fun i => set_bal hwn
   refine h.books (B := (s.B.1.set w ((s.B.1.getD w ad).1, (s.B.1.getD w ad).2.1, f.2.1), s.B.2.1, s.B.2.2.1, s.B.2.2.2)) (hb.setAcct (by rw [List.length_set]) fun i hi => ?_) (by show (s.B.1.set _ _).length = _; rw [List.length_set]) (fun i hi => ?_) (fun i hi => ?_)
   ·rw [hg]
    split
    ·have := acctB_iff.1 (hb.acct w hwn)
     rw [acctB_iff]
     exact ⟨this.1, this.2.1, by show 0 ≤ f.2.1 ∧ f.2.1 ≤ 2305843009213693952; omega⟩
    ·exact hb.acct i hi
   ·show ((s.B.1.set w _).getD i ad).1 = _
    rw [hg]
    split
    ·rename_i e; rw [e]
    ·rfl
   ·show ((s.B.1.set w _).getD i ad).2.1 = _
    rw [hg]
    split
    ·rename_i e; rw [e]
    ·rfl
theorem hold_inv {r : RulesT} (hr : RulesOK r) {s : StR} (h : Inv r s) {who : Int} (hw : 0 ≤ who ∧ who < r.1) {a many : Int} (h0 : (holdS r s who a many).1 = 0) : Inv r (holdS r s who a many).2 := by
  have hn := h.n
  have hb : Books s.B.1 s.B.2.1 s.B.2.2.1 s.B.2.2.2 := h.bk
  obtain ⟨w, rfl⟩ := Int.eq_ofNat_of_zero_le hw.1
  have hwn : w < s.B.1.length := by omega
  have hol := h.hol
  unfold holdS at h0 ⊢
  simp only [Int.toNat_natCast] at h0 ⊢
  cases hc : decide (a ≥ 0) && decide (a ≤ (r.2.1.length : Int) - 1) with
  | false => rw [hc] at h0; cases h0
  | true =>
  cases hc2 : decide (many ≥ 0) && decide (many ≤ 1099511627776) with
  | false => rw [hc, hc2] at h0; cases h0
  | true =>
  rw [hc, hc2] at h0
  simp only [Bool.not_true, cond_false] at h0 ⊢
  simp only [Bool.and_eq_true, decide_eq_true_eq] at hc hc2
  have L2 := (h.laid w hwn).set (i := a.toNat) (by omega) (v := many) ⟨by omega, by omega⟩
  have hv0 := valueI_le L2
  obtain ⟨n, hne⟩ : ∃ n, n = valueI r.2.1 s.pr ((s.ho.getD w []).set a.toNat many) := ⟨_, rfl⟩
  rw [← hne] at h0 hv0 ⊢
  unfold holdN at h0 ⊢
  cases hc3 : decide (n > 1152921504606846976) with
  | true => rw [hc3] at h0; cases h0
  | false =>
  cases hc4 : decide (n < (s.B.1.getD w ad).2.1) && decide ((s.B.1.getD w ad).1 + n < 0) with
  | true => rw [hc3, hc4] at h0; cases h0
  | false =>
  have hc3 := of_decide_eq_false hc3
  have hg : ∀ i, (s.B.1.set w ((s.B.1.getD w ad).1, n, (s.B.1.getD w ad).2.2)).getD i ad = if i = w then ((s.B.1.getD w ad).1, n, (s.B.1.getD w ad).2.2) else s.B.1.getD i ad := fun i => set_bal hwn
  have hgh : ∀ i, (s.ho.set w ((s.ho.getD w []).set a.toNat many)).getD i [] = if i = w then (s.ho.getD w []).set a.toNat many else s.ho.getD i [] := fun i => by
    rw [getD_set]
    by_cases e : i = w
    · rw [if_pos e, if_pos ⟨e.symm, by omega⟩]
    · rw [if_neg e, if_neg (fun h => e h.1.symm)]
  simp only [cond_false]
  have ebl : (s.B.1.set w ((s.B.1.getD w ad).1, n, (s.B.1.getD w ad).2.2)).length = s.B.1.length := List.length_set ..
  exact {
    tk := h.tk
    bk := hb.setAcct ebl fun i hi => by
      rw [hg]
      split
      · have := acctB_iff.1 (hb.acct w hwn)
        rw [acctB_iff]
        exact ⟨this.1, by show 0 ≤ n ∧ n ≤ 2305843009213693952; omega, this.2.2⟩
      · exact hb.acct i hi
    n := by show (((s.B.1.set w _).length : Nat) : Int) = r.1; rw [ebl]; exact h.n
    hol := by show (s.ho.set w _).length = (s.B.1.set w _).length; rw [ebl, List.length_set]; exact hol
    laid := by
      show ∀ i, i < (s.B.1.set w _).length → Laid r.2.1 s.pr ((s.ho.set w _).getD i [])
      rw [ebl]
      intro i hi
      rw [hgh]
      split
      · exact L2
      · exact h.laid i hi
    cred := by
      show ∀ i, i < (s.B.1.set w _).length → ((s.B.1.set w _).getD i ad).2.1 = valueI r.2.1 s.pr ((s.ho.set w _).getD i [])
      rw [ebl]
      intro i hi
      rw [hg, hgh]
      split
      · exact hne
      · exact h.cred i hi
    most := by
      show ∀ i, i < (s.B.1.set w _).length → ((s.B.1.set w _).getD i ad).2.1 ≤ _
      rw [ebl]
      intro i hi
      rw [hg]
      split
      · show n ≤ _; omega
      · exact h.most i hi
    waits := by show Waits (s.B.1.set w _).length s.m s.ids; rw [ebl]; exact h.waits
    sum := by
      show sumN (fun i => ((s.B.1.set w _).getD i ad).1) (s.B.1.set w _).length = s.to
      rw [ebl, sumN_congr (h := fun i => (s.B.1.getD i ad).1) fun i _ => by
        rw [hg]
        split
        · rename_i e; rw [e]
        · rfl]
      exact h.sum
    tot := h.tot
    over := h.over
    none := h.none }
theorem moved_inv {r : RulesT} {s : StR} (h : Inv r s) {i : Nat} (hi : i < s.B.1.length) {n : Int} (hz : (movedS (s.B.1.getD i ad) n).2 = 0) (ht : 0 ≤ s.to + n ∧ s.to + n ≤ 1152921504606846976) :
    Inv r (setA s i (movedS (s.B.1.getD i ad) n).1 (s.to + n)) := by
  have hb : Books s.B.1 s.B.2.1 s.B.2.2.1 s.B.2.2.2 := h.bk
  unfold movedS at hz ⊢
  cases hc : acctB ((s.B.1.getD i ad).1 + n, (s.B.1.getD i ad).2.1, (s.B.1.getD i ad).2.2) with
  | false => rw [hc] at hz; cases hz
  | true =>
  simp only [cond_true]
  have hg : ∀ j, (s.B.1.set i ((s.B.1.getD i ad).1 + n, (s.B.1.getD i ad).2.1, (s.B.1.getD i ad).2.2)).getD j ad = if j = i then ((s.B.1.getD i ad).1 + n, (s.B.1.getD i ad).2.1, (s.B.1.getD i ad).2.2) else s.B.1.getD j ad := fun j => set_bal hi
  have ebl : (s.B.1.set i ((s.B.1.getD i ad).1 + n, (s.B.1.getD i ad).2.1, (s.B.1.getD i ad).2.2)).length = s.B.1.length := List.length_set ..
  unfold setA
  exact {
    tk := h.tk
    bk := hb.setAcct ebl fun j hj => by
      rw [hg]
      split
      · exact hc
      · exact hb.acct j hj
    n := by show (((s.B.1.set i _).length : Nat) : Int) = r.1; rw [ebl]; exact h.n
    hol := by show s.ho.length = (s.B.1.set i _).length; rw [ebl]; exact h.hol
    laid := by show ∀ j, j < (s.B.1.set i _).length → _; rw [ebl]; exact h.laid
    cred := by
      show ∀ j, j < (s.B.1.set i _).length → ((s.B.1.set i _).getD j ad).2.1 = _
      rw [ebl]
      intro j hj
      rw [hg]
      split
      · rename_i e; rw [e]; exact h.cred i hi
      · exact h.cred j hj
    most := by
      show ∀ j, j < (s.B.1.set i _).length → ((s.B.1.set i _).getD j ad).2.1 ≤ _
      rw [ebl]
      intro j hj
      rw [hg]
      split
      · exact h.most i hi
      · exact h.most j hj
    waits := by show Waits (s.B.1.set i _).length s.m s.ids; rw [ebl]; exact h.waits
    sum := by
      show sumN (fun j => ((s.B.1.set i _).getD j ad).1) (s.B.1.set i _).length = s.to + n
      rw [ebl, sumN_congr (h := fun j => if j = i then (s.B.1.getD j ad).1 + n else (s.B.1.getD j ad).1) fun j _ => by
        rw [hg]
        by_cases e : j = i
        · rw [if_pos e, if_pos e, e]
        · rw [if_neg e, if_neg e], sumN_set hi, h.sum]
    tot := ht
    over := h.over
    none := h.none }
theorem move_inv {r : RulesT} {s : StR} (h : Inv r s) {kd to n : Int} (h0 : (moveS r s kd to n).1 = 0) : Inv r (moveS r s kd to n).2 ∧ (moveS r s kd to n).2.to = s.to + (if kd = 11 then -n else n) ∧ (moveS r s kd to n).2.m = s.m ∧ (moveS r s kd to n).2.ids = s.ids ∧ (moveS r s kd to n).2.t = s.t := by
 have hn := h.n
 have ht := h.tot
 unfold moveS at h0 ⊢
 cases hc : decide (to ≥ 0) && decide (to ≤ r.1 - 1) with
 | false => rw [hc] at h0; cases h0
 | true =>
 cases hc2 : decide (n ≥ 1) && decide (n ≤ 1099511627776) with
 | false => rw [hc, hc2] at h0; cases h0
 | true =>
 rw [hc, hc2] at h0
 simp only [Bool.not_true, cond_false] at h0 ⊢
 simp only [Bool.and_eq_true, decide_eq_true_eq] at hc hc2
 have hi : to.toNat < s.B.1.length := by omega
 by_cases hk : kd = 11
 ·rw [decide_eq_true hk] at h0 ⊢
  simp only [cond_true] at h0 ⊢
  rw [if_pos hk]
  unfold outN at h0 ⊢
  cases hc3 : decide ((s.B.1.getD to.toNat ad).1 + (s.B.1.getD to.toNat ad).2.1 - (s.B.1.getD to.toNat ad).2.2 < n) with
  | true => rw [hc3] at h0; cases h0
  | false =>
  cases hc4 : decide (s.to - n < 0) with
  | true => rw [hc3, hc4] at h0; cases h0
  | false =>
  cases hz : decide ((movedS (s.B.1.getD to.toNat ad) (-n)).2 = 0) with
  | false => rw [hc3, hc4, hz] at h0; exact absurd h0 (of_decide_eq_false hz)
  | true =>
  cases hc5 : decide (s.to - n > 1152921504606846976) with
  | true => rw [hc3, hc4, hz, hc5] at h0; cases h0
  | false =>
  have hc4 := of_decide_eq_false hc4
  have := moved_inv h hi (n := -n) (of_decide_eq_true hz) (by omega)
  exact ⟨this, rfl, rfl, rfl, rfl⟩
 ·rw [decide_eq_false hk] at h0 ⊢
  simp only [cond_false] at h0 ⊢
  rw [if_neg hk]
  unfold inN at h0 ⊢
  cases hz : decide ((movedS (s.B.1.getD to.toNat ad) n).2 = 0) with
  | false => rw [hz] at h0; exact absurd h0 (of_decide_eq_false hz)
  | true =>
  cases hc5 : decide (s.to + n > 1152921504606846976) with
  | true => rw [hz, hc5] at h0; cases h0
  | false =>
  have hc5 := of_decide_eq_false hc5
  exact ⟨moved_inv h hi (of_decide_eq_true hz) (by omega), rfl, rfl, rfl, rfl⟩
theorem price_inv {r : RulesT} {s : StR} (h : Inv r s) {a p : Int} (h0 : (priceS r s a p).1 = 0) : Inv r (priceS r s a p).2 := by
  have hb : Books s.B.1 s.B.2.1 s.B.2.2.1 s.B.2.2.2 := h.bk
  unfold priceS at h0 ⊢
  cases hc : decide (a ≥ 0) && decide (a ≤ (r.2.1.length : Int) - 1) with
  | false => rw [hc] at h0; cases h0
  | true =>
  cases hc2 : decide (p ≥ 0) && decide (p ≤ 1048576) with
  | false => rw [hc, hc2] at h0; cases h0
  | true =>
  rw [hc, hc2] at h0
  simp only [Bool.not_true, cond_false] at h0 ⊢
  simp only [Bool.and_eq_true, decide_eq_true_eq] at hc hc2
  have hL : ∀ i, i < s.B.1.length → Laid r.2.1 (s.pr.set a.toNat p) (s.ho.getD i []) := fun i hi => (h.laid i hi).setP (by omega) ⟨by omega, by omega⟩
  generalize s.pr.set a.toNat p = pr at *
  unfold priceN at h0 ⊢
  cases hc3 : allF (fun j => !decide (credAt r.2.1 pr s.ho j > 1152921504606846976)) s.B.1.length 0 with
  | false => rw [hc3] at h0; cases h0
  | true =>
  simp only [cond_true]
  have hle : ∀ i, i < s.B.1.length → credAt r.2.1 pr s.ho i ≤ 1152921504606846976 := fun i hi => by
    have := allF_zero.1 hc3 i hi
    simp only [Bool.not_eq_true', decide_eq_false_iff_not] at this
    omega
  have ebl := credL_length r.2.1 pr s.ho s.B.1
  have hg := fun (j : Nat) (hj : j < s.B.1.length) => credL_get r.2.1 pr s.ho s.B.1 hj
  exact {
    tk := h.tk
    bk := hb.setAcct ebl fun i hi => by
      rw [hg i hi]
      have := acctB_iff.1 (hb.acct i hi)
      have h1 := valueI_le (hL i hi)
      have h2 := hle i hi
      rw [acctB_iff]
      exact ⟨this.1, ⟨h1, by show credAt r.2.1 pr s.ho i ≤ _; omega⟩, this.2.2⟩
    n := by show (((credL r.2.1 pr s.ho s.B.1).length : Nat) : Int) = r.1; rw [ebl]; exact h.n
    hol := by show s.ho.length = (credL r.2.1 pr s.ho s.B.1).length; rw [ebl]; exact h.hol
    laid := by show ∀ i, i < (credL r.2.1 pr s.ho s.B.1).length → _; rw [ebl]; exact hL
    cred := by
      show ∀ i, i < (credL r.2.1 pr s.ho s.B.1).length → ((credL r.2.1 pr s.ho s.B.1).getD i ad).2.1 = valueI r.2.1 pr (s.ho.getD i [])
      rw [ebl]
      intro i hi
      rw [hg i hi]; rfl
    most := by
      show ∀ i, i < (credL r.2.1 pr s.ho s.B.1).length → ((credL r.2.1 pr s.ho s.B.1).getD i ad).2.1 ≤ _
      rw [ebl]
      intro i hi
      rw [hg i hi]; exact hle i hi
    waits := by show Waits (credL r.2.1 pr s.ho s.B.1).length s.m s.ids; rw [ebl]; exact h.waits
    sum := by
      show sumN (fun i => ((credL r.2.1 pr s.ho s.B.1).getD i ad).1) (credL r.2.1 pr s.ho s.B.1).length = s.to
      rw [ebl, sumN_congr (h := fun i => (s.B.1.getD i ad).1) fun i hi => by rw [hg i hi]]
      exact h.sum
    tot := h.tot
    over := h.over
    none := h.none }
end Go.Ab.Gi
