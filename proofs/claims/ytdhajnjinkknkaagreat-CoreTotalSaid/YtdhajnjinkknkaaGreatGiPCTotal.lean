/- part 44 -/
import Derived.Test.YtdhajnjinkknkaaGreatGiPCRun
set_option linter.unusedVariables false
set_option linter.unusedSimpArgs false
namespace Go.Ab.Gi
open Go.Ab
def balL (s : StR) : List Int := (List.range s.B.1.length).map fun j => (s.B.1.getD j ad).1
theorem sumL_range (g : Nat → Int) : ∀ n, sumL (fun x => x) ((List.range n).map g) = sumN g n
  | 0 => rfl
  | n + 1 => by
    rw [List.range_succ, List.map_append, sumL_append, sumL_range g n]
    show sumN g n + (g n + 0) = sumN g n + g n
    omega
theorem total_loop {r : RulesT} (l : List CmdT) (v i : Int) {s : StR} (h : Inv r s) :
    girolaw23_CoreTotal_L1 1000 1000 l v i 0 r s.st [] = some (l, v, i, r, s.st, balL s) := by
  have hn6 := h.bk.n6
  obtain ⟨x, h1, h2⟩ := carryE0 (L := fun n j (x : List Int) => girolaw23_CoreTotal_L1 1000 n l v i j r s.st x) (N := s.B.1.length) (fun x => (l, v, i, r, s.st, x)) (fun j x => x = (List.range j).map fun j => (s.B.1.getD j ad).1) (fun n x _ => by
    show girolaw23_CoreTotal_L1b 1000 _ l v i (s.B.1.length : Int) r s.st x = _
    unfold girolaw23_CoreTotal_L1b
    have e : s.st.2.1 = s.B.1 := rfl
    rw [e, decide_eq_false (Int.lt_irrefl _)]
    rfl) (fun n j x hj hx => by
    refine ⟨x ++ [(s.B.1.getD j ad).1], ?_, ?_⟩
    · show girolaw23_CoreTotal_L1b 1000 (girolaw23_CoreTotal_L1 1000 n) l v i (j : Int) r s.st x = _
      unfold girolaw23_CoreTotal_L1b
      have e : s.st.2.1 = s.B.1 := rfl
      have hl : x.length = j := by rw [hx]; simp
      rw [e, decide_eq_true (show (j : Int) < s.B.1.length by omega), boundOk_nat, decide_eq_true hj, roomB_true (by omega) (by omega)]
      simp only [cond_true, Int.toNat_natCast]
      rw [w64_succ hj (by omega)]
    · rw [hx, List.range_succ, List.map_append]
      rfl) (n := 1000) (s := []) (by omega) rfl
  rw [h1, h2]
  rfl
theorem total_tail {r : RulesT} (l : List CmdT) {s : StR} (h : Inv r s) {i : Nat} (hi : i < l.length) (hl : l.length ≤ 120) (rec : girolaw23_CoreTotal_L0T) :
    ((girolaw23_CoreTotal_L1 1000 1000 l s.to (i : Int) 0 r s.st []).bind fun z8 =>
     (giroref1_Sum 1000 z8.2.2.2.2.2).bind fun x11 =>
     bif !x11.2 then some (.inr false)
     else bif !(decide (x11.1 = z8.2.1)) then some (.inr false)
     else bif !(decide (z8.2.2.2.2.1.2.2.2.2.2.2.2.2.2.1 = z8.2.1)) then some (.inr false)
     else bif decide (z8.2.1 < 0) then some (.inr false)
     else rec z8.1 z8.2.1 (w64 (z8.2.2.1 + 1)) z8.2.2.2.1 z8.2.2.2.2.1) = rec l s.to ((i + 1 : Nat) : Int) r s.st := by
  have hn6 := h.bk.n6
  have ht := h.tot
  have hs : sumL (fun x => x) (balL s) = s.to := (sumL_range _ _).trans h.sum
  have hb : ∀ x ∈ balL s, -9223372036854775808 ≤ x ∧ x < 9223372036854775808 := by
    intro x hx
    obtain ⟨j, hj, rfl⟩ := List.mem_map.1 hx
    have := acctB_iff.1 (h.bk.acct j (List.mem_range.1 hj))
    have : -4611686018427387904 < (s.B.1.getD j ad).1 ∧ (s.B.1.getD j ad).1 < 4611686018427387904 := this.1
    omega
  have hlen : (balL s).length = s.B.1.length := by simp [balL]
  rw [total_loop l s.to i h]
  simp only [Option.bind_some]
  rw [giroref1_Sum_eq (by omega) (by omega) hb, hs]
  have e : sumW s.to = (s.to, true) := by
    unfold sumW
    rw [if_neg (by omega)]
  have eo : s.st.2.2.2.2.2.2.2.2.2.1 = s.to := rfl
  simp only [Option.bind_some]
  rw [e, eo, decide_eq_true rfl, decide_eq_false (show ¬ s.to < 0 by omega), w64_succ hi (by omega)]
  rfl
theorem total_run {r : RulesT} (hr : RulesOK r) (l : List CmdT) (hl : l.length ≤ 120) {s : StR} (hs : Inv r s) (h0 : s.to = 0) :
    girolaw23_CoreTotal_L0 1000 1000 l 0 0 r s.st = some (.inl ()) := by
  obtain ⟨t, h1, h2⟩ := carryE0 (L := fun n i (s : StR) => girolaw23_CoreTotal_L0 1000 n l s.to i r s.st) (N := l.length) (fun t => (.inl () : Unit ⊕ Bool)) (fun _ t => Inv r t) (fun n t _ => by
    show girolaw23_CoreTotal_L0b 1000 _ l t.to (l.length : Int) r t.st = _
    unfold girolaw23_CoreTotal_L0b
    rw [decide_eq_false (Int.lt_irrefl _)]
    rfl) (fun n i t hi ht => by
    obtain ⟨t', o, e, h1, h2⟩ := step_is (k := 1000) (by decide) hr ht (l.getD i (0, 0, 0, 0, 0, 0, 0, 0))
    refine ⟨t', ?_, h2.inv⟩
    have hto := h2.to
    have hbad := h2.bad
    have hti := h2.inv.tot
    generalize hc : l.getD i (0, 0, 0, 0, 0, 0, 0, 0) = c at *
    show girolaw23_CoreTotal_L0b 1000 (girolaw23_CoreTotal_L0 1000 n) l t.to (i : Int) r t.st = _
    unfold girolaw23_CoreTotal_L0b
    simp only [Int.toNat_natCast, boundOk_nat, hc]
    rw [decide_eq_true (show (i : Int) < l.length by omega), decide_eq_true hi]
    simp only [cond_true]
    rw [h1]
    simp only [Option.bind_some]
    by_cases hz : e = 0
    · rw [decide_eq_true hz]
      have hto := hto hz
      simp only [cond_true]
      by_cases h10 : c.2.1 = 10
      · have e1 : w64 (t.to + c.2.2.2.1) = t'.to := by rw [if_pos h10] at hto; rw [hto, w64_id (by omega) (by omega)]
        rw [decide_eq_true h10, decide_eq_false (show ¬ c.2.1 = 11 by omega), e1]
        exact total_tail l h2.inv hi hl _
      · rw [decide_eq_false h10]
        by_cases h11 : c.2.1 = 11
        · have e1 : w64 (t.to - c.2.2.2.1) = t'.to := by rw [if_neg h10, if_pos h11] at hto; rw [hto, w64_id (by omega) (by omega)]; omega
          rw [decide_eq_true h11, e1]
          exact total_tail l h2.inv hi hl _
        · have e1 : t.to = t'.to := by rw [if_neg h10, if_neg h11] at hto; omega
          rw [decide_eq_false h11, e1]
          exact total_tail l h2.inv hi hl _
    · rw [decide_eq_false hz]
      obtain ⟨q, _⟩ := hbad hz
      subst q
      exact total_tail l h2.inv hi hl _) (n := 1000) (by omega) hs
  rw [h0] at h1
  exact h1
theorem coreTotal (a : Int) (l : List CmdT) : girolaw23_CoreTotal 1000 a l = some true := by
  unfold girolaw23_CoreTotal
  by_cases hl : (l.length : Int) > 120
  · rw [decide_eq_true hl]; rfl
  rw [decide_eq_false hl]
  obtain ⟨r, hr, w⟩ := way_is a
  simp only [cond_false]
  rw [hr]
  simp only [Option.bind_some]
  rw [w.new]
  simp only [Option.bind_some]
  rw [total_run w.ok l (by omega) w.inv rfl, known_is]
  rfl
end Go.Ab.Gi
