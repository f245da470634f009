/- part 33 -/
import Derived.Test.YtdhajnjinkknkaaGreatGiPHourTick
import Derived.Test.YtdhajnjinkknkaaGreatGiPKeptC
set_option linter.unusedVariables false
set_option linter.unusedSimpArgs false
namespace Go.Ab.Gi
open Go.Ab
theorem hour_Settle_core {k : Nat} (hk : 200 ≤ k) {B : BT} (hb : BooksT B) {m : List PayT} (hd : Dist m) (hm : ∀ q ∈ m, May B.1.length q) (h64 : m.length ≤ 64) (t : Int) (pr : List Int) (ho : List (List Int)) (ids : List Int) (to : Int) (ov all : Bool) :
  ∃ (C : BT) (m' d : List PayT), hour_Settle k t B.1 B.2.1 B.2.2.1 B.2.2.2 pr ho m ids to ov all = some (t, C.1, C.2.1, C.2.2.1, C.2.2.2, pr, ho, m', ids, to, ov, toldL d) ∧
   settle_Run k B.1 B.2.1 B.2.2.1 B.2.2.2 m t all = some (C.1, C.2.1, C.2.2.1, C.2.2.2, m', d) ∧ BooksT C ∧ KeptC B C ∧ List.Sublist m' m ∧ List.Perm (d ++ m') m ∧ nextL k C (mayL m' t) = none := by
 obtain ⟨C, m', d, f1, f2, f3, f4, f5, f6, f7⟩ := settle_Run_is hk hb hd hm h64 t all
 have hlen := f5.length_eq
 rw [List.length_append] at hlen
 refine ⟨C, m', d, ?_, f1, f2, settle_keptC hk hb hd hm h64 t all f1, f4, f5, f6⟩
 unfold hour_Settle
 rw [f1]
 simp only [Option.bind_some]
 rw [hour_Told_eq (by omega) (by omega)]
 rfl
theorem tick_core {k : Nat} (hk : 200 ≤ k) {B : BT} (hb : BooksT B) {m : List PayT} (hd : Dist m) (hm : ∀ q ∈ m, May B.1.length q) (h64 : m.length ≤ 64) (pa : Int) (sa : List (Int × Int)) (cu cl pe t : Int) (ht : 0 ≤ t ∧ t < 1099511627776) (hpe : pe ≠ 0) (pr : List Int) (ho : List (List Int)) (ids : List Int) (to : Int) :
  ∃ (C : BT) (m' : List PayT) (ov : Bool) (o : List OutT), hour_Tick k pa sa cu cl pe t B.1 B.2.1 B.2.2.1 B.2.2.2 pr ho m ids to false = some (t + 1, C.1, C.2.1, C.2.2.1, C.2.2.2, pr, ho, m', ids, to, ov, o) ∧ Ticked t cl B C m m' ov o ∧ KeptC B C ∧ (ov = false → nextL k C (mayL m' (t + 1)) = none) ∧
   ((ov = true ∧ m' = [] ∧ o = m.map (lateO 22) ++ closeL B B.1.length) ∨ ∃ l d n, o = l.map (lateO 21) ++ toldL d ∧ List.Perm (l ++ n) m ∧ List.Perm (d ++ m') n) := by
 have hn6 := hb.n6
 have w : w64 (t + 1) = t + 1 := w64_id (by omega) (by omega)
 unfold hour_Tick day_Closes
 simp only [w, cond_false, Option.bind_some]
 cases hc : decide (t + 1 = cl) with
 | true =>
  simp only [cond_true]
  rw [ends_eq hn6 hk (by omega)]
  simp only [Option.bind_some]
  refine ⟨B, [], true, _, rfl, ⟨hb, rfl, List.nil_sublist m, hc.symm, fun _ => rfl, (fun e => by cases e), (fun p hp => by cases hp), fun p hp _ => ?_, fun q hq => ?_, ?_⟩, KeptC.refl B, (fun e => by cases e), .inl ⟨rfl, rfl, rfl⟩⟩
  ·rw [cntO_append, (cnt_late (.inr rfl) hd).1 hp, cnt_close]
  ·rw [cntO_append, (cnt_late (.inr rfl) hd).2 hq, cnt_close]
  ·rw [List.length_append, List.length_map]
   unfold closeL
   rw [List.length_map, List.length_range]
   simp
   omega
 | false =>
  simp only [cond_false]
  rw [late_loop hk (by omega)]
  simp only [Option.bind_some]
  have hs : ∃ x, day_Solves k pa sa cu cl pe (t + 1) = some x := by
   unfold day_Solves
   cases decide (t + 1 > 0) with
   | false => exact ⟨_, rfl⟩
   | true =>
    cases decide (t + 1 < cl) with
    | false => exact ⟨_, rfl⟩
    | true =>
     have : decide (pe = 0) = false := decide_eq_false hpe
     rw [this]
     exact ⟨_, rfl⟩
  obtain ⟨x, hx⟩ := hs
  rw [hx]
  simp only [Option.bind_some]
  have hsub : List.Sublist (m.filter (fun p => !lateB (t + 1) p)) m := List.filter_sublist
  have hsl := hsub.length_le
  have hdl : Dist (m.filter (fun p => !lateB (t + 1) p)) := List.Pairwise.sublist hsub hd
  obtain ⟨C, m', d, f1, f2, f3, f4, f5, f6, f7⟩ := settle_Run_is hk hb hdl (fun q hq => hm q (hsub.subset hq)) (by omega) (t + 1) x
  have hlen := f5.length_eq
  rw [List.length_append] at hlen
  have hSt : hour_Settle k (t + 1) B.1 B.2.1 B.2.2.1 B.2.2.2 pr ho (m.filter (fun p => !lateB (t + 1) p)) ids to false x = some (t + 1, C.1, C.2.1, C.2.2.1, C.2.2.2, pr, ho, m', ids, to, false, toldL d) := by
   unfold hour_Settle
   rw [f1]
   simp only [Option.bind_some]
   rw [hour_Told_eq (by omega) (by omega)]
   rfl
  rw [hSt]
  have hla : (m.filter (lateB (t + 1))).length ≤ m.length := List.length_filter_le _ _
  have hpart : (m.filter (lateB (t + 1))).length + (m.filter (fun p => !lateB (t + 1) p)).length = m.length := by
   rw [← List.countP_eq_length_filter, ← List.countP_eq_length_filter]
   have := List.length_eq_countP_add_countP (lateB (t + 1)) (l := m)
   simp only [Bool.not_eq_true, Bool.decide_eq_false] at this
   exact this.symm
  have htl := toldL_length d
  have hr : roomB (((m.filter (lateB (t + 1))).map (lateO 21)).length + (toldL d).length) 64 = true := roomB_true (by rw [List.length_map]; omega) (by rw [List.length_map]; omega)
  simp only [Option.bind_some, hr, cond_true]
  have hdd : Dist (d ++ m') := hdl.perm f5
  have hdd1 : Dist d := (List.pairwise_append.1 hdd).1
  have hdm : ∀ p ∈ d, p ∈ m.filter (fun p => !lateB (t + 1) p) := fun p hp => f5.subset (List.mem_append_left _ hp)
  have hdmay : ∀ p ∈ d, May B.1.length p := fun p hp => hm p (hsub.subset (hdm p hp))
  have hdla : Dist (m.filter (lateB (t + 1))) := hd.filter _
  have cross : ∀ p ∈ m, lateB (t + 1) p = false → ∀ q ∈ m.filter (lateB (t + 1)), q.1 ≠ p.1 := by
   intro p hp hl q hq e
   have h1 := List.mem_filter.1 hq
   have := hd.eq_of h1.1 hp e
   subst this
   rw [hl] at h1
   exact absurd h1.2 (by simp)
  refine ⟨C, m', false, _, rfl, ⟨f2, f3, f4.trans hsub, hc.symm, (fun e => by cases e), fun _ p hp => ?_, fun p hp => ?_, fun p hp hn => ?_, fun q hq => ?_, ?_⟩, settle_keptC hk hb hdl (fun q hq => hm q (hsub.subset hq)) (by omega) (t + 1) x f1, (fun _ => f6), .inr ⟨m.filter (lateB (t + 1)), d, m.filter (fun p => !lateB (t + 1) p), rfl, List.filter_append_perm _ _, f5⟩⟩
  ·have := (List.mem_filter.1 (f4.subset hp)).2
   simpa using this
  ·have h1 := List.mem_filter.1 (f4.subset hp)
   have hl : lateB (t + 1) p = false := by simpa using h1.2
   rw [cntO_append, (cnt_late (.inl rfl) hdla).2 (cross p h1.1 hl), (cnt_told hdd1 hdmay).2 (hdd.not_in (l := d) hp)]
  ·cases hl : lateB (t + 1) p with
   | true =>
    have h1 : p ∈ m.filter (lateB (t + 1)) := List.mem_filter.2 ⟨hp, hl⟩
    have h2 : ∀ q ∈ d, q.1 ≠ p.1 := by
     intro q hq e
     have h3 := List.mem_filter.1 (hdm q hq)
     have := hd.eq_of h3.1 hp e
     subst this
     have h4 := h3.2
     rw [hl] at h4
     cases h4
    rw [cntO_append, (cnt_late (.inl rfl) hdla).1 h1, (cnt_told hdd1 hdmay).2 h2]
   | false =>
    have h1 : p ∈ m.filter (fun p => !lateB (t + 1) p) := List.mem_filter.2 ⟨hp, by rw [hl]; rfl⟩
    have h2 : p ∈ d := by
     rcases List.mem_append.1 (f5.symm.subset h1) with h | h
     ·exact h
     ·exact absurd h hn
    rw [cntO_append, (cnt_late (.inl rfl) hdla).2 (cross p hp hl), (cnt_told hdd1 hdmay).1 h2]
  ·rw [cntO_append, (cnt_late (.inl rfl) hdla).2 (fun p hp => hq p (List.mem_filter.1 hp).1), (cnt_told hdd1 hdmay).2 (fun p hp => hq p (hsub.subset (hdm p hp)))]
  ·rw [List.length_append, List.length_map]
   simp
   omega
end Go.Ab.Gi
