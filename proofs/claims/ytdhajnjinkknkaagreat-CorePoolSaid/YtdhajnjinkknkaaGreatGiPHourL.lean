/- part 30 -/
import Derived.Test.YtdhajnjinkknkaaGreatGiPSettle
import Derived.Test.YtdhajnjinkknkaaGreatGiPTold
set_option linter.unusedVariables false
set_option linter.unusedSimpArgs false
namespace Go.Ab.Gi
open Go.Ab
def isOf (q : PayT) (o : OutT) : Bool := decide (o.2.2.1 = q.1) && (decide (o.1 = q.2.1) && (decide (o.2.1 = 21) || (decide (o.2.1 = 22) || decide (o.2.1 = 18))))
def cntO (q : PayT) (o : List OutT) : Nat := o.countP (isOf q)
theorem cntO_append (q : PayT) (a b : List OutT) : cntO q (a ++ b) = cntO q a + cntO q b := List.countP_append
theorem cnt_one {f : PayT → Bool} {q : PayT} : ∀ {ps : List PayT}, Dist ps → q ∈ ps → f q = true → (∀ p ∈ ps, f p = true → p.1 = q.1) → ps.countP f = 1
 | [], _, h, _, _ => by cases h
 | p :: ps, hd, hq, hf, hu => by
  have hc := List.pairwise_cons.1 hd
  rw [List.countP_cons]
  rcases List.mem_cons.1 hq with rfl | hq
  ·rw [hf, if_pos rfl]
   have : ps.countP f = 0 := by
    rw [List.countP_eq_zero]
    intro r hr hfr
    exact hc.1 r hr (hu r (List.mem_cons_of_mem _ hr) hfr).symm
   omega
  ·have : f p = false := by
    cases h : f p with
    | false => rfl
    | true => exact absurd (hu p (List.mem_cons_self ..) h) (hc.1 q hq)
   rw [this, cnt_one hc.2 hq hf (fun r hr => hu r (List.mem_cons_of_mem _ hr))]
   rfl
def lateO (kd : Int) (p : PayT) : OutT := (p.2.1, kd, p.1, 0, 0, 0, 0, 0)
theorem cnt_late {kd : Int} (hk : kd = 21 ∨ kd = 22) {q : PayT} {ps : List PayT} (hd : Dist ps) : (q ∈ ps → cntO q (ps.map (lateO kd)) = 1) ∧ ((∀ p ∈ ps, p.1 ≠ q.1) → cntO q (ps.map (lateO kd)) = 0) := by
 unfold cntO
 rw [List.countP_map]
 constructor
 ·intro h
  apply cnt_one hd h
  ·show isOf q (lateO kd q) = true
   unfold isOf lateO
   rcases hk with rfl | rfl <;> simp
  ·intro p hp hf
   have hf' : isOf q (lateO kd p) = true := hf
   unfold isOf lateO at hf'
   rw [Bool.and_eq_true, decide_eq_true_eq] at hf'
   exact hf'.1
 ·intro h
  rw [List.countP_eq_zero]
  intro p hp hf
  have hf' : isOf q (lateO kd p) = true := hf
  unfold isOf lateO at hf'
  rw [Bool.and_eq_true, decide_eq_true_eq] at hf'
  exact h p hp hf'.1
theorem cnt_told_sum (q : PayT) : ∀ (d : List PayT), cntO q (toldL d) = d.countP (fun p => isOf q (outP p.2.1 p)) + d.countP (fun p => isOf q (outP p.2.2.1 p))
 | [] => rfl
 | p :: d => by
  show cntO q (toldP p ++ toldL d) = _
  rw [cntO_append, cnt_told_sum q d, List.countP_cons, List.countP_cons]
  have e : cntO q (toldP p) = (if isOf q (outP p.2.1 p) = true then 1 else 0) + (if isOf q (outP p.2.2.1 p) = true then 1 else 0) := by
   unfold cntO toldP
   rw [List.countP_cons, List.countP_cons, List.countP_nil]
   omega
  rw [e]
  omega
theorem cnt_told {n : Nat} {q : PayT} {d : List PayT} (hd : Dist d) (hm : ∀ p ∈ d, May n p) : (q ∈ d → cntO q (toldL d) = 1) ∧ ((∀ p ∈ d, p.1 ≠ q.1) → cntO q (toldL d) = 0) := by
 have h2 : ∀ (l : List PayT), Dist l → (∀ p ∈ l, May n p) → (q ∈ l ∨ ∀ p ∈ l, p.1 ≠ q.1) → l.countP (fun p => isOf q (outP p.2.2.1 p)) = 0 := by
  intro l hdl hml hq
  rw [List.countP_eq_zero]
  intro p hp hf
  have hf' : isOf q (outP p.2.2.1 p) = true := hf
  unfold isOf outP at hf'
  rw [Bool.and_eq_true, Bool.and_eq_true, decide_eq_true_eq, decide_eq_true_eq] at hf'
  rcases hq with hq | hq
  ·have := hdl.eq_of hp hq hf'.1
   subst this
   exact (hml p hp).ne hf'.2.1.symm
  ·exact hq p hp hf'.1
 rw [cnt_told_sum]
 constructor
 ·intro h
  rw [h2 d hd hm (.inl h), cnt_one hd h]
  ·show isOf q (outP q.2.1 q) = true
   unfold isOf outP
   simp
  ·intro p hp hf
   have hf' : isOf q (outP p.2.1 p) = true := hf
   unfold isOf outP at hf'
   rw [Bool.and_eq_true, decide_eq_true_eq] at hf'
   exact hf'.1
 ·intro h
  rw [h2 d hd hm (.inr h)]
  have : d.countP (fun p => isOf q (outP p.2.1 p)) = 0 := by
   rw [List.countP_eq_zero]
   intro p hp hf
   have hf' : isOf q (outP p.2.1 p) = true := hf
   unfold isOf outP at hf'
   rw [Bool.and_eq_true, decide_eq_true_eq] at hf'
   exact h p hp hf'.1
  omega
def closeO (B : BT) (i : Nat) : OutT := ((i : Int), 23, (B.1.getD i ad).1, 0, 0, 0, 0, 0)
def closeL (B : BT) (n : Nat) : List OutT := (List.range n).map (closeO B)
theorem cnt_close (q : PayT) (B : BT) (n : Nat) : cntO q (closeL B n) = 0 := by
 unfold cntO closeL
 rw [List.countP_map, List.countP_eq_zero]
 intro i _ hf
 have hf' : isOf q (closeO B i) = true := hf
 unfold isOf closeO at hf'
 simp at hf'
theorem closeL_snoc (B : BT) (i : Nat) : closeL B (i + 1) = closeL B i ++ [closeO B i] := by
 unfold closeL
 rw [List.range_succ, List.map_append]; rfl
theorem map_snoc {α β : Type} (f : α → β) (l : List α) (i : Nat) (d : α) (h : i < l.length) : (l.take (i + 1)).map f = (l.take i).map f ++ [f (l.getD i d)] := by
 rw [← take_snoc l i d h, List.map_append]; rfl
theorem ends_eq {k : Nat} {B : BT} (hB : B.1.length ≤ 6) (hk : 200 ≤ k) {m : List PayT} (hm : m.length ≤ 100) (t : Int) (pr : List Int) (ho : List (List Int)) (ids : List Int) (to : Int) (ov : Bool) :
  hour_ends k t B.1 B.2.1 B.2.2.1 B.2.2.2 pr ho m ids to ov = some (t, B.1, B.2.1, B.2.2.1, B.2.2.2, pr, ho, [], ids, to, true, m.map (lateO 22) ++ closeL B B.1.length) := by
 unfold hour_ends
 obtain ⟨s', h1, h2⟩ := carryE0 (L := fun n i (s : List OutT) => hour_ends_L0 k n m m.length i t B.1 B.2.1 B.2.2.1 B.2.2.2 pr ho m ids to ov 0 0 false s) (N := m.length) (fun s => (t, B.1, B.2.1, B.2.2.1, B.2.2.2, pr, ho, m, ids, to, ov, 0, 0, false, s)) (fun i s => s = (m.take i).map (lateO 22)) (fun n s _ => by
  show hour_ends_L0b k _ m m.length m.length t B.1 B.2.1 B.2.2.1 B.2.2.2 pr ho m ids to ov 0 0 false s = _
  unfold hour_ends_L0b
  simp only [dec_lt, decide_eq_false (Nat.lt_irrefl _), cond_false]) (fun n i s hi hs => by
  refine ⟨_, ?_, (map_snoc (lateO 22) m i pd hi).symm⟩
  show hour_ends_L0b k _ m m.length i t B.1 B.2.1 B.2.2.1 B.2.2.2 pr ho m ids to ov 0 0 false s = _
  unfold hour_ends_L0b
  have hsl : s.length ≤ 900 := by rw [hs, List.length_map, List.length_take]; omega
  have ho2 : hour_out k (m.getD i pd).2.1 22 [(m.getD i pd).1] = some (lateO 22 (m.getD i pd)) := rfl
  simp only [pd] at ho2
  simp only [boundOk_nat, dec_lt, Int.toNat_natCast, decide_eq_true hi, cond_true, ho2, Option.bind_some, room64 (show s.length ≤ 1000 by omega), w64_succ hi (show m.length < 9223372036854775808 by omega)]
  rw [hs]) (s := []) (show m.length < k by omega) rfl
 have h1' : hour_ends_L0 k k m m.length 0 t B.1 B.2.1 B.2.2.1 B.2.2.2 pr ho m ids to ov 0 0 false [] = _ := h1
 rw [h1', h2, List.take_length]
 simp only [Option.bind_some]
 obtain ⟨s2, g1, g2⟩ := carryE0 (L := fun n i (s : List OutT) => hour_ends_L1 k n B.1 B.1.length i t B.1 B.2.1 B.2.2.1 B.2.2.2 pr ho m ids to ov 0 0 false s) (N := B.1.length) (fun s => (t, B.1, B.2.1, B.2.2.1, B.2.2.2, pr, ho, m, ids, to, ov, 0, 0, false, s)) (fun i s => s = m.map (lateO 22) ++ closeL B i) (fun n s _ => by
  show hour_ends_L1b k _ B.1 B.1.length B.1.length t B.1 B.2.1 B.2.2.1 B.2.2.2 pr ho m ids to ov 0 0 false s = _
  unfold hour_ends_L1b
  simp only [dec_lt, decide_eq_false (Nat.lt_irrefl _), cond_false]) (fun n i s hi hs => by
  refine ⟨_, ?_, (show m.map (lateO 22) ++ closeL B i ++ [closeO B i] = m.map (lateO 22) ++ closeL B (i + 1) by rw [closeL_snoc, List.append_assoc])⟩
  show hour_ends_L1b k _ B.1 B.1.length i t B.1 B.2.1 B.2.2.1 B.2.2.2 pr ho m ids to ov 0 0 false s = _
  unfold hour_ends_L1b
  have hsl : s.length ≤ 900 := by
   rw [hs, List.length_append, List.length_map]
   unfold closeL
   rw [List.length_map, List.length_range]
   omega
  have ho2 : hour_out k i 23 [(B.1.getD i ad).1] = some (closeO B i) := rfl
  have ho3 : hour_out k i 23 [(B.1.getD i (0, 0, 0)).1] = some (closeO B i) := ho2
  simp only [boundOk_nat, dec_lt, Int.toNat_natCast, decide_eq_true hi, cond_true, ho3, Option.bind_some, room64 (show s.length ≤ 1000 by omega), w64_succ hi (show B.1.length < 9223372036854775808 by omega)]
  rw [hs]) (s := m.map (lateO 22)) (show B.1.length < k by omega) (by show _ = _ ++ []; rw [List.append_nil])
 have g1' : hour_ends_L1 k k B.1 B.1.length 0 t B.1 B.2.1 B.2.2.1 B.2.2.2 pr ho m ids to ov 0 0 false (m.map (lateO 22)) = _ := g1
 rw [g1', g2]
 rfl
def lateB (t : Int) (p : PayT) : Bool := decide (t > p.2.2.2.2.2.2)
theorem late_loop {k : Nat} (hk : 200 ≤ k) {m : List PayT} (hm : m.length ≤ 100) (pa : Int) (as : List (Int × Int)) (cu cl pe t : Int) (B : BT) (pr : List Int) (ho : List (List Int)) (ids : List Int) (to : Int) (ov : Bool) :
  hour_Tick_L0 k k m m.length 0 pa as cu cl pe t B.1 B.2.1 B.2.2.1 B.2.2.2 pr ho m ids to ov 0 0 false [] [] = some (pa, as, cu, cl, pe, t, B.1, B.2.1, B.2.2.1, B.2.2.2, pr, ho, m, ids, to, ov, 0, 0, false, (m.filter (lateB t)).map (lateO 21), m.filter (fun p => !lateB t p)) := by
 obtain ⟨s', h1, h2, h3⟩ := carryE0 (L := fun n i (s : List OutT × List PayT) => hour_Tick_L0 k n m m.length i pa as cu cl pe t B.1 B.2.1 B.2.2.1 B.2.2.2 pr ho m ids to ov 0 0 false s.1 s.2) (N := m.length) (fun s => (pa, as, cu, cl, pe, t, B.1, B.2.1, B.2.2.1, B.2.2.2, pr, ho, m, ids, to, ov, 0, 0, false, s.1, s.2)) (fun i s => s.1 = ((m.take i).filter (lateB t)).map (lateO 21) ∧ s.2 = (m.take i).filter (fun p => !lateB t p)) (fun n s _ => by
  show hour_Tick_L0b k _ m m.length m.length pa as cu cl pe t B.1 B.2.1 B.2.2.1 B.2.2.2 pr ho m ids to ov 0 0 false s.1 s.2 = _
  unfold hour_Tick_L0b
  simp only [dec_lt, decide_eq_false (Nat.lt_irrefl _), cond_false]) (fun n i s hi hs => by
  have hl1 : s.1.length ≤ 900 := by
   rw [hs.1, List.length_map]
   have := List.length_filter_le (lateB t) (m.take i)
   rw [List.length_take] at this
   omega
  have hl2 : s.2.length ≤ 900 := by
   rw [hs.2]
   have := List.length_filter_le (fun p => !lateB t p) (m.take i)
   rw [List.length_take] at this
   omega
  show ∃ s', hour_Tick_L0b k _ m m.length i pa as cu cl pe t B.1 B.2.1 B.2.2.1 B.2.2.2 pr ho m ids to ov 0 0 false s.1 s.2 = _ ∧ _
  unfold hour_Tick_L0b pay_Late
  have ho2 : hour_out k (m.getD i pd).2.1 21 [(m.getD i pd).1] = some (lateO 21 (m.getD i pd)) := rfl
  simp only [pd] at ho2
  simp only [boundOk_nat, dec_lt, Int.toNat_natCast, decide_eq_true hi, cond_true, ho2, Option.bind_some, room64 (show s.1.length ≤ 1000 by omega), room56 (show s.2.length ≤ 1000 by omega), w64_succ hi (show m.length < 9223372036854775808 by omega)]
  have f1 := filter_snoc (lateB t) m i pd hi
  have f2 := filter_snoc (fun p => !lateB t p) m i pd hi
  cases hb : lateB t (m.getD i pd) with
  | true =>
   have hb' : decide (t > (m.getD i (0, 0, 0, 0, 0, 0, 0)).2.2.2.2.2.2) = true := hb
   rw [hb']
   refine ⟨(s.1 ++ [lateO 21 (m.getD i pd)], s.2), rfl, ?_, ?_⟩
   ·show s.1 ++ _ = _
    rw [f1, hb, hs.1]
    simp
   ·show s.2 = _
    rw [f2, hb, hs.2]
    simp
  | false =>
   have hb' : decide (t > (m.getD i (0, 0, 0, 0, 0, 0, 0)).2.2.2.2.2.2) = false := hb
   rw [hb']
   refine ⟨(s.1, s.2 ++ [m.getD i pd]), rfl, ?_, ?_⟩
   ·show s.1 = _
    rw [f1, hb, hs.1]
    simp
   ·show s.2 ++ _ = _
    rw [f2, hb, hs.2]
    simp) (s := ([], [])) (show m.length < k by omega) ⟨rfl, rfl⟩
 have := h1.trans (by rw [h2, h3, List.take_length])
 exact this
end Go.Ab.Gi
