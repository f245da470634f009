/- HourLate. -/
import Derived.Test.YtdlamiafpciphaaGiPHourTick
import Derived.Test.YtdlamiafpciphaaGiPRowedT22
import Derived.Test.YtdlamiafpciphaaGiPSome22
set_option linter.unusedVariables false
set_option linter.unusedSimpArgs false
set_option linter.unusedSectionVars false
namespace Go.Ab.Gi
open Go.Ab

theorem known22'' : girolaw22_known 200 = some true := by kernel_rfl

/-- What stays true from tick to tick. -/
structure Hours (r : List PayT) (cl : Nat) (j : Nat) (t : Int) (B : BT) (m : List PayT) (ov : Bool) (o : List OutT) : Prop where
  bk : BooksT B
  bl : B.1.length = 3
  sub : List.Sublist m r
  tick : t = if ov = true then (cl : Int) else (j : Int)
  over : ov = decide (cl ≤ j)
  none : ov = true → m = []
  late : ∀ p ∈ m, lateB t p = false
  stays : ∀ p ∈ m, cntO p o = 0
  goes : ∀ p ∈ r, p ∉ m → cntO p o = 1
  room : o.length + 2 * m.length ≤ 2 * r.length + (if ov = true then 6 else 0)

theorem hours_loop {k : Nat} (hk : 200 ≤ k) {r : List PayT} (hd : Dist r) (hr : ∀ q ∈ r, Few q) (h30 : r.length ≤ 30) (pa : Int) (as : List (Int × Int)) (cu pe : Int) (cl : Nat) (hpe : pe ≠ 0) (hcl : cl ≤ 20) (h1 : 1 ≤ cl) (many : Nat) (hm : many ≤ 30) {B : BT} (hB : BooksT B) (hB3 : B.1.length = 3) :
    ∃ (t : Int) (C : BT) (m : List PayT) (ov : Bool) (o : List OutT), girolaw22_HourLate_L0 k k many r 0 pa cu cl pe as 0 B.1 B.2.1 B.2.2.1 B.2.2.2 [] [] r [] 0 false [] = some ((many : Int), r, pa, cu, (cl : Int), pe, as, t, C.1, C.2.1, C.2.2.1, C.2.2.2, [], [], m, [], 0, ov, o) ∧ Hours r cl many t C m ov o := by
  obtain ⟨s', g1, g2⟩ := carryE0 (L := fun n i (s : Int × BT × List PayT × Bool × List OutT) => girolaw22_HourLate_L0 k n many r i pa cu cl pe as s.1 s.2.1.1 s.2.1.2.1 s.2.1.2.2.1 s.2.1.2.2.2 [] [] s.2.2.1 [] 0 s.2.2.2.1 s.2.2.2.2) (N := many)
    (fun s => ((many : Int), r, pa, cu, (cl : Int), pe, as, s.1, s.2.1.1, s.2.1.2.1, s.2.1.2.2.1, s.2.1.2.2.2, [], [], s.2.2.1, [], 0, s.2.2.2.1, s.2.2.2.2)) (fun i s => Hours r cl i s.1 s.2.1 s.2.2.1 s.2.2.2.1 s.2.2.2.2) (fun n s _ => by
    show girolaw22_HourLate_L0b k _ many r many pa cu cl pe as s.1 s.2.1.1 s.2.1.2.1 s.2.1.2.2.1 s.2.1.2.2.2 [] [] s.2.2.1 [] 0 s.2.2.2.1 s.2.2.2.2 = _
    unfold girolaw22_HourLate_L0b
    simp only [dec_lt, decide_eq_false (Nat.lt_irrefl _), cond_false]) (fun n i s hi hs => by
    obtain ⟨t, C, m, ov, o⟩ := s
    simp only at hs
    show ∃ s', girolaw22_HourLate_L0b k _ many r i pa cu cl pe as t C.1 C.2.1 C.2.2.1 C.2.2.2 [] [] m [] 0 ov o = _ ∧ _
    unfold girolaw22_HourLate_L0b
    have hml := hs.sub.length_le
    have hroom := hs.room
    simp only [dec_lt, decide_eq_true hi, cond_true, w64_succ hi (show many < 9223372036854775808 by omega)]
    cases hov : ov with
    | true =>
      rw [hov] at hs hroom
      simp only [if_true] at hroom
      have hT : hour_Tick k pa as cu cl pe t C.1 C.2.1 C.2.2.1 C.2.2.2 [] [] m [] 0 true = some (t, C.1, C.2.1, C.2.2.1, C.2.2.2, [], [], m, [], 0, true, []) := rfl
      have hr0 : roomB (o.length + ([] : List OutT).length) 64 = true := roomB_true (by simp; omega) (by simp; omega)
      rw [hT]
      simp only [Option.bind_some, hr0, cond_true, List.append_nil]
      refine ⟨(t, C, m, true, o), rfl, hs.bk, hs.bl, hs.sub, hs.tick, ?_, hs.none, hs.late, hs.stays, hs.goes, hs.room⟩
      have := hs.over
      have hc : cl ≤ i := by
        simpa using this.symm
      exact (decide_eq_true (by omega)).symm
    | false =>
      rw [hov] at hs hroom
      have ht : t = (i : Int) := hs.tick
      have hc : ¬ cl ≤ i := by
        have := hs.over
        simpa using this.symm
      have hdm : Dist m := List.Pairwise.sublist hs.sub hd
      obtain ⟨D, m', ov', o', f1, f2⟩ := tick_is hk hs.bk hdm (fun q hq => by rw [hs.bl]; exact (hr q (hs.sub.subset hq)).1.1) (by omega) pa as cu cl pe t (by omega) hpe [] [] [] 0
      have hroom' := f2.room
      have hro : roomB (o.length + o'.length) 64 = true := roomB_true (by simp at hroom; split at hroom' <;> omega) (by simp at hroom; split at hroom' <;> omega)
      rw [f1]
      simp only [Option.bind_some, hro, cond_true]
      have hov' : ov' = decide (cl ≤ i + 1) := by
        rw [f2.over, ht]
        by_cases c : cl = i + 1
        · rw [decide_eq_true (by omega), decide_eq_true (by omega)]
        · rw [decide_eq_false (by omega), decide_eq_false (by omega)]
      refine ⟨(t + 1, D, m', ov', o ++ o'), rfl, f2.bk, f2.bl.trans hs.bl, f2.sub.trans hs.sub, ?_, hov', f2.none, ?_, ?_, ?_, ?_⟩
      · cases hb : ov' with
        | true =>
          rw [hb] at hov'
          have : cl ≤ i + 1 := by simpa using hov'.symm
          show t + 1 = (cl : Int)
          omega
        | false =>
          show t + 1 = ((i + 1 : Nat) : Int)
          omega
      · intro p hp
        cases hb : ov' with
        | true =>
          rw [f2.none hb] at hp
          cases hp
        | false => exact f2.late hb p hp
      · intro p hp
        rw [cntO_append, hs.stays p (f2.sub.subset hp), f2.stays p hp]
      · intro p hp hn
        rw [cntO_append]
        by_cases c : p ∈ m
        · rw [hs.stays p c, f2.goes p c hn]
        · rw [hs.goes p hp c, f2.quiet p (fun x hx e => c (by rw [← hd.eq_of (hs.sub.subset hx) hp e]; exact hx))]
      · show (o ++ o').length + 2 * m'.length ≤ 2 * r.length + (if ov' = true then 6 else 0)
        rw [List.length_append]
        simp at hroom
        split at hroom' <;> rename_i hb
        · rw [if_pos hb]; omega
        · rw [if_neg hb]; omega) (s := (0, B, r, false, [])) (show many < k by omega) ⟨hB, hB3, List.Sublist.refl _, rfl, (decide_eq_false (by omega)).symm, (fun e => by cases e), fun p hp => decide_eq_false (by have := (hr p hp).2; show ¬ (0 : Int) > _; omega), fun p _ => rfl, fun p hp hn => absurd hp hn, by simp⟩
  exact ⟨s'.1, s'.2.1, s'.2.2.1, s'.2.2.2.1, s'.2.2.2.2, g1, g2⟩

theorem cntO_snoc (q : PayT) (o : List OutT) (i : Nat) (hi : i < o.length) : cntO q (o.take (i + 1)) = cntO q (o.take i) + (if isOf q (o.getD i od) = true then 1 else 0) := by
  rw [← take_snoc o i od hi, cntO_append]
  unfold cntO
  rw [List.countP_cons, List.countP_nil]
  omega

section
variable {k : Nat} (hk : 200 ≤ k) {r : List PayT} (h30 : r.length ≤ 30) (many pa cu cl pe : Int) (as : List (Int × Int)) (t : Int) (C : BT) (m : List PayT) (ov : Bool) (o : List OutT) (ho : o.length ≤ 100)
include hk h30 ho

theorem count_loop {i : Nat} (hi : i < r.length) :
    girolaw22_HourLate_L2 k k many r i 0 0 pa cu cl pe as t C.1 C.2.1 C.2.2.1 C.2.2.2 [] [] m [] 0 ov o = some (many, r, (i : Int), ((cntO (r.getD i pd) o : Nat) : Int), pa, cu, cl, pe, as, t, C.1, C.2.1, C.2.2.1, C.2.2.2, [], [], m, [], 0, ov, o) := by
  obtain ⟨s', g1, g2⟩ := carryE0 (L := fun n j (s : Int) => girolaw22_HourLate_L2 k n many r i s j pa cu cl pe as t C.1 C.2.1 C.2.2.1 C.2.2.2 [] [] m [] 0 ov o) (N := o.length) (fun s => (many, r, (i : Int), s, pa, cu, cl, pe, as, t, C.1, C.2.1, C.2.2.1, C.2.2.2, [], [], m, [], 0, ov, o)) (fun j s => s = ((cntO (r.getD i pd) (o.take j) : Nat) : Int)) (fun n s _ => by
    show girolaw22_HourLate_L2b k _ many r i s o.length pa cu cl pe as t C.1 C.2.1 C.2.2.1 C.2.2.2 [] [] m [] 0 ov o = _
    unfold girolaw22_HourLate_L2b
    simp only [dec_lt, decide_eq_false (Nat.lt_irrefl _), cond_false]) (fun n j s hj hs => by
    show ∃ s', girolaw22_HourLate_L2b k _ many r i s j pa cu cl pe as t C.1 C.2.1 C.2.2.1 C.2.2.2 [] [] m [] 0 ov o = _ ∧ _
    unfold girolaw22_HourLate_L2b
    have hcl : cntO (r.getD i pd) (o.take j) ≤ 100 := by
      unfold cntO
      have := List.countP_le_length (p := isOf (r.getD i pd)) (l := o.take j)
      rw [List.length_take] at this
      omega
    have hw : w64 (s + 1) = s + 1 := by rw [hs]; exact w64_id (by omega) (by omega)
    simp only [dec_lt, boundOk_nat, Int.toNat_natCast, decide_eq_true hj, decide_eq_true hi, cond_true, hw, w64_succ hj (show o.length < 9223372036854775808 by omega)]
    have key := cntO_snoc (r.getD i pd) o j hj
    have hyes : isOf (r.getD i pd) (o.getD j od) = true → s + 1 = ((cntO (r.getD i pd) (o.take (j + 1)) : Nat) : Int) := fun e => by rw [key, if_pos e, hs]; omega
    have hno : isOf (r.getD i pd) (o.getD j od) = false → s = ((cntO (r.getD i pd) (o.take (j + 1)) : Nat) : Int) := fun e => by rw [key, e, hs]; simp
    unfold isOf at hyes hno
    cases e1 : decide ((o.getD j od).2.2.1 = (r.getD i pd).1) with
    | false => rw [e1] at hno; exact ⟨s, rfl, hno rfl⟩
    | true =>
      cases e2 : decide ((o.getD j od).1 = (r.getD i pd).2.1) with
      | false => rw [e1, e2] at hno; exact ⟨s, rfl, hno rfl⟩
      | true =>
        cases e3 : decide ((o.getD j od).2.1 = 21) with
        | true => rw [e1, e2, e3] at hyes; exact ⟨s + 1, rfl, hyes rfl⟩
        | false =>
          cases e4 : decide ((o.getD j od).2.1 = 22) with
          | true => rw [e1, e2, e3, e4] at hyes; exact ⟨s + 1, rfl, hyes rfl⟩
          | false =>
            cases e5 : decide ((o.getD j od).2.1 = 18) with
            | true => rw [e1, e2, e3, e4, e5] at hyes; exact ⟨s + 1, rfl, hyes rfl⟩
            | false => rw [e1, e2, e3, e4, e5] at hno; exact ⟨s, rfl, hno rfl⟩) (s := 0) (show o.length < k by omega) rfl
  have := g1.trans (by rw [g2, List.take_length])
  exact this

theorem once_loop (hd : Dist r) (hsub : List.Sublist m r) (hno : ov = true → m = []) (hl : ∀ p ∈ m, lateB t p = false) (hs : ∀ p ∈ m, cntO p o = 0) (hg : ∀ p ∈ r, p ∉ m → cntO p o = 1) :
    girolaw22_HourLate_L1 k k many r 0 pa cu cl pe as t C.1 C.2.1 C.2.2.1 C.2.2.2 [] [] m [] 0 ov o = some (.inl (many, pa, cu, cl, pe, as, t, C.1, C.2.1, C.2.2.1, C.2.2.2, [], [], m, [], 0, ov)) := by
  have hml := hsub.length_le
  have := scan0 (L := fun n i => girolaw22_HourLate_L1 k n many r i pa cu cl pe as t C.1 C.2.1 C.2.2.1 C.2.2.2 [] [] m [] 0 ov o) (N := r.length) (fun _ => true) (.inl (many, pa, cu, cl, pe, as, t, C.1, C.2.1, C.2.2.1, C.2.2.2, [], [], m, [], 0, ov)) (.inr false) (fun n => by
    show girolaw22_HourLate_L1b k _ many r r.length pa cu cl pe as t C.1 C.2.1 C.2.2.1 C.2.2.2 [] [] m [] 0 ov o = _
    unfold girolaw22_HourLate_L1b
    simp only [dec_lt, decide_eq_false (Nat.lt_irrefl _), cond_false]) (fun n i hi => by
    show girolaw22_HourLate_L1b k _ many r i pa cu cl pe as t C.1 C.2.1 C.2.2.1 C.2.2.2 [] [] m [] 0 ov o = _
    unfold girolaw22_HourLate_L1b giroref11_Late
    have hF := giroref13_Find_eq (k := k) (l := m) (by omega) (by omega) (r.getD i pd).1
    have hmem := getD_mem (d := pd) hi
    simp only [pd] at hF
    simp only [dec_lt, decide_eq_true hi, cond_true]
    rw [count_loop hk h30 many pa cu cl pe as t C m ov o ho hi]
    simp only [Option.bind_some, boundOk_nat, Int.toNat_natCast, decide_eq_true hi, cond_true, hF, w64_succ hi (show r.length < 9223372036854775808 by omega)]
    by_cases c : r.getD i pd ∈ m
    · have e1 : decide (posI m (r.getD i (0, 0, 0, 0, 0, 0, 0)).1 ≥ 0) = true := by
        obtain ⟨x, hx⟩ := posL_mem c
        have hx' : posL m (r.getD i (0, 0, 0, 0, 0, 0, 0)).1 = some x := hx
        unfold posI
        rw [hx']
        exact decide_eq_true (by simp)
      have hov : ov = false := by
        cases h : ov with
        | false => rfl
        | true => rw [hno h] at c; cases c
      have hlt : decide (t > (r.getD i (0, 0, 0, 0, 0, 0, 0)).2.2.2.2.2.2) = false := hl _ c
      rw [hs _ c, e1, hov, hlt]
      rfl
    · have e1 : decide (posI m (r.getD i (0, 0, 0, 0, 0, 0, 0)).1 ≥ 0) = false := by
        unfold posI
        cases hp : posL m (r.getD i (0, 0, 0, 0, 0, 0, 0)).1 with
        | none => rfl
        | some x =>
          have hx := posL_some hp
          have hin := getD_mem (d := pd) hx.1
          have heq := hd.eq_of (hsub.subset hin) hmem hx.2
          rw [heq] at hin
          exact absurd hin c
      rw [hg _ hmem c, e1]
      rfl) (show r.length < k by omega)
  rw [allF_zero.2 (fun _ _ => rfl)] at this
  exact this
end

theorem hourLate (way : Int) (l : List PayT) (many : Int) : girolaw22_HourLate 200 way l many = some true := by
  have hrules : ∃ (pa : Int) (as : List (Int × Int)) (cu : Int) (cl : Nat) (pe : Int), girolaw22_rules 200 way = some (pa, as, cu, (cl : Int), pe) ∧ pe ≠ 0 ∧ cl ≤ 20 ∧ 1 ≤ cl := by
    unfold girolaw22_rules
    cases decide (band .i64 way 3 = 1) with
    | true => exact ⟨4, [(100, 1000), (7, 0)], 12, 20, 100, rfl, by decide, by decide, by decide⟩
    | false =>
      cases decide (band .i64 way 3 = 2) with
      | true => exact ⟨3, [], 20, 20, 4, rfl, by decide, by decide, by decide⟩
      | false =>
        cases decide (band .i64 way 3 = 3) with
        | true => exact ⟨3, [(100, 1000), (7, 0)], 0, 6, 1, rfl, by decide, by decide, by decide⟩
        | false => exact ⟨3, [(100, 1000), (7, 0)], 12, 20, 4, rfl, by decide, by decide, by decide⟩
  obtain ⟨pa, as, cu, cl, pe, hR, hpe, hcl, hcl1⟩ := hrules
  unfold girolaw22_HourLate
  rw [hR]
  simp only [Option.bind_some]
  cases h30 : decide ((l.length : Int) > 30) with
  | true => rfl
  | false =>
    have hl : l.length ≤ 30 := by simp at h30; omega
    cases hm0 : decide (many < 0) with
    | true => rfl
    | false =>
      cases hm1 : decide (many > 30) with
      | true => rfl
      | false =>
        rw [decide_eq_false_iff_not] at hm0 hm1
        obtain ⟨j, rfl⟩ : ∃ j : Nat, many = j := ⟨many.toNat, by omega⟩
        obtain ⟨r, h1, h2, h3, h4⟩ := rowedM22 (k := 200) (l := l) (by omega) (by omega)
        have hst : girolaw22_state 200 [] 0 l 0 = some (0, sA [] 0, sB 0, sM 0, sP 0, [], [], r, [], 0, false) := by
          unfold girolaw22_state
          rw [some22_eq (by omega), h1]
          rfl
        have hB : BooksT (sA [] 0, sB 0, sM 0, sP 0) := some_books [] 0
        rw [hst]
        simp only [cond_false, Option.bind_some]
        obtain ⟨t, C, m, ov, o, g1, g2⟩ := hours_loop (k := 200) (by omega) h2 h4 (by omega) pa as cu pe cl hpe hcl hcl1 j (by omega) hB rfl
        have g1' : girolaw22_HourLate_L0 200 200 j r 0 pa cu cl pe as 0 (sA [] 0) (sB 0) (sM 0) (sP 0) [] [] r [] 0 false [] = _ := g1
        rw [g1']
        simp only [Option.bind_some]
        have hro := g2.room
        rw [once_loop (k := 200) (by omega) (by omega) j pa cu cl pe as t C m ov o (by split at hro <;> omega) h2 g2.sub g2.none g2.late g2.stays g2.goes]
        simp only [Option.bind_some]
        have e : eqBool ov (decide ((j : Int) ≥ (cl : Int))) = true := by
          rw [g2.over]
          by_cases c : cl ≤ j
          · rw [decide_eq_true c, decide_eq_true (by omega)]; rfl
          · rw [decide_eq_false c, decide_eq_false (by omega)]; rfl
        rw [e, known22'']
        rfl
end Go.Ab.Gi
