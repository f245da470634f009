/- part 34 -/
import Derived.Test.YtdhajnjinkknkaaGreatGiPCRow
import Derived.Test.YtdhajnjinkknkaaGreatGiPCWorth
import Derived.Test.YtdhajnjinkknkaaGreatGiPCTick
set_option linter.unusedVariables false
set_option linter.unusedSimpArgs false
namespace Go.Ab.Gi
open Go.Ab
abbrev Mtx' := List (List Int)
abbrev RulesT := Int × List AssetT × Int × Int × Int
abbrev MsgT := Int × Int × Int × Int × Int × Int × Int
abbrev DeskT := Int × List AssetT × Int × Int × Int × Int × List Acc × Mtx' × List Int × Mtx' × List Int × Mtx' × List PayT × List Int × Int × Bool × Int × List OutT
structure StR where
 t : Int
 B : BT
 pr : List Int
 ho : Mtx'
 m : List PayT
 ids : List Int
 to : Int
 ov : Bool
abbrev StateT := Int × List Acc × Mtx' × List Int × Mtx' × List Int × Mtx' × List PayT × List Int × Int × Bool
def StR.st (s : StR) : StateT := (s.t, s.B.1, s.B.2.1, s.B.2.2.1, s.B.2.2.2, s.pr, s.ho, s.m, s.ids, s.to, s.ov)
def dk (r : RulesT) (s : StR) (who : Int) (l : List OutT) : DeskT := (r.1, r.2.1, r.2.2.1, r.2.2.2.1, r.2.2.2.2, s.t, s.B.1, s.B.2.1, s.B.2.2.1, s.B.2.2.2, s.pr, s.ho, s.m, s.ids, s.to, s.ov, who, l)
structure RulesOK (r : RulesT) : Prop where
 pa : 1 ≤ r.1 ∧ r.1 ≤ 6
 n3 : r.2.1.length ≤ 3
 price : ∀ i, i < r.2.1.length → 0 ≤ (r.2.1.getD i assD).1 ∧ (r.2.1.getD i assD).1 ≤ 1048576
 cut : ∀ i, i < r.2.1.length → 0 ≤ (r.2.1.getD i assD).2 ∧ (r.2.1.getD i assD).2 ≤ 10000
 cu : 0 ≤ r.2.2.1 ∧ r.2.2.1 ≤ r.2.2.2.1
 cl : 1 ≤ r.2.2.2.1 ∧ r.2.2.2.1 ≤ 1048576
 pe : 1 ≤ r.2.2.2.2 ∧ r.2.2.2.2 ≤ 1048576
def Sorted (m : List PayT) : Prop := List.Pairwise (fun p q => leP p q = true) m
structure Waits (n : Nat) (m : List PayT) (ids : List Int) : Prop where
 dist : Dist m
 len : m.length ≤ 40
 sort : Sorted m
 may : ∀ p ∈ m, May n p
 time : ∀ p ∈ m, 0 ≤ p.2.2.2.2.2.1 ∧ p.2.2.2.2.2.1 ≤ p.2.2.2.2.2.2 ∧ p.2.2.2.2.2.2 ≤ 1048576
 were : ∀ p ∈ m, p.1 ∈ ids
 asc : Asc ids
 pos : ∀ x ∈ ids, 1 ≤ x
 idl : ids.length ≤ 200
structure Inv (r : RulesT) (s : StR) : Prop where
 tk : 0 ≤ s.t ∧ s.t ≤ r.2.2.2.1
 bk : BooksT s.B
 n : (s.B.1.length : Int) = r.1
 hol : s.ho.length = s.B.1.length
 laid : ∀ i, i < s.B.1.length → Laid r.2.1 s.pr (s.ho.getD i [])
 cred : ∀ i, i < s.B.1.length → (s.B.1.getD i ad).2.1 = valueI r.2.1 s.pr (s.ho.getD i [])
 most : ∀ i, i < s.B.1.length → (s.B.1.getD i ad).2.1 ≤ 1152921504606846976
 waits : Waits s.B.1.length s.m s.ids
 sum : sumN (fun i => (s.B.1.getD i ad).1) s.B.1.length = s.to
 tot : 0 ≤ s.to ∧ s.to ≤ 1152921504606846976
 over : s.ov = decide (s.t = r.2.2.2.1)
 none : s.ov = true → s.m = []
theorem core_in_eq (k : Nat) (a b c : Int) : core_in k a b c = some (decide (a ≥ b) && decide (a ≤ c)) := by
 unfold core_in
 cases decide (a ≥ b) <;> rfl
theorem cond_some' {α : Type} (c : Bool) (a b : α) : (bif c then some a else some b) = some (bif c then a else b) := by cases c <;> rfl
theorem cond_and (c a : Bool) : (bif c then a else false) = (c && a) := by cases c <;> rfl
theorem cond_same {α : Type} (c : Bool) (a : α) : (bif c then a else a) = a := by cases c <;> rfl
def isPayB (pa t : Int) (p : PayT) : Bool :=
 decide (p.2.1 ≥ 0) && decide (p.2.1 < pa) && (decide (p.2.2.1 ≥ 0) && decide (p.2.2.1 < pa) && (decide (p.1 ≥ 1) && (decide (p.2.2.2.1 ≥ 1) && (decide (p.2.2.2.1 ≤ 1099511627776) && (decide (p.2.2.2.2.1 ≥ 1) && (!decide (p.2.1 = p.2.2.1) && (decide (p.2.2.2.2.1 ≤ 3) && (decide (p.2.2.2.2.2.1 ≥ 0) && (decide (p.2.2.2.2.2.1 ≤ p.2.2.2.2.2.2) && (decide (p.2.2.2.2.2.2 ≥ t) && decide (p.2.2.2.2.2.2 ≤ 1048576)))))))))))
theorem isParty_eq (k : Nat) (r : RulesT) (w : Int) : pay_isParty k r w = some (decide (w ≥ 0) && decide (w < r.1)) := by
 unfold pay_isParty
 cases decide (w ≥ 0) <;> rfl
theorem isPay_eq (k : Nat) (r : RulesT) (t : Int) (p : PayT) : pay_isPay k r t p = some (isPayB r.1 t p) := by
 unfold pay_isPay isPayB
 simp only [isParty_eq, Option.bind_some, cond_same, cond_some', cond_and]
def mayS (cu cl t c : Int) : Int := bif decide (t ≥ cl) then 7 else bif decide (c = 3) && decide (t ≥ cu) then 7 else 0
theorem day_May_eq (k : Nat) (r : RulesT) (t c : Int) : day_May k r t c = some (mayS r.2.2.1 r.2.2.2.1 t c) := by
 unfold day_May mayS
 cases decide (t ≥ r.2.2.2.1) <;> cases decide (c = 3) <;> cases decide (t ≥ r.2.2.1) <;> rfl
def checkS (r : RulesT) (t : Int) (p : PayT) : Int := bif !isPayB r.1 t p then 1 else mayS r.2.2.1 r.2.2.2.1 t p.2.2.2.2.1
theorem pay_Check_eq (k : Nat) (r : RulesT) (t : Int) (p : PayT) : pay_Check k r t p = some (checkS r t p) := by
 unfold pay_Check checkS
 rw [isPay_eq]
 simp only [Option.bind_some, day_May_eq]
 cases isPayB r.1 t p <;> rfl
def payF (who : Int) (f : MsgT) : PayT := (f.2.1, who, f.2.2)
def payS (r : RulesT) (s : StR) (who : Int) (f : MsgT) : Int × List PayT × List Int :=
 bif !(decide (f.2.2.1 ≥ 0) && decide (f.2.2.1 ≤ r.1 - 1)) then (1, s.m, s.ids)
 else bif !(decide (f.2.2.2.2.1 ≥ 1) && decide (f.2.2.2.2.1 ≤ 3)) then (1, s.m, s.ids)
 else bif !decide (checkS r s.t (payF who f) = 0) then (checkS r s.t (payF who f), s.m, s.ids)
 else bif decide (f.2.1 ∈ s.ids) then (6, s.m, s.ids)
 else bif decide (200 ≤ s.ids.length) then (3, s.m, s.ids)
 else bif (posL s.m f.2.1).isSome then (6, s.m, s.ids)
 else bif decide (40 ≤ s.m.length) then (3, s.m, s.ids)
 else (0, putL s.m (payF who f), addI s.ids f.2.1)
theorem pays_eq {k : Nat} (hk : 1000 ≤ k) {r : RulesT} (hr : RulesOK r) {s : StR} (h : Waits s.B.1.length s.m s.ids) (who : Int) (l : List OutT) (f : MsgT) :
  ∃ d, core_desk_pays k (dk r s who l) f.2 = some ((payS r s who f).1, d) ∧ ((payS r s who f).1 = 0 → d = dk r { s with m := (payS r s who f).2.1, ids := (payS r s who f).2.2 } who l) := by
 have hp := hr.pa
 have hi := h.idl
 have hm := h.len
 have w1 : w64 (r.1 - 1) = r.1 - 1 := w64_id (by omega) (by omega)
 have eD : core_desk_pays k (dk r s who l) f.2 = (core_in k f.2.2.1 0 (w64 (r.1 - 1))).bind fun x0 =>
  bif !x0 then some (1, dk r s who l)
  else (core_in k f.2.2.2.2.1 1 3).bind fun x1 =>
  bif !x1 then some (1, dk r s who l)
  else (pay_Check k r s.t (payF who f)).bind fun x2 =>
  bif !(decide (x2 = 0)) then some (x2, dk r s who l)
  else (ids_Add k s.ids f.2.1).bind fun x3 =>
  bif !(decide (x3.2 = 0)) then some (x3.2, dk r s who l)
  else (row_Put k s.m (payF who f)).bind fun x4 =>
  bif !(decide (x4.2 = 0)) then some (x4.2, dk r s who l)
  else some (0, dk r { s with m := x4.1, ids := x3.1 } who l) := rfl
 rw [eD, core_in_eq, core_in_eq, pay_Check_eq, w1, ids_Add_eq (by omega) (by omega) h.asc, row_Put_eq (by omega) (by omega) (by unfold Small; omega)]
 simp only [Option.bind_some]
 unfold payS
 cases decide (f.2.2.1 ≥ 0) && decide (f.2.2.1 ≤ r.1 - 1) with
 | false => exact ⟨_, rfl, fun e => by cases e⟩
 | true =>
 cases decide (f.2.2.2.2.1 ≥ 1) && decide (f.2.2.2.2.1 ≤ 3) with
 | false => exact ⟨_, rfl, fun e => by cases e⟩
 | true =>
 simp only [Bool.not_true, cond_false]
 by_cases hc : checkS r s.t (payF who f) = 0
 ·rw [decide_eq_true hc]
  simp only [Bool.not_true, cond_false]
  by_cases h1 : f.2.1 ∈ s.ids
  ·rw [decide_eq_true h1]; exact ⟨_, rfl, fun e => by cases e⟩
  ·rw [decide_eq_false h1]
   by_cases h2 : 200 ≤ s.ids.length
   ·rw [decide_eq_true h2]; exact ⟨_, rfl, fun e => by cases e⟩
   ·rw [decide_eq_false h2]
    have e1 : (payF who f).1 = f.2.1 := rfl
    have e0 : decide ((0 : Int) = 0) = true := decide_eq_true rfl
    rw [e1]
    cases (posL s.m f.2.1).isSome with
    | true => exact ⟨_, rfl, fun e => by cases e⟩
    | false =>
     by_cases h3 : 40 ≤ s.m.length
     ·rw [decide_eq_true h3]; exact ⟨_, rfl, fun e => by cases e⟩
     ·rw [decide_eq_false h3]; exact ⟨_, rfl, fun _ => rfl⟩
 ·rw [decide_eq_false hc]
  exact ⟨_, rfl, fun e => absurd e hc⟩
def noteO (who kd a : Int) : OutT := (who, kd, a, 0, 0, 0, 0, 0)
theorem tells_eq {k : Nat} {l : List OutT} (hl : l.length ≤ 1000) (r : RulesT) (s : StR) (who kd a : Int) : core_desk_tells_v3 k (dk r s who l) kd [a] = some (dk r s who (l ++ [noteO who kd a])) := by
 have e : core_desk_tells_v3 k (dk r s who l) kd [a] = bif roomB (l.length + 1) 64 then some (dk r s who (l ++ [noteO who kd a])) else none := rfl
 rw [e, roomB_true (by omega) (by omega)]
 rfl
def waitS (r : RulesT) (s : StR) (who : Int) (f : MsgT) : Int × List PayT × List OutT := match posL s.m f.2.1 with
 | none => (4, s.m, [])
 | some x =>
  bif !decide ((s.m.getD x pd).2.1 = who) then (4, s.m, [])
  else bif decide (f.1 = 2) then (0, cutL s.m x, [noteO who 20 f.2.1])
  else bif decide (f.1 = 4) then (bif !(decide (f.2.2.1 ≥ 1) && decide (f.2.2.1 ≤ 3)) then (1, s.m, [])
   else bif !decide (mayS r.2.2.1 r.2.2.2.1 s.t f.2.2.1 = 0) then (mayS r.2.2.1 r.2.2.2.1 s.t f.2.2.1, s.m, [])
   else (0, putL (cutL s.m x) ((s.m.getD x pd).1, (s.m.getD x pd).2.1, (s.m.getD x pd).2.2.1, (s.m.getD x pd).2.2.2.1, f.2.2.1, (s.m.getD x pd).2.2.2.2.2.1, (s.m.getD x pd).2.2.2.2.2.2), []))
  else bif decide (f.2.2.1 = 0) then (0, frontL (cutL s.m x) (s.m.getD x pd), [])
  else bif decide (f.2.2.1 = 1) then (0, putL (cutL s.m x) (s.m.getD x pd), [])
  else (1, s.m, [])
theorem waits_eq {k : Nat} (hk : 1000 ≤ k) {r : RulesT} {s : StR} (h : Waits s.B.1.length s.m s.ids) (who : Int) {l : List OutT} (hl : l.length ≤ 1000) (f : MsgT) :
  ∃ d, core_desk_waits k (dk r s who l) f = some ((waitS r s who f).1, d) ∧ ((waitS r s who f).1 = 0 → d = dk r { s with m := (waitS r s who f).2.1 } who (l ++ (waitS r s who f).2.2)) := by
 have hm := h.len
 have hsm : Small s.m := by unfold Small; omega
 have eD : core_desk_waits k (dk r s who l) f = ((row_Find k s.m f.2.1).bind fun x0 =>
   bif decide (x0 < 0) then some (((0, 0, 0, 0, 0, 0, 0) : PayT), (4 : Int))
   else bif boundOk x0 s.m.length then (bif !(decide ((s.m.getD x0.toNat (0, 0, 0, 0, 0, 0, 0)).2.1 = who)) then some ((0, 0, 0, 0, 0, 0, 0), 4)
    else bif boundOk x0 s.m.length then some ((s.m.getD x0.toNat (0, 0, 0, 0, 0, 0, 0)), 0)
    else none)
   else none).bind fun x0 =>
  bif !(decide (x0.2 = 0)) then some (x0.2, dk r s who l)
  else bif decide (f.1 = 2) then ((row_Drop k s.m f.2.1).bind fun x1 =>
   (core_desk_tells_v3 k (dk r { s with m := x1.1 } who l) 20 [f.2.1]).bind fun x2 =>
   some (x1.2.2.2.2.2.2.2.2, x2))
  else bif decide (f.1 = 4) then ((core_in k f.2.2.1 1 3).bind fun x3 =>
   bif !x3 then some (1, dk r s who l)
   else (day_May k r s.t f.2.2.1).bind fun x4 =>
   bif !(decide (x4 = 0)) then some (x4, dk r s who l)
   else (row_Class k s.m f.2.1 f.2.2.1).bind fun x5 =>
   some (x5.2, dk r { s with m := x5.1 } who l))
  else bif decide (f.2.2.1 = 0) then ((row_Front k s.m f.2.1).bind fun x6 =>
   some (x6.2, dk r { s with m := x6.1 } who l))
  else bif decide (f.2.2.1 = 1) then ((row_Back k s.m f.2.1).bind fun x7 =>
   some (x7.2, dk r { s with m := x7.1 } who l))
  else some (1, dk r s who l) := rfl
 rw [eD, row_Find_eq (by omega) (by omega)]
 unfold waitS posI
 cases hx : posL s.m f.2.1 with
 | none => exact ⟨_, rfl, fun e => by cases e⟩
 | some x =>
  have hx1 := posL_some hx
  have e1 : decide ((x : Int) < 0) = false := decide_eq_false (by omega)
  simp only [Option.bind_some, e1, cond_false, boundOk_nat, decide_eq_true hx1.1, cond_true, Int.toNat_natCast]
  by_cases hw : (s.m.getD x (0, 0, 0, 0, 0, 0, 0)).2.1 = who
  ·have hw' : (s.m.getD x pd).2.1 = who := hw
   rw [decide_eq_true hw]
   simp only [Bool.not_true, cond_false, Option.bind_some, decide_true]
   by_cases h2 : f.1 = 2
   ·rw [decide_eq_true h2]
    simp only [cond_true, row_Drop_eq (show s.m.length < k by omega) hsm, Option.bind_some, tells_eq hl]
    unfold dropR
    rw [hx]
    exact ⟨_, rfl, fun _ => rfl⟩
   ·rw [decide_eq_false h2]
    simp only [cond_false]
    by_cases h4 : f.1 = 4
    ·rw [decide_eq_true h4]
     simp only [cond_true, core_in_eq, Option.bind_some, day_May_eq, row_Class_eq (show 3 ≤ k by omega) (show s.m.length < k by omega) hsm h.dist hm hx]
     cases decide (f.2.2.1 ≥ 1) && decide (f.2.2.1 ≤ 3) with
     | false => exact ⟨_, rfl, fun e => by cases e⟩
     | true =>
      simp only [Bool.not_true, cond_false]
      by_cases hc : mayS r.2.2.1 r.2.2.2.1 s.t f.2.2.1 = 0
      ·rw [decide_eq_true hc]
       exact ⟨_, rfl, fun _ => by show dk r _ who l = dk r _ who (l ++ []); rw [List.append_nil]; rfl⟩
      ·rw [decide_eq_false hc]
       exact ⟨_, rfl, fun e => absurd e hc⟩
    ·rw [decide_eq_false h4]
     simp only [cond_false]
     by_cases h0 : f.2.2.1 = 0
     ·rw [decide_eq_true h0]
      simp only [cond_true, row_Front_eq (show 3 ≤ k by omega) (show s.m.length < k by omega) hsm hx, Option.bind_some]
      exact ⟨_, rfl, fun _ => by show dk r _ who l = dk r _ who (l ++ []); rw [List.append_nil]⟩
     ·rw [decide_eq_false h0]
      simp only [cond_false]
      by_cases h1 : f.2.2.1 = 1
      ·rw [decide_eq_true h1]
       simp only [cond_true, row_Back_eq (show 3 ≤ k by omega) (show s.m.length < k by omega) hsm h.dist hm hx, Option.bind_some]
       exact ⟨_, rfl, fun _ => by show dk r _ who l = dk r _ who (l ++ []); rw [List.append_nil]⟩
      ·rw [decide_eq_false h1]
       exact ⟨_, rfl, fun e => by cases e⟩
  ·have hw' : ¬ (s.m.getD x pd).2.1 = who := hw
   rw [decide_eq_false hw]
   exact ⟨_, rfl, fun e => by cases e⟩
def setB (s : StR) (a : List Acc) (b : Mtx') (m : List Int) : StR := { s with B := (a, b, m, s.B.2.2.2) }
def limS (r : RulesT) (s : StR) (who : Int) (f : MsgT) : Int × StR :=
 bif decide (f.1 = 5) then (bif !((decide (f.2.1 ≥ 0) && decide (f.2.1 ≤ r.1 - 1)) && !decide (f.2.1 = who)) then (1, s)
  else bif !(decide (f.2.2.1 ≥ -1) && decide (f.2.2.1 ≤ 1152921504606846976)) then (1, s)
  else (0, setB s s.B.1 (s.B.2.1.set who.toNat ((s.B.2.1.getD who.toNat []).set f.2.1.toNat f.2.2.1)) s.B.2.2.1))
 else bif decide (f.1 = 6) then (bif !(decide (f.2.1 ≥ -1) && decide (f.2.1 ≤ 1152921504606846976)) then (1, s)
  else (0, setB s s.B.1 s.B.2.1 (s.B.2.2.1.set who.toNat f.2.1)))
 else bif !(decide (f.2.1 ≥ 0) && decide (f.2.1 ≤ 1152921504606846976)) then (1, s)
 else (0, setB s (s.B.1.set who.toNat ((s.B.1.getD who.toNat ad).1, (s.B.1.getD who.toNat ad).2.1, f.2.1)) s.B.2.1 s.B.2.2.1)
theorem limits_eq {k : Nat} (hk : 1000 ≤ k) {r : RulesT} (hr : RulesOK r) {s : StR} (hb : BooksT s.B) (hn : (s.B.1.length : Int) = r.1) {who : Int} (hw : 0 ≤ who ∧ who < r.1) (l : List OutT) (f : MsgT) :
    ∃ d, core_desk_limits k (dk r s who l) f = some ((limS r s who f).1, d) ∧ ((limS r s who f).1 = 0 → d = dk r (limS r s who f).2 who l) := by
  have hp := hr.pa
  have w1 : w64 (r.1 - 1) = r.1 - 1 := w64_id (by omega) (by omega)
  obtain ⟨w, rfl⟩ := Int.eq_ofNat_of_zero_le hw.1
  have hwn : w < s.B.1.length := by omega
  have eD : core_desk_limits k (dk r s w l) f = (lim_Copy k s.B.1 s.B.2.1 s.B.2.2.1 s.B.2.2.2).bind fun x0 =>
    bif decide (f.1 = 5) then (((core_in k f.2.1 0 (w64 (r.1 - 1))).bind fun x0 => bif x0 then some (!(decide (f.2.1 = (w : Int)))) else some false).bind fun x1 =>
      bif !x1 then some (1, dk r s w l)
      else (core_in k f.2.2.1 (-1) 1152921504606846976).bind fun x2 =>
      bif !x2 then some (1, dk r s w l)
      else bif boundOk (w : Int) x0.2.1.length then (bif boundOk f.2.1 (x0.2.1.getD (w : Int).toNat []).length then
        some (0, dk r { s with B := (x0.1, (x0.2.1.set (w : Int).toNat ((x0.2.1.getD (w : Int).toNat []).set f.2.1.toNat f.2.2.1)), x0.2.2.1, x0.2.2.2) } w l)
       else none)
      else none)
    else bif decide (f.1 = 6) then ((core_in k f.2.1 (-1) 1152921504606846976).bind fun x3 =>
      bif !x3 then some (1, dk r s w l)
      else bif boundOk (w : Int) x0.2.2.1.length then some (0, dk r { s with B := (x0.1, x0.2.1, (x0.2.2.1.set (w : Int).toNat f.2.1), x0.2.2.2) } w l)
      else none)
    else (core_in k f.2.1 0 1152921504606846976).bind fun x4 =>
    bif !x4 then some (1, dk r s w l)
    else bif boundOk (w : Int) x0.1.length then some (0, dk r { s with B := ((x0.1.set (w : Int).toNat ((x0.1.getD (w : Int).toNat (0, 0, 0)).1, (x0.1.getD (w : Int).toNat (0, 0, 0)).2.1, f.2.1)), x0.2.1, x0.2.2.1, x0.2.2.2) } w l)
    else none := rfl
  rw [eD, lim_Copy_eq (by omega) hb.toSized, w1]
  simp only [Option.bind_some, core_in_eq, boundOk_nat, Int.toNat_natCast]
  unfold limS
  rw [Int.toNat_natCast]
  by_cases h5 : f.1 = 5
  · rw [decide_eq_true h5]
    simp only [cond_true]
    cases hc : decide (f.2.1 ≥ 0) && decide (f.2.1 ≤ r.1 - 1) with
    | false => exact ⟨_, rfl, fun e => by cases e⟩
    | true =>
      simp only [Bool.and_eq_true, decide_eq_true_eq] at hc
      cases decide (f.2.1 = (w : Int)) with
      | true => exact ⟨_, rfl, fun e => by cases e⟩
      | false =>
        cases decide (f.2.2.1 ≥ -1) && decide (f.2.2.1 ≤ 1152921504606846976) with
        | false => exact ⟨_, rfl, fun e => by cases e⟩
        | true =>
          have b1 : decide (w < s.B.2.1.length) = true := decide_eq_true (by rw [hb.bl]; exact hwn)
          have b2 : boundOk f.2.1 (s.B.2.1.getD w []).length = true := boundOk_true hc.1 (by rw [hb.br w hwn]; omega)
          simp only [cond_true, Option.bind_some, Bool.not_false, Bool.not_true, cond_false, b1, b2, Bool.and_self]
          exact ⟨_, rfl, fun _ => rfl⟩
  · rw [decide_eq_false h5]
    simp only [cond_false]
    by_cases h6 : f.1 = 6
    · rw [decide_eq_true h6]
      cases decide (f.2.1 ≥ -1) && decide (f.2.1 ≤ 1152921504606846976) with
      | false => exact ⟨_, rfl, fun e => by cases e⟩
      | true =>
        have b1 : decide (w < s.B.2.2.1.length) = true := decide_eq_true (by rw [hb.ml]; exact hwn)
        simp only [cond_true, Bool.not_true, cond_false, b1]
        exact ⟨_, rfl, fun _ => rfl⟩
    · rw [decide_eq_false h6]
      cases decide (f.2.1 ≥ 0) && decide (f.2.1 ≤ 1152921504606846976) with
      | false => exact ⟨_, rfl, fun e => by cases e⟩
      | true =>
        have b1 : decide (w < s.B.1.length) = true := decide_eq_true hwn
        simp only [cond_true, Bool.not_true, cond_false, b1]
        exact ⟨_, rfl, fun _ => rfl⟩
def holdN (s : StR) (w : Nat) (h : List Int) (n : Int) : Int × StR :=
 bif decide (n > 1152921504606846976) then (8, s)
 else bif decide (n < (s.B.1.getD w ad).2.1) && decide ((s.B.1.getD w ad).1 + n < 0) then (9, s)
 else (0, { s with B := (s.B.1.set w ((s.B.1.getD w ad).1, n, (s.B.1.getD w ad).2.2), s.B.2.1, s.B.2.2.1, s.B.2.2.2), ho := s.ho.set w h })
def holdS (r : RulesT) (s : StR) (who a many : Int) : Int × StR :=
 bif !(decide (a ≥ 0) && decide (a ≤ (r.2.1.length : Int) - 1)) then (1, s)
 else bif !(decide (many ≥ 0) && decide (many ≤ 1099511627776)) then (1, s)
 else holdN s who.toNat ((s.ho.getD who.toNat []).set a.toNat many) (valueI r.2.1 s.pr ((s.ho.getD who.toNat []).set a.toNat many))
theorem Laid.set {sa : List AssetT} {pr h : List Int} (L : Laid sa pr h) {i : Nat} (hi : i < sa.length) {v : Int} (hv : 0 ≤ v ∧ v ≤ 1099511627776) : Laid sa pr (h.set i v) :=
 ⟨L.n3, L.pl, by rw [List.length_set]; exact L.hl, L.cut, L.price, fun j hj => by
  rw [getD_set]
  split
  ·exact hv
  ·exact L.hold j hj⟩
theorem Laid.setP {sa : List AssetT} {pr h : List Int} (L : Laid sa pr h) {i : Nat} (hi : i < sa.length) {v : Int} (hv : 0 ≤ v ∧ v ≤ 1048576) : Laid sa (pr.set i v) h :=
 ⟨L.n3, by rw [List.length_set]; exact L.pl, L.hl, L.cut, fun j hj => by
  rw [getD_set]
  split
  ·exact hv
  ·exact L.price j hj, L.hold⟩
theorem clone_rows {k : Nat} {l : Mtx'} (hl : l.length ≤ 1000) : slices_Clone_Rowint64_v2 k l = some l := by
 unfold slices_Clone_Rowint64_v2
 rw [roomB_true (by omega) (by omega)]
 rfl
theorem holds_eq {k : Nat} (hk : 1000 ≤ k) {r : RulesT} (hr : RulesOK r) {s : StR} (h : Inv r s) {who : Int} (hw : 0 ≤ who ∧ who < r.1) (l : List OutT) (a many : Int) :
    ∃ d, core_desk_holds k (dk r s who l) a many = some ((holdS r s who a many).1, d) ∧ ((holdS r s who a many).1 = 0 → d = dk r (holdS r s who a many).2 who l) := by
  have hp := hr.pa
  have h3 := hr.n3
  have hn := h.n
  have hn6 := h.bk.n6
  have hol := h.hol
  have w1 : w64 ((r.2.1.length : Int) - 1) = (r.2.1.length : Int) - 1 := w64_id (by omega) (by omega)
  obtain ⟨w, rfl⟩ := Int.eq_ofNat_of_zero_le hw.1
  have hwn : w < s.B.1.length := by omega
  have eD : core_desk_holds k (dk r s w l) a many = ((core_in k a 0 (w64 ((r.2.1.length : Int) - 1))).bind fun x0 => some x0).bind fun x0 =>
    bif !x0 then some (1, dk r s w l)
    else (core_in k many 0 1099511627776).bind fun x1 =>
    bif !x1 then some (1, dk r s w l)
    else (slices_Clone_Rowint64_v2 k s.ho).bind fun x2 =>
    bif boundOk (w : Int) x2.length then ((pool_Set k (x2.getD (w : Int).toNat []) a many).bind fun x3 =>
      bif boundOk (w : Int) x2.length then (
       bif boundOk (w : Int) (x2.set (w : Int).toNat x3).length then ((pool_Value k r.2.1 s.pr ((x2.set (w : Int).toNat x3).getD (w : Int).toNat [])).bind fun x4 =>
        bif boundOk (w : Int) s.B.1.length then (bif !x4.2 then some (8, dk r s w l)
         else bif decide (x4.1 > 1152921504606846976) then some (8, dk r s w l)
         else bif decide (x4.1 < (s.B.1.getD (w : Int).toNat (0, 0, 0)).2.1) then (bif decide ((w64 ((s.B.1.getD (w : Int).toNat (0, 0, 0)).1 + x4.1)) < 0) then some (9, dk r s w l)
          else (lim_Copy k s.B.1 s.B.2.1 s.B.2.2.1 s.B.2.2.2).bind fun x5 =>
          bif boundOk (w : Int) x5.1.length then
           some (0, dk r { s with B := ((x5.1.set (w : Int).toNat ((x5.1.getD (w : Int).toNat (0, 0, 0)).1, x4.1, (x5.1.getD (w : Int).toNat (0, 0, 0)).2.2)), x5.2.1, x5.2.2.1, x5.2.2.2), ho := x2.set (w : Int).toNat x3 } w l)
          else none)
         else (lim_Copy k s.B.1 s.B.2.1 s.B.2.2.1 s.B.2.2.2).bind fun x6 =>
         bif boundOk (w : Int) x6.1.length then
          some (0, dk r { s with B := ((x6.1.set (w : Int).toNat ((x6.1.getD (w : Int).toNat (0, 0, 0)).1, x4.1, (x6.1.getD (w : Int).toNat (0, 0, 0)).2.2)), x6.2.1, x6.2.2.1, x6.2.2.2), ho := x2.set (w : Int).toNat x3 } w l)
         else none)
        else none)
       else none)
      else none)
    else none := rfl
  rw [eD, w1, core_in_eq, core_in_eq, lim_Copy_eq (by omega) h.bk.toSized, clone_rows (by omega)]
  simp only [Option.bind_some, boundOk_nat, Int.toNat_natCast]
  unfold holdS
  simp only [Int.toNat_natCast]
  cases hc : decide (a ≥ 0) && decide (a ≤ (r.2.1.length : Int) - 1) with
  | false => exact ⟨_, rfl, fun e => by cases e⟩
  | true =>
  simp only [Bool.and_eq_true, decide_eq_true_eq] at hc
  cases hm : decide (many ≥ 0) && decide (many ≤ 1099511627776) with
  | false => exact ⟨_, rfl, fun e => by cases e⟩
  | true =>
  simp only [Bool.and_eq_true, decide_eq_true_eq] at hm
  obtain ⟨i, rfl⟩ := Int.eq_ofNat_of_zero_le hc.1
  have hi : i < r.2.1.length := by omega
  have L := h.laid w hwn
  have L2 := L.set hi (v := many) ⟨by omega, by omega⟩
  have b1 : decide (w < s.ho.length) = true := decide_eq_true (by omega)
  have b2 : decide (w < s.B.1.length) = true := decide_eq_true hwn
  have eset : pool_Set k (s.ho.getD w []) (i : Int) many = some ((s.ho.getD w []).set i many) := by
    have := pool_Set_eq (k := k) (l := s.ho.getD w []) (by rw [L.hl]; omega) (i := (i : Int)) (by omega) (by rw [L.hl]; omega) many
    rw [Int.toNat_natCast] at this
    exact this
  have eget : (s.ho.set w ((s.ho.getD w []).set i many)).getD w [] = (s.ho.getD w []).set i many := by
    rw [getD_set, if_pos ⟨rfl, by omega⟩]
  have hv := pool_Value_eq (k := k) L2 (by omega)
  have hb := h.bk.nums.bal w hwn
  have hv0 := valueI_le L2
  simp only [Bool.not_true, cond_false, b1, cond_true, eset, Option.bind_some, List.length_set, eget, hv, b2, Int.toNat_natCast]
  clear hv L2 eget eD
  generalize valueI r.2.1 s.pr ((s.ho.getD w []).set i many) = n at hv0 ⊢
  unfold holdN
  cases h8' : decide (n > 1152921504606846976) with
  | true => exact ⟨_, rfl, fun e => by cases e⟩
  | false =>
    have h8 : ¬ n > 1152921504606846976 := of_decide_eq_false h8'
    have w2 : w64 ((s.B.1.getD w (0, 0, 0)).1 + n) = (s.B.1.getD w (0, 0, 0)).1 + n := w64_id (by have := hb.1; simp only [ad] at this; omega) (by have := hb.2; simp only [ad] at this; omega)
    simp only [w2, cond_false]
    cases decide (n < (s.B.1.getD w (0, 0, 0)).2.1) with
    | false => exact ⟨_, rfl, fun _ => rfl⟩
    | true =>
      cases decide ((s.B.1.getD w (0, 0, 0)).1 + n < 0) with
      | true => exact ⟨_, rfl, fun e => by cases e⟩
      | false => exact ⟨_, rfl, fun _ => rfl⟩
def movedS (a : Acc) (n : Int) : Acc × Int := bif acctB (a.1 + n, a.2.1, a.2.2) then ((a.1 + n, a.2.1, a.2.2), 0) else (a, 8)
theorem moved_eq {k : Nat} {a : Acc} (ha : -4611686018427387904 < a.1 ∧ a.1 < 4611686018427387904) {n : Int} (hn : -1099511627776 ≤ n ∧ n ≤ 1099511627776) : acct_moved k a n = some (movedS a n) := by
 have hadd : cash_Add k a.1 n = some (a.1 + n, true) := by
  unfold cash_Add
  have w1 : n > 0 → w64 (9223372036854775807 - n) = 9223372036854775807 - n := fun h => w64_id (by omega) (by omega)
  have w2 : n < 0 → w64 (-9223372036854775808 - n) = -9223372036854775808 - n := fun h => w64_id (by omega) (by omega)
  have w3 : w64 (a.1 + n) = a.1 + n := w64_id (by omega) (by omega)
  rw [w3]
  by_cases h1 : n > 0
  ·rw [decide_eq_true h1, w1 h1, decide_eq_false (show ¬ a.1 > 9223372036854775807 - n by omega), decide_eq_false (show ¬ n < 0 by omega)]; rfl
  ·rw [decide_eq_false h1]
   by_cases h2 : n < 0
   ·rw [decide_eq_true h2, w2 h2, decide_eq_false (show ¬ a.1 < -9223372036854775808 - n by omega)]; rfl
   ·rw [decide_eq_false h2]; rfl
 unfold acct_moved movedS
 rw [hadd]
 simp only [Option.bind_some, Bool.not_true, cond_false, acct_Is_eq]
 cases acctB (a.1 + n, a.2.1, a.2.2) <;> rfl
end Go.Ab.Gi
