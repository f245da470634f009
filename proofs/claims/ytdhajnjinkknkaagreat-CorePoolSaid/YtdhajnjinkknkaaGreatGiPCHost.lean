/- part 35 -/
import Derived.Test.YtdhajnjinkknkaaGreatGiPCDesk
set_option linter.unusedVariables false
set_option linter.unusedSimpArgs false
namespace Go.Ab.Gi
open Go.Ab
abbrev DeskT2 := Int × List AssetT × Int × Int × Int × Int × List Acc × Mtx' × List Int × Mtx' × List Int × Mtx' × List PayT × List Int × Int × Bool × Int
def dk2 (r : RulesT) (s : StR) (who : Int) : DeskT2 := (r.1, r.2.1, r.2.2.1, r.2.2.2.1, r.2.2.2.2, s.t, s.B.1, s.B.2.1, s.B.2.2.1, s.B.2.2.2, s.pr, s.ho, s.m, s.ids, s.to, s.ov, who)
def setA (s : StR) (i : Nat) (a : Acc) (to : Int) : StR := { s with B := (s.B.1.set i a, s.B.2.1, s.B.2.2.1, s.B.2.2.2), to := to }
def outN (s : StR) (i : Nat) (n : Int) : Int × StR :=
 bif decide ((s.B.1.getD i ad).1 + (s.B.1.getD i ad).2.1 - (s.B.1.getD i ad).2.2 < n) then (9, s)
 else bif decide (s.to - n < 0) then (9, s)
 else bif !decide ((movedS (s.B.1.getD i ad) (-n)).2 = 0) then ((movedS (s.B.1.getD i ad) (-n)).2, s)
 else bif decide (s.to - n > 1152921504606846976) then (8, s)
 else (0, setA s i (movedS (s.B.1.getD i ad) (-n)).1 (s.to - n))
def inN (s : StR) (i : Nat) (n : Int) : Int × StR :=
 bif !decide ((movedS (s.B.1.getD i ad) n).2 = 0) then ((movedS (s.B.1.getD i ad) n).2, s)
 else bif decide (s.to + n > 1152921504606846976) then (8, s)
 else (0, setA s i (movedS (s.B.1.getD i ad) n).1 (s.to + n))
def moveS (r : RulesT) (s : StR) (kd to n : Int) : Int × StR :=
 bif !(decide (to ≥ 0) && decide (to ≤ r.1 - 1)) then (1, s)
 else bif !(decide (n ≥ 1) && decide (n ≤ 1099511627776)) then (1, s)
 else bif decide (kd = 11) then outN s to.toNat n else inN s to.toNat n
theorem moves_eq {k : Nat} (hk : 1000 ≤ k) {r : RulesT} (hr : RulesOK r) {s : StR} (h : Inv r s) (who kd to n : Int) :
    ∃ d, core_desk_moves_v2 k (dk2 r s who) kd to n = some ((moveS r s kd to n).1, d) ∧ ((moveS r s kd to n).1 = 0 → d = dk r (moveS r s kd to n).2 who []) := by
  have hp := hr.pa
  have hn := h.n
  have ht := h.tot
  have w1 : w64 (r.1 - 1) = r.1 - 1 := w64_id (by omega) (by omega)
  have eD : core_desk_moves_v2 k (dk2 r s who) kd to n = (core_in k to 0 (w64 (r.1 - 1))).bind fun x0 =>
    bif !x0 then some (1, dk r s who [])
    else (core_in k n 1 1099511627776).bind fun x1 =>
    bif !x1 then some (1, dk r s who [])
    else bif boundOk to s.B.1.length then ((acct_In k (s.B.1.getD to.toNat (0, 0, 0)) n).bind fun x2 =>
      bif decide (kd = 11) then ((acct_Out k (s.B.1.getD to.toNat (0, 0, 0)) n 3).bind fun x3 =>
       (acct_Room k (s.B.1.getD to.toNat (0, 0, 0)) 3).bind fun x4 =>
       bif decide (x4 < n) then some (9, dk r s who [])
       else bif decide ((w64 (s.to - n)) < 0) then some (9, dk r s who [])
       else bif !(decide (x3.2 = 0)) then some (x3.2, dk r s who [])
       else bif decide ((w64 (s.to - n)) > 1152921504606846976) then some (8, dk r s who [])
       else (lim_Copy k s.B.1 s.B.2.1 s.B.2.2.1 s.B.2.2.2).bind fun x5 =>
       bif boundOk to x5.1.length then some (0, dk r { s with B := (x5.1.set to.toNat x3.1, x5.2.1, x5.2.2.1, x5.2.2.2), to := w64 (s.to - n) } who [])
       else none)
      else bif !(decide (x2.2 = 0)) then some (x2.2, dk r s who [])
      else bif decide ((w64 (s.to + n)) > 1152921504606846976) then some (8, dk r s who [])
      else (lim_Copy k s.B.1 s.B.2.1 s.B.2.2.1 s.B.2.2.2).bind fun x6 =>
      bif boundOk to x6.1.length then some (0, dk r { s with B := (x6.1.set to.toNat x2.1, x6.2.1, x6.2.2.1, x6.2.2.2), to := w64 (s.to + n) } who [])
      else none)
    else none := rfl
  rw [eD, w1, core_in_eq, core_in_eq, lim_Copy_eq (by omega) h.bk.toSized]
  simp only [Option.bind_some]
  unfold moveS
  cases hc : decide (to ≥ 0) && decide (to ≤ r.1 - 1) with
  | false => exact ⟨_, rfl, fun e => by cases e⟩
  | true =>
  simp only [Bool.and_eq_true, decide_eq_true_eq] at hc
  cases hm : decide (n ≥ 1) && decide (n ≤ 1099511627776) with
  | false => exact ⟨_, rfl, fun e => by cases e⟩
  | true =>
  simp only [Bool.and_eq_true, decide_eq_true_eq] at hm
  obtain ⟨i, rfl⟩ := Int.eq_ofNat_of_zero_le hc.1
  have hi : i < s.B.1.length := by omega
  have hb := h.bk.nums.bal i hi
  have hres := h.bk.nums.res i hi
  have hcr := h.most i hi
  have hcr0 : 0 ≤ (s.B.1.getD i ad).2.1 := by rw [h.cred i hi]; exact valueI_le (h.laid i hi)
  have b0 : boundOk (i : Int) s.B.1.length = true := by rw [boundOk_nat, decide_eq_true hi]
  have eIn : acct_In k (s.B.1.getD i (0, 0, 0)) n = some (movedS (s.B.1.getD i ad) n) := by
    unfold acct_In
    rw [moved_eq hb (by omega)]
    rfl
  have eOut : acct_Out k (s.B.1.getD i (0, 0, 0)) n 3 = some (movedS (s.B.1.getD i ad) (-n)) := by
    unfold acct_Out
    rw [show w64 (0 - n) = -n by rw [w64_id (by omega) (by omega)]; omega, moved_eq hb (by omega)]
    simp only [Option.bind_some]
    have d1 : decide ((3 : Int) = 1) = false := rfl
    have d2 : decide ((3 : Int) = 2) = false := rfl
    rw [d1, d2]
    cases decide ((movedS (s.B.1.getD i ad) (-n)).2 = 0) <;> rfl
  have eRoom : acct_Room k (s.B.1.getD i (0, 0, 0)) 3 = some ((s.B.1.getD i ad).1 + (s.B.1.getD i ad).2.1 - (s.B.1.getD i ad).2.2) := by
    unfold acct_Room
    have d1 : decide ((3 : Int) = 3) = true := rfl
    rw [d1, cond_true]
    have q1 : w64 ((s.B.1.getD i (0, 0, 0)).1 + (s.B.1.getD i (0, 0, 0)).2.1) = (s.B.1.getD i ad).1 + (s.B.1.getD i ad).2.1 := w64_id (by simp only [ad] at *; omega) (by simp only [ad] at *; omega)
    rw [q1]
    exact congrArg some (w64_id (by simp only [ad] at *; omega) (by simp only [ad] at *; omega))
  have q2 : w64 (s.to - n) = s.to - n := w64_id (by omega) (by omega)
  have q3 : w64 (s.to + n) = s.to + n := w64_id (by omega) (by omega)
  simp only [Bool.not_true, cond_false, b0, cond_true, Int.toNat_natCast, eIn, eOut, eRoom, Option.bind_some, q2, q3]
  clear eIn eOut eRoom eD
  cases decide (kd = 11) with
  | true =>
    simp only [cond_true]
    unfold outN
    cases decide ((s.B.1.getD i ad).1 + (s.B.1.getD i ad).2.1 - (s.B.1.getD i ad).2.2 < n) with
    | true => exact ⟨_, rfl, fun e => by cases e⟩
    | false =>
    cases decide (s.to - n < 0) with
    | true => exact ⟨_, rfl, fun e => by cases e⟩
    | false =>
    cases hz : decide ((movedS (s.B.1.getD i ad) (-n)).2 = 0) with
    | false => exact ⟨_, rfl, fun e => absurd e (of_decide_eq_false hz)⟩
    | true =>
    cases decide (s.to - n > 1152921504606846976) with
    | true => exact ⟨_, rfl, fun e => by cases e⟩
    | false => exact ⟨_, rfl, fun _ => rfl⟩
  | false =>
    simp only [cond_false]
    unfold inN
    cases hz : decide ((movedS (s.B.1.getD i ad) n).2 = 0) with
    | false => exact ⟨_, rfl, fun e => absurd e (of_decide_eq_false hz)⟩
    | true =>
    cases decide (s.to + n > 1152921504606846976) with
    | true => exact ⟨_, rfl, fun e => by cases e⟩
    | false => exact ⟨_, rfl, fun _ => rfl⟩
def credAt (sa : List AssetT) (pr : List Int) (ho : Mtx') (j : Nat) : Int := valueI sa pr (ho.getD j [])
def credL (sa : List AssetT) (pr : List Int) (ho : Mtx') (a : List Acc) : List Acc := (List.range a.length).map fun j => ((a.getD j ad).1, credAt sa pr ho j, (a.getD j ad).2.2)
def priceN (r : RulesT) (s : StR) (pr : List Int) : Int × StR :=
 bif allF (fun j => !decide (credAt r.2.1 pr s.ho j > 1152921504606846976)) s.B.1.length 0 then (0, { s with B := (credL r.2.1 pr s.ho s.B.1, s.B.2.1, s.B.2.2.1, s.B.2.2.2), pr := pr }) else (8, s)
def priceS (r : RulesT) (s : StR) (a p : Int) : Int × StR :=
 bif !(decide (a ≥ 0) && decide (a ≤ (r.2.1.length : Int) - 1)) then (1, s)
 else bif !(decide (p ≥ 0) && decide (p ≤ 1048576)) then (1, s)
 else priceN r s (s.pr.set a.toNat p)
theorem credL_length (sa : List AssetT) (pr : List Int) (ho : Mtx') (a : List Acc) : (credL sa pr ho a).length = a.length := by simp [credL]
theorem credL_get (sa : List AssetT) (pr : List Int) (ho : Mtx') (a : List Acc) {j : Nat} (hj : j < a.length) : (credL sa pr ho a).getD j ad = ((a.getD j ad).1, credAt sa pr ho j, (a.getD j ad).2.2) := by
 unfold credL
 rw [List.getD_eq_getElem?_getD, List.getElem?_map, List.getElem?_range hj]
 rfl
theorem price_loop {k : Nat} (hk : 1000 ≤ k) {r : RulesT} {s : StR} (who : Int) {pr : List Int} (hL : ∀ i, i < s.B.1.length → Laid r.2.1 pr (s.ho.getD i [])) (hol : s.ho.length = s.B.1.length) (hn6 : s.B.1.length ≤ 6) :
  (allF (fun j => !decide (credAt r.2.1 pr s.ho j > 1152921504606846976)) s.B.1.length 0 = true ∧ core_desk_price_v2_L0 k k s.ho s.ho.length 0 (dk2 r s who) pr s.B.1 s.B.2.1 s.B.2.2.1 s.B.2.2.2 = some (.inl (dk2 r s who, pr, credL r.2.1 pr s.ho s.B.1, s.B.2.1, s.B.2.2.1, s.B.2.2.2))) ∨
  (allF (fun j => !decide (credAt r.2.1 pr s.ho j > 1152921504606846976)) s.B.1.length 0 = false ∧ core_desk_price_v2_L0 k k s.ho s.ho.length 0 (dk2 r s who) pr s.B.1 s.B.2.1 s.B.2.2.1 s.B.2.2.2 = some (.inr (8, dk2 r s who))) := by
 rw [hol]
 have := scanC (L := fun n i (a : List Acc) => core_desk_price_v2_L0 k n s.ho s.B.1.length i (dk2 r s who) pr a s.B.2.1 s.B.2.2.1 s.B.2.2.2) (N := s.B.1.length) (fun j => !decide (credAt r.2.1 pr s.ho j > 1152921504606846976))
  (fun a => .inl (dk2 r s who, pr, a, s.B.2.1, s.B.2.2.1, s.B.2.2.2)) (.inr (8, dk2 r s who))
  (fun i a => a.length = s.B.1.length ∧ ∀ j, j < s.B.1.length → a.getD j ad = if j < i then ((s.B.1.getD j ad).1, credAt r.2.1 pr s.ho j, (s.B.1.getD j ad).2.2) else s.B.1.getD j ad) (fun n a _ => by
   show core_desk_price_v2_L0b k _ s.ho s.B.1.length s.B.1.length (dk2 r s who) pr a s.B.2.1 s.B.2.2.1 s.B.2.2.2 = _
   unfold core_desk_price_v2_L0b
   simp only [dec_lt, decide_eq_false (Nat.lt_irrefl _), cond_false]) (fun n i a hi ha => by
   have hv := pool_Value_eq (k := k) (hL i hi) (by omega)
   have hstep : core_desk_price_v2_L0 k (n + 1) s.ho s.B.1.length i (dk2 r s who) pr a s.B.2.1 s.B.2.2.1 s.B.2.2.2 = bif decide (credAt r.2.1 pr s.ho i > 1152921504606846976) then some (.inr (8, dk2 r s who)) else core_desk_price_v2_L0 k n s.ho s.B.1.length ((i + 1 : Nat) : Int) (dk2 r s who) pr (a.set i ((a.getD i ad).1, credAt r.2.1 pr s.ho i, (a.getD i ad).2.2)) s.B.2.1 s.B.2.2.1 s.B.2.2.2 := by
    show core_desk_price_v2_L0b k _ s.ho s.B.1.length i (dk2 r s who) pr a s.B.2.1 s.B.2.2.1 s.B.2.2.2 = _
    unfold core_desk_price_v2_L0b
    have hv' : pool_Value k (dk2 r s who).2.1 pr (s.ho.getD i []) = some (credAt r.2.1 pr s.ho i, true) := hv
    simp only [dec_lt, boundOk_nat, Int.toNat_natCast, decide_eq_true hi, decide_eq_true (show i < s.ho.length by omega), decide_eq_true (show i < a.length by rw [ha.1]; exact hi), cond_true, hv', Option.bind_some, Bool.not_true, cond_false, w64_succ hi (show s.B.1.length < 9223372036854775808 by omega)]
    rfl
   refine ⟨fun ho => ?_, fun ho => ?_⟩
   ·have h1 : decide (credAt r.2.1 pr s.ho i > 1152921504606846976) = false := by simpa using ho
    refine ⟨_, by rw [hstep, h1]; rfl, by rw [List.length_set]; exact ha.1, fun j hj => ?_⟩
    rw [getD_set]
    by_cases e : i = j
    ·subst e
     rw [if_pos ⟨rfl, by rw [ha.1]; exact hi⟩, if_pos (by omega), ha.2 i hi, if_neg (Nat.lt_irrefl _)]
    ·rw [if_neg (by omega), ha.2 j hj]
     by_cases h : j < i
     ·rw [if_pos h, if_pos (by omega)]
     ·rw [if_neg h, if_neg (by omega)]
   ·have h1 : decide (credAt r.2.1 pr s.ho i > 1152921504606846976) = true := by simpa using ho
    rw [hstep, h1]; rfl) s.B.1.length 0 k s.B.1 (by omega) (by omega) ⟨rfl, fun j _ => by rw [if_neg (Nat.not_lt_zero _)]⟩
 rcases this with ⟨h1, a, h2, h3, h4⟩ | ⟨h1, h2⟩
 ·refine .inl ⟨h1, ?_⟩
  have e : a = credL r.2.1 pr s.ho s.B.1 := ext_getD ad (by rw [h3, credL_length]) fun j hj => by
   rw [h3] at hj
   rw [h4 j hj, if_pos hj, credL_get _ _ _ _ hj]
  rw [← e]
  exact h2
 ·exact .inr ⟨h1, h2⟩
theorem price_eq {k : Nat} (hk : 1000 ≤ k) {r : RulesT} (hr : RulesOK r) {s : StR} (h : Inv r s) (who a p : Int) :
  ∃ d, core_desk_price_v2 k (dk2 r s who) a p = some ((priceS r s a p).1, d) ∧ ((priceS r s a p).1 = 0 → d = dk r (priceS r s a p).2 who []) := by
 have h3 := hr.n3
 have hn6 := h.bk.n6
 have hn1 := h.bk.n1
 have w1 : w64 ((r.2.1.length : Int) - 1) = (r.2.1.length : Int) - 1 := w64_id (by omega) (by omega)
 have eD : core_desk_price_v2 k (dk2 r s who) a p = ((core_in k a 0 (w64 ((r.2.1.length : Int) - 1))).bind fun x0 => some x0).bind fun x0 =>
  bif !x0 then some (1, dk r s who [])
  else (core_in k p 0 1048576).bind fun x1 =>
  bif !x1 then some (1, dk r s who [])
  else (pool_Set k s.pr a p).bind fun x2 =>
  (lim_Copy k s.B.1 s.B.2.1 s.B.2.2.1 s.B.2.2.2).bind fun x3 =>
  (core_desk_price_v2_L0 k k s.ho (s.ho.length : Int) 0 (dk2 r s who) x2 x3.1 x3.2.1 x3.2.2.1 x3.2.2.2).bind fun z =>
  match z with
  | .inl z1 => some (0, (j0_6 z1.1 (f2_4 z1 (z1.2.1, (f11_6 z1.1 [])))))
  | .inr z2 => some (f0_18 z2 []) := rfl
 rw [eD, w1, core_in_eq, core_in_eq, lim_Copy_eq (by omega) h.bk.toSized]
 simp only [Option.bind_some]
 unfold priceS
 cases hc : decide (a ≥ 0) && decide (a ≤ (r.2.1.length : Int) - 1) with
 | false => exact ⟨_, rfl, fun e => by cases e⟩
 | true =>
 simp only [Bool.and_eq_true, decide_eq_true_eq] at hc
 cases hm : decide (p ≥ 0) && decide (p ≤ 1048576) with
 | false => exact ⟨_, rfl, fun e => by cases e⟩
 | true =>
 simp only [Bool.and_eq_true, decide_eq_true_eq] at hm
 obtain ⟨i, rfl⟩ := Int.eq_ofNat_of_zero_le hc.1
 have hi : i < r.2.1.length := by omega
 have L0 := h.laid 0 (by omega)
 have eset : pool_Set k s.pr (i : Int) p = some (s.pr.set i p) := by
  have := pool_Set_eq (k := k) (l := s.pr) (by rw [L0.pl]; omega) (i := (i : Int)) (by omega) (by rw [L0.pl]; omega) p
  rw [Int.toNat_natCast] at this
  exact this
 simp only [Bool.not_true, cond_false, eset, Option.bind_some, Int.toNat_natCast]
 unfold priceN
 rcases price_loop (r := r) (s := s) hk who (pr := s.pr.set i p) (fun j hj => (h.laid j hj).setP hi ⟨by omega, by omega⟩) h.hol hn6 with ⟨g1, g2⟩ | ⟨g1, g2⟩
 ·rw [g2, g1]
  exact ⟨_, rfl, fun _ => rfl⟩
 ·rw [g2, g1]
  exact ⟨_, rfl, fun e => by cases e⟩
end Go.Ab.Gi
