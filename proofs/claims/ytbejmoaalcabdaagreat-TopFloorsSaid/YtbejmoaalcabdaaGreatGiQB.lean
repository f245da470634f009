/- Plain proofs, part 1. -/
import Derived.Test.YtbejmoaalcabdaaGreatGiQA
set_option linter.unusedVariables false
set_option linter.unusedSimpArgs false
set_option maxRecDepth 100000
namespace Go.Ab.Gi
open Go.Ab
abbrev jJ := List (List Int)
abbrev qV := Int × List zA7 × Int × Int × Int
abbrev zAk := Int × Int × Int × Int × Int × Int × Int
abbrev yPm := Int × List zA7 × Int × Int × Int × Int × List qK × jJ × List Int × jJ × List Int × jJ × List zB × List Int × Int × Bool × Int × List vN
structure qO where
 t : Int
 B : BT
 pr : List Int
 ho : jJ
 m : List zB
 ids : List Int
 to : Int
 ov : Bool
abbrev yBk := Int × List qK × jJ × List Int × jJ × List Int × jJ × List zB × List Int × Int × Bool
def qO.st (s : qO) : yBk := (s.t, s.B.1, s.B.2.1, s.B.2.2.1, s.B.2.2.2, s.pr, s.ho, s.m, s.ids, s.to, s.ov)
def dk (r : qV) (s : qO) (who : Int) (l : List vN) : yPm := (r.1, r.2.1, r.2.2.1, r.2.2.2.1, r.2.2.2.2, s.t, s.B.1, s.B.2.1, s.B.2.2.1, s.B.2.2.2, s.pr, s.ho, s.m, s.ids, s.to, s.ov, who, l)
structure zBv (r : qV) : Prop where
 pa : 1 ≤ r.1 ∧ r.1 ≤ 6
 n3 : r.2.1.length ≤ 3
 price : ∀ i, i < r.2.1.length → 0 ≤ (r.2.1.getD i zI1).1 ∧ (r.2.1.getD i zI1).1 ≤ 1048576
 cut : ∀ i, i < r.2.1.length → 0 ≤ (r.2.1.getD i zI1).2 ∧ (r.2.1.getD i zI1).2 ≤ 10000
 cu : 0 ≤ r.2.2.1 ∧ r.2.2.1 ≤ r.2.2.2.1
 cl : 1 ≤ r.2.2.2.1 ∧ r.2.2.2.1 ≤ 1048576
 pe : 1 ≤ r.2.2.2.2 ∧ r.2.2.2.2 ≤ 1048576
def zCv (m : List zB) : Prop := List.Pairwise (fun p q => leP p q = true) m
structure zAd (n : Nat) (m : List zB) (ids : List Int) : Prop where
 dist : qS m
 len : m.length ≤ 40
 sort : zCv m
 may : ∀ p ∈ m, yN n p
 time : ∀ p ∈ m, 0 ≤ p.2.2.2.2.2.1 ∧ p.2.2.2.2.2.1 ≤ p.2.2.2.2.2.2 ∧ p.2.2.2.2.2.2 ≤ 1048576
 were : ∀ p ∈ m, p.1 ∈ ids
 asc : Asc ids
 pos : ∀ x ∈ ids, 1 ≤ x
 idl : ids.length ≤ 200
structure yP (r : qV) (s : qO) : Prop where
 tk : 0 ≤ s.t ∧ s.t ≤ r.2.2.2.1
 bk : yI s.B
 n : (s.B.1.length : Int) = r.1
 hol : s.ho.length = s.B.1.length
 laid : ∀ i, i < s.B.1.length → zBr r.2.1 s.pr (s.ho.getD i [])
 cred : ∀ i, i < s.B.1.length → (s.B.1.getD i ad).2.1 = zBw r.2.1 s.pr (s.ho.getD i [])
 most : ∀ i, i < s.B.1.length → (s.B.1.getD i ad).2.1 ≤ 1152921504606846976
 waits : zAd s.B.1.length s.m s.ids
 sum : qL (fun i => (s.B.1.getD i ad).1) s.B.1.length = s.to
 tot : 0 ≤ s.to ∧ s.to ≤ 1152921504606846976
 over : s.ov = decide (s.t = r.2.2.2.1)
 none : s.ov = true → s.m = []
theorem zEm (k : Nat) (a b c : Int) : yR k a b c = some (decide (a ≥ b) && decide (a ≤ c)) := by
 unfold yR
 cases decide (a ≥ b) <;> rfl
theorem zCc {α : Type} (c : Bool) (a b : α) : (bif c then some a else some b) = some (bif c then a else b) := by cases c <;> rfl
theorem vF8 (c a : Bool) : (bif c then a else false) = (c && a) := by cases c <;> rfl
theorem vEs {α : Type} (c : Bool) (a : α) : (bif c then a else a) = a := by cases c <;> rfl
def zHo (pa t : Int) (p : zB) : Bool :=
 decide (p.2.1 ≥ 0) && decide (p.2.1 < pa) && (decide (p.2.2.1 ≥ 0) && decide (p.2.2.1 < pa) && (decide (p.1 ≥ 1) && (decide (p.2.2.2.1 ≥ 1) && (decide (p.2.2.2.1 ≤ 1099511627776) && (decide (p.2.2.2.2.1 ≥ 1) && (!decide (p.2.1 = p.2.2.1) && (decide (p.2.2.2.2.1 ≤ 3) && (decide (p.2.2.2.2.2.1 ≥ 0) && (decide (p.2.2.2.2.2.1 ≤ p.2.2.2.2.2.2) && (decide (p.2.2.2.2.2.2 ≥ t) && decide (p.2.2.2.2.2.2 ≤ 1048576)))))))))))
theorem ySh (k : Nat) (r : qV) (w : Int) : zNw k r w = some (decide (w ≥ 0) && decide (w < r.1)) := by
 unfold zNw
 cases decide (w ≥ 0) <;> rfl
theorem yPu (k : Nat) (r : qV) (t : Int) (p : zB) : zYg k r t p = some (zHo r.1 t p) := by
 unfold zYg zHo
 simp only [ySh, vId, vEs, zCc, vF8]
def zG6 (cu cl t c : Int) : Int := bif decide (t ≥ cl) then 7 else bif decide (c = 3) && decide (t ≥ cu) then 7 else 0
theorem qVo (k : Nat) (r : qV) (t c : Int) : zHt k r t c = some (zG6 r.2.2.1 r.2.2.2.1 t c) := by
 unfold zHt zG6
 cases decide (t ≥ r.2.2.2.1) <;> cases decide (c = 3) <;> cases decide (t ≥ r.2.2.1) <;> rfl
def zIa (r : qV) (t : Int) (p : zB) : Int := bif !zHo r.1 t p then 1 else zG6 r.2.2.1 r.2.2.2.1 t p.2.2.2.2.1
theorem vEb (k : Nat) (r : qV) (t : Int) (p : zB) : zI4 k r t p = some (zIa r t p) := by
 unfold zI4 zIa
 rw [yPu]
 simp only [vId, qVo]
 cases zHo r.1 t p <;> rfl
def zBz (who : Int) (f : zAk) : zB := (f.2.1, who, f.2.2)
def zFm (r : qV) (s : qO) (who : Int) (f : zAk) : Int × List zB × List Int :=
 bif !(decide (f.2.2.1 ≥ 0) && decide (f.2.2.1 ≤ r.1 - 1)) then (1, s.m, s.ids)
 else bif !(decide (f.2.2.2.2.1 ≥ 1) && decide (f.2.2.2.2.1 ≤ 3)) then (1, s.m, s.ids)
 else bif !decide (zIa r s.t (zBz who f) = 0) then (zIa r s.t (zBz who f), s.m, s.ids)
 else bif decide (f.2.1 ∈ s.ids) then (6, s.m, s.ids)
 else bif decide (200 ≤ s.ids.length) then (3, s.m, s.ids)
 else bif (wK s.m f.2.1).isSome then (6, s.m, s.ids)
 else bif decide (40 ≤ s.m.length) then (3, s.m, s.ids)
 else (0, zFn s.m (zBz who f), zHz s.ids f.2.1)
theorem yQx {k : Nat} (hk : 1000 ≤ k) {r : qV} (hr : zBv r) {s : qO} (h : zAd s.B.1.length s.m s.ids) (who : Int) (l : List vN) (f : zAk) :
  ∃ d, zXv k (dk r s who l) f.2 = some ((zFm r s who f).1, d) ∧ ((zFm r s who f).1 = 0 → d = dk r { s with m := (zFm r s who f).2.1, ids := (zFm r s who f).2.2 } who l) := by
 have hp := hr.pa
 have hi := h.idl
 have hm := h.len
 have w1 : zC (r.1 - 1) = r.1 - 1 := yH (by omega) (by omega)
 have eD : zXv k (dk r s who l) f.2 = (yR k f.2.2.1 0 (zC (r.1 - 1))).bind fun x0 =>
  bif !x0 then some (1, dk r s who l)
  else (yR k f.2.2.2.2.1 1 3).bind fun x1 =>
  bif !x1 then some (1, dk r s who l)
  else (zI4 k r s.t (zBz who f)).bind fun x2 =>
  bif !(decide (x2 = 0)) then some (x2, dk r s who l)
  else (zLk k s.ids f.2.1).bind fun x3 =>
  bif !(decide (x3.2 = 0)) then some (x3.2, dk r s who l)
  else (zF9 k s.m (zBz who f)).bind fun x4 =>
  bif !(decide (x4.2 = 0)) then some (x4.2, dk r s who l)
  else some (0, dk r { s with m := x4.1, ids := x3.1 } who l) := rfl
 rw [eD, zEm, zEm, vEb, w1, vA2 (by omega) (by omega) h.asc, qI3 (by omega) (by omega) (by unfold yT; omega)]
 simp only [vId]
 unfold zFm
 cases decide (f.2.2.1 ≥ 0) && decide (f.2.2.1 ≤ r.1 - 1) with
 | false => exact ⟨_, rfl, fun e => by cases e⟩
 | true =>
 cases decide (f.2.2.2.2.1 ≥ 1) && decide (f.2.2.2.2.1 ≤ 3) with
 | false => exact ⟨_, rfl, fun e => by cases e⟩
 | true =>
 simp only [vIi, vIf]
 by_cases hc : zIa r s.t (zBz who f) = 0
 ·rw [vH8 hc]
  simp only [vIi, vIf]
  by_cases h1 : f.2.1 ∈ s.ids
  ·rw [vH8 h1]; exact ⟨_, rfl, fun e => by cases e⟩
  ·rw [vH9 h1]
   by_cases h2 : 200 ≤ s.ids.length
   ·rw [vH8 h2]; exact ⟨_, rfl, fun e => by cases e⟩
   ·rw [vH9 h2]
    have e1 : (zBz who f).1 = f.2.1 := rfl
    have e0 : decide ((0 : Int) = 0) = true := vH8 rfl
    rw [e1]
    cases (wK s.m f.2.1).isSome with
    | true => exact ⟨_, rfl, fun e => by cases e⟩
    | false =>
     by_cases h3 : 40 ≤ s.m.length
     ·rw [vH8 h3]; exact ⟨_, rfl, fun e => by cases e⟩
     ·rw [vH9 h3]; exact ⟨_, rfl, fun _ => rfl⟩
 ·rw [vH9 hc]
  exact ⟨_, rfl, fun e => absurd e hc⟩
def zQu (who kd a : Int) : vN := (who, kd, a, 0, 0, 0, 0, 0)
theorem yBd {k : Nat} {l : List vN} (hl : l.length ≤ 1000) (r : qV) (s : qO) (who kd a : Int) : zG7 k (dk r s who l) kd [a] = some (dk r s who (l ++ [zQu who kd a])) := by
 have e : zG7 k (dk r s who l) kd [a] = bif zY (l.length + 1) 64 then some (dk r s who (l ++ [zQu who kd a])) else none := rfl
 rw [e, wA (by omega) (by omega)]
 rfl
def zD7 (r : qV) (s : qO) (who : Int) (f : zAk) : Int × List zB × List vN := match wK s.m f.2.1 with
 | none => (4, s.m, [])
 | some x =>
  bif !decide ((s.m.getD x pd).2.1 = who) then (4, s.m, [])
  else bif decide (f.1 = 2) then (0, vA s.m x, [zQu who 20 f.2.1])
  else bif decide (f.1 = 4) then (bif !(decide (f.2.2.1 ≥ 1) && decide (f.2.2.1 ≤ 3)) then (1, s.m, [])
   else bif !decide (zG6 r.2.2.1 r.2.2.2.1 s.t f.2.2.1 = 0) then (zG6 r.2.2.1 r.2.2.2.1 s.t f.2.2.1, s.m, [])
   else (0, zFn (vA s.m x) ((s.m.getD x pd).1, (s.m.getD x pd).2.1, (s.m.getD x pd).2.2.1, (s.m.getD x pd).2.2.2.1, f.2.2.1, (s.m.getD x pd).2.2.2.2.2.1, (s.m.getD x pd).2.2.2.2.2.2), []))
  else bif decide (f.2.2.1 = 0) then (0, zX6 (vA s.m x) (s.m.getD x pd), [])
  else bif decide (f.2.2.1 = 1) then (0, zFn (vA s.m x) (s.m.getD x pd), [])
  else (1, s.m, [])
theorem ySf {k : Nat} (hk : 1000 ≤ k) {r : qV} {s : qO} (h : zAd s.B.1.length s.m s.ids) (who : Int) {l : List vN} (hl : l.length ≤ 1000) (f : zAk) :
  ∃ d, zHk k (dk r s who l) f = some ((zD7 r s who f).1, d) ∧ ((zD7 r s who f).1 = 0 → d = dk r { s with m := (zD7 r s who f).2.1 } who (l ++ (zD7 r s who f).2.2)) := by
 have hm := h.len
 have hsm : yT s.m := by unfold yT; omega
 have eD : zHk k (dk r s who l) f = ((zCt k s.m f.2.1).bind fun x0 =>
   bif decide (x0 < 0) then some (((0, 0, 0, 0, 0, 0, 0) : zB), (4 : Int))
   else bif zE x0 s.m.length then (bif !(decide ((s.m.getD x0.toNat (0, 0, 0, 0, 0, 0, 0)).2.1 = who)) then some ((0, 0, 0, 0, 0, 0, 0), 4)
    else bif zE x0 s.m.length then some ((s.m.getD x0.toNat (0, 0, 0, 0, 0, 0, 0)), 0)
    else none)
   else none).bind fun x0 =>
  bif !(decide (x0.2 = 0)) then some (x0.2, dk r s who l)
  else bif decide (f.1 = 2) then ((zDw k s.m f.2.1).bind fun x1 =>
   (zG7 k (dk r { s with m := x1.1 } who l) 20 [f.2.1]).bind fun x2 =>
   some (x1.2.2.2.2.2.2.2.2, x2))
  else bif decide (f.1 = 4) then ((yR k f.2.2.1 1 3).bind fun x3 =>
   bif !x3 then some (1, dk r s who l)
   else (zHt k r s.t f.2.2.1).bind fun x4 =>
   bif !(decide (x4 = 0)) then some (x4, dk r s who l)
   else (zLm k s.m f.2.1 f.2.2.1).bind fun x5 =>
   some (x5.2, dk r { s with m := x5.1 } who l))
  else bif decide (f.2.2.1 = 0) then ((zK7 k s.m f.2.1).bind fun x6 =>
   some (x6.2, dk r { s with m := x6.1 } who l))
  else bif decide (f.2.2.1 = 1) then ((zJf k s.m f.2.1).bind fun x7 =>
   some (x7.2, dk r { s with m := x7.1 } who l))
  else some (1, dk r s who l) := rfl
 rw [eD, zRp (by omega) (by omega)]
 unfold zD7 zHv
 cases hx : wK s.m f.2.1 with
 | none => exact ⟨_, rfl, fun e => by cases e⟩
 | some x =>
  have hx1 := zDh hx
  have e1 : decide ((x : Int) < 0) = false := vH9 (by omega)
  simp only [vId, e1, vIf, qT, vH8 hx1.1, vIe, vIg]
  by_cases hw : (s.m.getD x (0, 0, 0, 0, 0, 0, 0)).2.1 = who
  ·have hw' : (s.m.getD x pd).2.1 = who := hw
   rw [vH8 hw]
   simp only [vIi, vIf, vId, decide_true]
   by_cases h2 : f.1 = 2
   ·rw [vH8 h2]
    simp only [vIe, zHr (show s.m.length < k by omega) hsm, vId, yBd hl]
    unfold zDn
    rw [hx]
    exact ⟨_, rfl, fun _ => rfl⟩
   ·rw [vH9 h2]
    simp only [vIf]
    by_cases h4 : f.1 = 4
    ·rw [vH8 h4]
     simp only [vIe, zEm, vId, qVo, yRn (show 3 ≤ k by omega) (show s.m.length < k by omega) hsm h.dist hm hx]
     cases decide (f.2.2.1 ≥ 1) && decide (f.2.2.1 ≤ 3) with
     | false => exact ⟨_, rfl, fun e => by cases e⟩
     | true =>
      simp only [vIi, vIf]
      by_cases hc : zG6 r.2.2.1 r.2.2.2.1 s.t f.2.2.1 = 0
      ·rw [vH8 hc]
       exact ⟨_, rfl, fun _ => by show dk r _ who l = dk r _ who (l ++ []); rw [List.append_nil]; rfl⟩
      ·rw [vH9 hc]
       exact ⟨_, rfl, fun e => absurd e hc⟩
    ·rw [vH9 h4]
     simp only [vIf]
     by_cases h0 : f.2.2.1 = 0
     ·rw [vH8 h0]
      simp only [vIe, vHw (show 3 ≤ k by omega) (show s.m.length < k by omega) hsm hx, vId]
      exact ⟨_, rfl, fun _ => by show dk r _ who l = dk r _ who (l ++ []); rw [List.append_nil]⟩
     ·rw [vH9 h0]
      simp only [vIf]
      by_cases h1 : f.2.2.1 = 1
      ·rw [vH8 h1]
       simp only [vIe, vHa (show 3 ≤ k by omega) (show s.m.length < k by omega) hsm h.dist hm hx, vId]
       exact ⟨_, rfl, fun _ => by show dk r _ who l = dk r _ who (l ++ []); rw [List.append_nil]⟩
      ·rw [vH9 h1]
       exact ⟨_, rfl, fun e => by cases e⟩
  ·have hw' : ¬ (s.m.getD x pd).2.1 = who := hw
   rw [vH9 hw]
   exact ⟨_, rfl, fun e => by cases e⟩
def zZ2 (s : qO) (a : List qK) (b : jJ) (m : List Int) : qO := { s with B := (a, b, m, s.B.2.2.2) }
def zCl (r : qV) (s : qO) (who : Int) (f : zAk) : Int × qO :=
 bif decide (f.1 = 5) then (bif !((decide (f.2.1 ≥ 0) && decide (f.2.1 ≤ r.1 - 1)) && !decide (f.2.1 = who)) then (1, s)
  else bif !(decide (f.2.2.1 ≥ -1) && decide (f.2.2.1 ≤ 1152921504606846976)) then (1, s)
  else (0, zZ2 s s.B.1 (s.B.2.1.set who.toNat ((s.B.2.1.getD who.toNat []).set f.2.1.toNat f.2.2.1)) s.B.2.2.1))
 else bif decide (f.1 = 6) then (bif !(decide (f.2.1 ≥ -1) && decide (f.2.1 ≤ 1152921504606846976)) then (1, s)
  else (0, zZ2 s s.B.1 s.B.2.1 (s.B.2.2.1.set who.toNat f.2.1)))
 else bif !(decide (f.2.1 ≥ 0) && decide (f.2.1 ≤ 1152921504606846976)) then (1, s)
 else (0, zZ2 s (s.B.1.set who.toNat ((s.B.1.getD who.toNat ad).1, (s.B.1.getD who.toNat ad).2.1, f.2.1)) s.B.2.1 s.B.2.2.1)
theorem vHr {k : Nat} (hk : 1000 ≤ k) {r : qV} (hr : zBv r) {s : qO} (hb : yI s.B) (hn : (s.B.1.length : Int) = r.1) {who : Int} (hw : 0 ≤ who ∧ who < r.1) (l : List vN) (f : zAk) :
    ∃ d, zIu k (dk r s who l) f = some ((zCl r s who f).1, d) ∧ ((zCl r s who f).1 = 0 → d = dk r (zCl r s who f).2 who l) := by
  have hp := hr.pa
  have w1 : zC (r.1 - 1) = r.1 - 1 := yH (by omega) (by omega)
  obtain ⟨w, rfl⟩ := Int.eq_ofNat_of_zero_le hw.1
  have hwn : w < s.B.1.length := by omega
  have eD : zIu k (dk r s w l) f = (jS k s.B.1 s.B.2.1 s.B.2.2.1 s.B.2.2.2).bind fun x0 =>
    bif decide (f.1 = 5) then (((yR k f.2.1 0 (zC (r.1 - 1))).bind fun x0 => bif x0 then some (!(decide (f.2.1 = (w : Int)))) else some false).bind fun x1 =>
      bif !x1 then some (1, dk r s w l)
      else (yR k f.2.2.1 (-1) 1152921504606846976).bind fun x2 =>
      bif !x2 then some (1, dk r s w l)
      else bif zE (w : Int) x0.2.1.length then (bif zE f.2.1 (x0.2.1.getD (w : Int).toNat []).length then
        some (0, dk r { s with B := (x0.1, (x0.2.1.set (w : Int).toNat ((x0.2.1.getD (w : Int).toNat []).set f.2.1.toNat f.2.2.1)), x0.2.2.1, x0.2.2.2) } w l)
       else none)
      else none)
    else bif decide (f.1 = 6) then ((yR k f.2.1 (-1) 1152921504606846976).bind fun x3 =>
      bif !x3 then some (1, dk r s w l)
      else bif zE (w : Int) x0.2.2.1.length then some (0, dk r { s with B := (x0.1, x0.2.1, (x0.2.2.1.set (w : Int).toNat f.2.1), x0.2.2.2) } w l)
      else none)
    else (yR k f.2.1 0 1152921504606846976).bind fun x4 =>
    bif !x4 then some (1, dk r s w l)
    else bif zE (w : Int) x0.1.length then some (0, dk r { s with B := ((x0.1.set (w : Int).toNat ((x0.1.getD (w : Int).toNat (0, 0, 0)).1, (x0.1.getD (w : Int).toNat (0, 0, 0)).2.1, f.2.1)), x0.2.1, x0.2.2.1, x0.2.2.2) } w l)
    else none := rfl
  rw [eD, zQ6 (by omega) hb.toSized, w1]
  simp only [vId, zEm, qT, vIg]
  unfold zCl
  rw [vIg]
  by_cases h5 : f.1 = 5
  · rw [vH8 h5]
    simp only [vIe]
    cases hc : decide (f.2.1 ≥ 0) && decide (f.2.1 ≤ r.1 - 1) with
    | false => exact ⟨_, rfl, fun e => by cases e⟩
    | true =>
      simp only [vIh, vIc] at hc
      cases decide (f.2.1 = (w : Int)) with
      | true => exact ⟨_, rfl, fun e => by cases e⟩
      | false =>
        cases decide (f.2.2.1 ≥ -1) && decide (f.2.2.1 ≤ 1152921504606846976) with
        | false => exact ⟨_, rfl, fun e => by cases e⟩
        | true =>
          have b1 : decide (w < s.B.2.1.length) = true := vH8 (by rw [hb.bl]; exact hwn)
          have b2 : zE f.2.1 (s.B.2.1.getD w []).length = true := zM9 hc.1 (by rw [hb.br w hwn]; omega)
          simp only [vIe, vId, vIj, vIi, vIf, b1, b2, Bool.and_self]
          exact ⟨_, rfl, fun _ => rfl⟩
  · rw [vH9 h5]
    simp only [vIf]
    by_cases h6 : f.1 = 6
    · rw [vH8 h6]
      cases decide (f.2.1 ≥ -1) && decide (f.2.1 ≤ 1152921504606846976) with
      | false => exact ⟨_, rfl, fun e => by cases e⟩
      | true =>
        have b1 : decide (w < s.B.2.2.1.length) = true := vH8 (by rw [hb.ml]; exact hwn)
        simp only [vIe, vIi, vIf, b1]
        exact ⟨_, rfl, fun _ => rfl⟩
    · rw [vH9 h6]
      cases decide (f.2.1 ≥ 0) && decide (f.2.1 ≤ 1152921504606846976) with
      | false => exact ⟨_, rfl, fun e => by cases e⟩
      | true =>
        have b1 : decide (w < s.B.1.length) = true := vH8 hwn
        simp only [vIe, vIi, vIf, b1]
        exact ⟨_, rfl, fun _ => rfl⟩
def zQs (s : qO) (w : Nat) (h : List Int) (n : Int) : Int × qO :=
 bif decide (n > 1152921504606846976) then (8, s)
 else bif decide (n < (s.B.1.getD w ad).2.1) && decide ((s.B.1.getD w ad).1 + n < 0) then (9, s)
 else (0, { s with B := (s.B.1.set w ((s.B.1.getD w ad).1, n, (s.B.1.getD w ad).2.2), s.B.2.1, s.B.2.2.1, s.B.2.2.2), ho := s.ho.set w h })
def zCd (r : qV) (s : qO) (who a many : Int) : Int × qO :=
 bif !(decide (a ≥ 0) && decide (a ≤ (r.2.1.length : Int) - 1)) then (1, s)
 else bif !(decide (many ≥ 0) && decide (many ≤ 1099511627776)) then (1, s)
 else zQs s who.toNat ((s.ho.getD who.toNat []).set a.toNat many) (zBw r.2.1 s.pr ((s.ho.getD who.toNat []).set a.toNat many))
theorem zBr.set {sa : List zA7} {pr h : List Int} (L : zBr sa pr h) {i : Nat} (hi : i < sa.length) {v : Int} (hv : 0 ≤ v ∧ v ≤ 1099511627776) : zBr sa pr (h.set i v) :=
 ⟨L.n3, L.pl, by rw [List.length_set]; exact L.hl, L.cut, L.price, fun j hj => by
  rw [vW]
  split
  ·exact hv
  ·exact L.hold j hj⟩
theorem zBr.setP {sa : List zA7} {pr h : List Int} (L : zBr sa pr h) {i : Nat} (hi : i < sa.length) {v : Int} (hv : 0 ≤ v ∧ v ≤ 1048576) : zBr sa (pr.set i v) h :=
 ⟨L.n3, by rw [List.length_set]; exact L.pl, L.hl, L.cut, fun j hj => by
  rw [vW]
  split
  ·exact hv
  ·exact L.price j hj, L.hold⟩
theorem yXw {k : Nat} {l : jJ} (hl : l.length ≤ 1000) : zNo k l = some l := by
 unfold zNo
 rw [wA (by omega) (by omega)]
 rfl
theorem vA0 {k : Nat} (hk : 1000 ≤ k) {r : qV} (hr : zBv r) {s : qO} (h : yP r s) {who : Int} (hw : 0 ≤ who ∧ who < r.1) (l : List vN) (a many : Int) :
    ∃ d, zU2 k (dk r s who l) a many = some ((zCd r s who a many).1, d) ∧ ((zCd r s who a many).1 = 0 → d = dk r (zCd r s who a many).2 who l) := by
  have hp := hr.pa
  have h3 := hr.n3
  have hn := h.n
  have hn6 := h.bk.n6
  have hol := h.hol
  have w1 : zC ((r.2.1.length : Int) - 1) = (r.2.1.length : Int) - 1 := yH (by omega) (by omega)
  obtain ⟨w, rfl⟩ := Int.eq_ofNat_of_zero_le hw.1
  have hwn : w < s.B.1.length := by omega
  have eD : zU2 k (dk r s w l) a many = ((yR k a 0 (zC ((r.2.1.length : Int) - 1))).bind fun x0 => some x0).bind fun x0 =>
    bif !x0 then some (1, dk r s w l)
    else (yR k many 0 1099511627776).bind fun x1 =>
    bif !x1 then some (1, dk r s w l)
    else (zNo k s.ho).bind fun x2 =>
    bif zE (w : Int) x2.length then ((zDp k (x2.getD (w : Int).toNat []) a many).bind fun x3 =>
      bif zE (w : Int) x2.length then (
       bif zE (w : Int) (x2.set (w : Int).toNat x3).length then ((zEc k r.2.1 s.pr ((x2.set (w : Int).toNat x3).getD (w : Int).toNat [])).bind fun x4 =>
        bif zE (w : Int) s.B.1.length then (bif !x4.2 then some (8, dk r s w l)
         else bif decide (x4.1 > 1152921504606846976) then some (8, dk r s w l)
         else bif decide (x4.1 < (s.B.1.getD (w : Int).toNat (0, 0, 0)).2.1) then (bif decide ((zC ((s.B.1.getD (w : Int).toNat (0, 0, 0)).1 + x4.1)) < 0) then some (9, dk r s w l)
          else (jS k s.B.1 s.B.2.1 s.B.2.2.1 s.B.2.2.2).bind fun x5 =>
          bif zE (w : Int) x5.1.length then
           some (0, dk r { s with B := ((x5.1.set (w : Int).toNat ((x5.1.getD (w : Int).toNat (0, 0, 0)).1, x4.1, (x5.1.getD (w : Int).toNat (0, 0, 0)).2.2)), x5.2.1, x5.2.2.1, x5.2.2.2), ho := x2.set (w : Int).toNat x3 } w l)
          else none)
         else (jS k s.B.1 s.B.2.1 s.B.2.2.1 s.B.2.2.2).bind fun x6 =>
         bif zE (w : Int) x6.1.length then
          some (0, dk r { s with B := ((x6.1.set (w : Int).toNat ((x6.1.getD (w : Int).toNat (0, 0, 0)).1, x4.1, (x6.1.getD (w : Int).toNat (0, 0, 0)).2.2)), x6.2.1, x6.2.2.1, x6.2.2.2), ho := x2.set (w : Int).toNat x3 } w l)
         else none)
        else none)
       else none)
      else none)
    else none := rfl
  rw [eD, w1, zEm, zEm, zQ6 (by omega) h.bk.toSized, yXw (by omega)]
  simp only [vId, qT, vIg]
  unfold zCd
  simp only [vIg]
  cases hc : decide (a ≥ 0) && decide (a ≤ (r.2.1.length : Int) - 1) with
  | false => exact ⟨_, rfl, fun e => by cases e⟩
  | true =>
  simp only [vIh, vIc] at hc
  cases hm : decide (many ≥ 0) && decide (many ≤ 1099511627776) with
  | false => exact ⟨_, rfl, fun e => by cases e⟩
  | true =>
  simp only [vIh, vIc] at hm
  obtain ⟨i, rfl⟩ := Int.eq_ofNat_of_zero_le hc.1
  have hi : i < r.2.1.length := by omega
  have L := h.laid w hwn
  have L2 := L.set hi (v := many) ⟨by omega, by omega⟩
  have b1 : decide (w < s.ho.length) = true := vH8 (by omega)
  have b2 : decide (w < s.B.1.length) = true := vH8 hwn
  have eset : zDp k (s.ho.getD w []) (i : Int) many = some ((s.ho.getD w []).set i many) := by
    have := qXs (k := k) (l := s.ho.getD w []) (by rw [L.hl]; omega) (i := (i : Int)) (by omega) (by rw [L.hl]; omega) many
    rw [vIg] at this
    exact this
  have eget : (s.ho.set w ((s.ho.getD w []).set i many)).getD w [] = (s.ho.getD w []).set i many := by
    rw [vW, if_pos ⟨rfl, by omega⟩]
  have hv := qX2 (k := k) L2 (by omega)
  have hb := h.bk.nums.bal w hwn
  have hv0 := zVa L2
  simp only [vIi, vIf, b1, vIe, eset, vId, List.length_set, eget, hv, b2, vIg]
  clear hv L2 eget eD
  generalize zBw r.2.1 s.pr ((s.ho.getD w []).set i many) = n at hv0 ⊢
  unfold zQs
  cases h8' : decide (n > 1152921504606846976) with
  | true => exact ⟨_, rfl, fun e => by cases e⟩
  | false =>
    have h8 : ¬ n > 1152921504606846976 := vIb h8'
    have w2 : zC ((s.B.1.getD w (0, 0, 0)).1 + n) = (s.B.1.getD w (0, 0, 0)).1 + n := yH (by have := hb.1; simp only [ad] at this; omega) (by have := hb.2; simp only [ad] at this; omega)
    simp only [w2, vIf]
    cases decide (n < (s.B.1.getD w (0, 0, 0)).2.1) with
    | false => exact ⟨_, rfl, fun _ => rfl⟩
    | true =>
      cases decide ((s.B.1.getD w (0, 0, 0)).1 + n < 0) with
      | true => exact ⟨_, rfl, fun e => by cases e⟩
      | false => exact ⟨_, rfl, fun _ => rfl⟩
def wM (a : qK) (n : Int) : qK × Int := bif jB (a.1 + n, a.2.1, a.2.2) then ((a.1 + n, a.2.1, a.2.2), 0) else (a, 8)
theorem qY7 {k : Nat} {a : qK} (ha : -4611686018427387904 < a.1 ∧ a.1 < 4611686018427387904) {n : Int} (hn : -1099511627776 ≤ n ∧ n ≤ 1099511627776) : zRb k a n = some (wM a n) := by
 have hadd : zLg k a.1 n = some (a.1 + n, true) := by
  unfold zLg
  have w1 : n > 0 → zC (9223372036854775807 - n) = 9223372036854775807 - n := fun h => yH (by omega) (by omega)
  have w2 : n < 0 → zC (-9223372036854775808 - n) = -9223372036854775808 - n := fun h => yH (by omega) (by omega)
  have w3 : zC (a.1 + n) = a.1 + n := yH (by omega) (by omega)
  rw [w3]
  by_cases h1 : n > 0
  ·rw [vH8 h1, w1 h1, vH9 (show ¬ a.1 > 9223372036854775807 - n by omega), vH9 (show ¬ n < 0 by omega)]; rfl
  ·rw [vH9 h1]
   by_cases h2 : n < 0
   ·rw [vH8 h2, w2 h2, vH9 (show ¬ a.1 < -9223372036854775808 - n by omega)]; rfl
   ·rw [vH9 h2]; rfl
 unfold zRb wM
 rw [hadd]
 simp only [vId, vIi, vIf, yLh]
 cases jB (a.1 + n, a.2.1, a.2.2) <;> rfl
abbrev vDc := Int × List zA7 × Int × Int × Int × Int × List qK × jJ × List Int × jJ × List Int × jJ × List zB × List Int × Int × Bool × Int
def jY (r : qV) (s : qO) (who : Int) : vDc := (r.1, r.2.1, r.2.2.1, r.2.2.2.1, r.2.2.2.2, s.t, s.B.1, s.B.2.1, s.B.2.2.1, s.B.2.2.2, s.pr, s.ho, s.m, s.ids, s.to, s.ov, who)
def zZp (s : qO) (i : Nat) (a : qK) (to : Int) : qO := { s with B := (s.B.1.set i a, s.B.2.1, s.B.2.2.1, s.B.2.2.2), to := to }
def zOv (s : qO) (i : Nat) (n : Int) : Int × qO :=
 bif decide ((s.B.1.getD i ad).1 + (s.B.1.getD i ad).2.1 - (s.B.1.getD i ad).2.2 < n) then (9, s)
 else bif decide (s.to - n < 0) then (9, s)
 else bif !decide ((wM (s.B.1.getD i ad) (-n)).2 = 0) then ((wM (s.B.1.getD i ad) (-n)).2, s)
 else bif decide (s.to - n > 1152921504606846976) then (8, s)
 else (0, zZp s i (wM (s.B.1.getD i ad) (-n)).1 (s.to - n))
def inN (s : qO) (i : Nat) (n : Int) : Int × qO :=
 bif !decide ((wM (s.B.1.getD i ad) n).2 = 0) then ((wM (s.B.1.getD i ad) n).2, s)
 else bif decide (s.to + n > 1152921504606846976) then (8, s)
 else (0, zZp s i (wM (s.B.1.getD i ad) n).1 (s.to + n))
def zBk (r : qV) (s : qO) (kd to n : Int) : Int × qO :=
 bif !(decide (to ≥ 0) && decide (to ≤ r.1 - 1)) then (1, s)
 else bif !(decide (n ≥ 1) && decide (n ≤ 1099511627776)) then (1, s)
 else bif decide (kd = 11) then zOv s to.toNat n else inN s to.toNat n
theorem vAl {k : Nat} (hk : 1000 ≤ k) {r : qV} (hr : zBv r) {s : qO} (h : yP r s) (who kd to n : Int) :
    ∃ d, zNu k (jY r s who) kd to n = some ((zBk r s kd to n).1, d) ∧ ((zBk r s kd to n).1 = 0 → d = dk r (zBk r s kd to n).2 who []) := by
  have hp := hr.pa
  have hn := h.n
  have ht := h.tot
  have w1 : zC (r.1 - 1) = r.1 - 1 := yH (by omega) (by omega)
  have eD : zNu k (jY r s who) kd to n = (yR k to 0 (zC (r.1 - 1))).bind fun x0 =>
    bif !x0 then some (1, dk r s who [])
    else (yR k n 1 1099511627776).bind fun x1 =>
    bif !x1 then some (1, dk r s who [])
    else bif zE to s.B.1.length then ((zJ5 k (s.B.1.getD to.toNat (0, 0, 0)) n).bind fun x2 =>
      bif decide (kd = 11) then ((zK3 k (s.B.1.getD to.toNat (0, 0, 0)) n 3).bind fun x3 =>
       (zL6 k (s.B.1.getD to.toNat (0, 0, 0)) 3).bind fun x4 =>
       bif decide (x4 < n) then some (9, dk r s who [])
       else bif decide ((zC (s.to - n)) < 0) then some (9, dk r s who [])
       else bif !(decide (x3.2 = 0)) then some (x3.2, dk r s who [])
       else bif decide ((zC (s.to - n)) > 1152921504606846976) then some (8, dk r s who [])
       else (jS k s.B.1 s.B.2.1 s.B.2.2.1 s.B.2.2.2).bind fun x5 =>
       bif zE to x5.1.length then some (0, dk r { s with B := (x5.1.set to.toNat x3.1, x5.2.1, x5.2.2.1, x5.2.2.2), to := zC (s.to - n) } who [])
       else none)
      else bif !(decide (x2.2 = 0)) then some (x2.2, dk r s who [])
      else bif decide ((zC (s.to + n)) > 1152921504606846976) then some (8, dk r s who [])
      else (jS k s.B.1 s.B.2.1 s.B.2.2.1 s.B.2.2.2).bind fun x6 =>
      bif zE to x6.1.length then some (0, dk r { s with B := (x6.1.set to.toNat x2.1, x6.2.1, x6.2.2.1, x6.2.2.2), to := zC (s.to + n) } who [])
      else none)
    else none := rfl
  rw [eD, w1, zEm, zEm, zQ6 (by omega) h.bk.toSized]
  simp only [vId]
  unfold zBk
  cases hc : decide (to ≥ 0) && decide (to ≤ r.1 - 1) with
  | false => exact ⟨_, rfl, fun e => by cases e⟩
  | true =>
  simp only [vIh, vIc] at hc
  cases hm : decide (n ≥ 1) && decide (n ≤ 1099511627776) with
  | false => exact ⟨_, rfl, fun e => by cases e⟩
  | true =>
  simp only [vIh, vIc] at hm
  obtain ⟨i, rfl⟩ := Int.eq_ofNat_of_zero_le hc.1
  have hi : i < s.B.1.length := by omega
  have hb := h.bk.nums.bal i hi
  have hres := h.bk.nums.res i hi
  have hcr := h.most i hi
  have hcr0 : 0 ≤ (s.B.1.getD i ad).2.1 := by rw [h.cred i hi]; exact zVa (h.laid i hi)
  have b0 : zE (i : Int) s.B.1.length = true := by rw [qT, vH8 hi]
  have eIn : zJ5 k (s.B.1.getD i (0, 0, 0)) n = some (wM (s.B.1.getD i ad) n) := by
    unfold zJ5
    rw [qY7 hb (by omega)]
    rfl
  have eOut : zK3 k (s.B.1.getD i (0, 0, 0)) n 3 = some (wM (s.B.1.getD i ad) (-n)) := by
    unfold zK3
    rw [show zC (0 - n) = -n by rw [yH (by omega) (by omega)]; omega, qY7 hb (by omega)]
    simp only [vId]
    have d1 : decide ((3 : Int) = 1) = false := rfl
    have d2 : decide ((3 : Int) = 2) = false := rfl
    rw [d1, d2]
    cases decide ((wM (s.B.1.getD i ad) (-n)).2 = 0) <;> rfl
  have eRoom : zL6 k (s.B.1.getD i (0, 0, 0)) 3 = some ((s.B.1.getD i ad).1 + (s.B.1.getD i ad).2.1 - (s.B.1.getD i ad).2.2) := by
    unfold zL6
    have d1 : decide ((3 : Int) = 3) = true := rfl
    rw [d1, vIe]
    have q1 : zC ((s.B.1.getD i (0, 0, 0)).1 + (s.B.1.getD i (0, 0, 0)).2.1) = (s.B.1.getD i ad).1 + (s.B.1.getD i ad).2.1 := yH (by simp only [ad] at *; omega) (by simp only [ad] at *; omega)
    rw [q1]
    exact congrArg some (yH (by simp only [ad] at *; omega) (by simp only [ad] at *; omega))
  have q2 : zC (s.to - n) = s.to - n := yH (by omega) (by omega)
  have q3 : zC (s.to + n) = s.to + n := yH (by omega) (by omega)
  simp only [vIi, vIf, b0, vIe, vIg, eIn, eOut, eRoom, vId, q2, q3]
  clear eIn eOut eRoom eD
  cases decide (kd = 11) with
  | true =>
    simp only [vIe]
    unfold zOv
    cases decide ((s.B.1.getD i ad).1 + (s.B.1.getD i ad).2.1 - (s.B.1.getD i ad).2.2 < n) with
    | true => exact ⟨_, rfl, fun e => by cases e⟩
    | false =>
    cases decide (s.to - n < 0) with
    | true => exact ⟨_, rfl, fun e => by cases e⟩
    | false =>
    cases hz : decide ((wM (s.B.1.getD i ad) (-n)).2 = 0) with
    | false => exact ⟨_, rfl, fun e => absurd e (vIb hz)⟩
    | true =>
    cases decide (s.to - n > 1152921504606846976) with
    | true => exact ⟨_, rfl, fun e => by cases e⟩
    | false => exact ⟨_, rfl, fun _ => rfl⟩
  | false =>
    simp only [vIf]
    unfold inN
    cases hz : decide ((wM (s.B.1.getD i ad) n).2 = 0) with
    | false => exact ⟨_, rfl, fun e => absurd e (vIb hz)⟩
    | true =>
    cases decide (s.to + n > 1152921504606846976) with
    | true => exact ⟨_, rfl, fun e => by cases e⟩
    | false => exact ⟨_, rfl, fun _ => rfl⟩
def zA4 (sa : List zA7) (pr : List Int) (ho : jJ) (j : Nat) : Int := zBw sa pr (ho.getD j [])
def zA0 (sa : List zA7) (pr : List Int) (ho : jJ) (a : List qK) : List qK := (List.range a.length).map fun j => ((a.getD j ad).1, zA4 sa pr ho j, (a.getD j ad).2.2)
def zOz (r : qV) (s : qO) (pr : List Int) : Int × qO :=
 bif qH (fun j => !decide (zA4 r.2.1 pr s.ho j > 1152921504606846976)) s.B.1.length 0 then (0, { s with B := (zA0 r.2.1 pr s.ho s.B.1, s.B.2.1, s.B.2.2.1, s.B.2.2.2), pr := pr }) else (8, s)
def zCb (r : qV) (s : qO) (a p : Int) : Int × qO :=
 bif !(decide (a ≥ 0) && decide (a ≤ (r.2.1.length : Int) - 1)) then (1, s)
 else bif !(decide (p ≥ 0) && decide (p ≤ 1048576)) then (1, s)
 else zOz r s (s.pr.set a.toNat p)
theorem yC3 (sa : List zA7) (pr : List Int) (ho : jJ) (a : List qK) : (zA0 sa pr ho a).length = a.length := by simp [zA0]
theorem qK5 (sa : List zA7) (pr : List Int) (ho : jJ) (a : List qK) {j : Nat} (hj : j < a.length) : (zA0 sa pr ho a).getD j ad = ((a.getD j ad).1, zA4 sa pr ho j, (a.getD j ad).2.2) := by
 unfold zA0
 rw [List.getD_eq_getElem?_getD, List.getElem?_map, List.getElem?_range hj]
 rfl
theorem yOt {k : Nat} (hk : 1000 ≤ k) {r : qV} {s : qO} (who : Int) {pr : List Int} (hL : ∀ i, i < s.B.1.length → zBr r.2.1 pr (s.ho.getD i [])) (hol : s.ho.length = s.B.1.length) (hn6 : s.B.1.length ≤ 6) :
  (qH (fun j => !decide (zA4 r.2.1 pr s.ho j > 1152921504606846976)) s.B.1.length 0 = true ∧ zFc k k s.ho s.ho.length 0 (jY r s who) pr s.B.1 s.B.2.1 s.B.2.2.1 s.B.2.2.2 = some (.inl (jY r s who, pr, zA0 r.2.1 pr s.ho s.B.1, s.B.2.1, s.B.2.2.1, s.B.2.2.2))) ∨
  (qH (fun j => !decide (zA4 r.2.1 pr s.ho j > 1152921504606846976)) s.B.1.length 0 = false ∧ zFc k k s.ho s.ho.length 0 (jY r s who) pr s.B.1 s.B.2.1 s.B.2.2.1 s.B.2.2.2 = some (.inr (8, jY r s who))) := by
 rw [hol]
 have := qXz (L := fun n i (a : List qK) => zFc k n s.ho s.B.1.length i (jY r s who) pr a s.B.2.1 s.B.2.2.1 s.B.2.2.2) (N := s.B.1.length) (fun j => !decide (zA4 r.2.1 pr s.ho j > 1152921504606846976))
  (fun a => .inl (jY r s who, pr, a, s.B.2.1, s.B.2.2.1, s.B.2.2.2)) (.inr (8, jY r s who))
  (fun i a => a.length = s.B.1.length ∧ ∀ j, j < s.B.1.length → a.getD j ad = if j < i then ((s.B.1.getD j ad).1, zA4 r.2.1 pr s.ho j, (s.B.1.getD j ad).2.2) else s.B.1.getD j ad) (fun n a _ => by
   show zJo k _ s.ho s.B.1.length s.B.1.length (jY r s who) pr a s.B.2.1 s.B.2.2.1 s.B.2.2.2 = _
   unfold zJo
   simp only [qB, vH9 (Nat.lt_irrefl _), vIf]) (fun n i a hi ha => by
   have hv := qX2 (k := k) (hL i hi) (by omega)
   have hstep : zFc k (n + 1) s.ho s.B.1.length i (jY r s who) pr a s.B.2.1 s.B.2.2.1 s.B.2.2.2 = bif decide (zA4 r.2.1 pr s.ho i > 1152921504606846976) then some (.inr (8, jY r s who)) else zFc k n s.ho s.B.1.length ((i + 1 : Nat) : Int) (jY r s who) pr (a.set i ((a.getD i ad).1, zA4 r.2.1 pr s.ho i, (a.getD i ad).2.2)) s.B.2.1 s.B.2.2.1 s.B.2.2.2 := by
    show zJo k _ s.ho s.B.1.length i (jY r s who) pr a s.B.2.1 s.B.2.2.1 s.B.2.2.2 = _
    unfold zJo
    have hv' : zEc k (jY r s who).2.1 pr (s.ho.getD i []) = some (zA4 r.2.1 pr s.ho i, true) := hv
    simp only [qB, qT, vIg, vH8 hi, vH8 (show i < s.ho.length by omega), vH8 (show i < a.length by rw [ha.1]; exact hi), vIe, hv', vId, vIi, vIf, qX hi (show s.B.1.length < 9223372036854775808 by omega)]
    rfl
   refine ⟨fun ho => ?_, fun ho => ?_⟩
   ·have h1 : decide (zA4 r.2.1 pr s.ho i > 1152921504606846976) = false := by simpa using ho
    refine ⟨_, by rw [hstep, h1]; rfl, by rw [List.length_set]; exact ha.1, fun j hj => ?_⟩
    rw [vW]
    by_cases e : i = j
    ·subst e
     rw [if_pos ⟨rfl, by rw [ha.1]; exact hi⟩, if_pos (by omega), ha.2 i hi, if_neg (Nat.lt_irrefl _)]
    ·rw [if_neg (by omega), ha.2 j hj]
     by_cases h : j < i
     ·rw [if_pos h, if_pos (by omega)]
     ·rw [if_neg h, if_neg (by omega)]
   ·have h1 : decide (zA4 r.2.1 pr s.ho i > 1152921504606846976) = true := by simpa using ho
    rw [hstep, h1]; rfl) s.B.1.length 0 k s.B.1 (by omega) (by omega) ⟨rfl, fun j _ => by rw [if_neg (Nat.not_lt_zero _)]⟩
 rcases this with ⟨h1, a, h2, h3, h4⟩ | ⟨h1, h2⟩
 ·refine .inl ⟨h1, ?_⟩
  have e : a = zA0 r.2.1 pr s.ho s.B.1 := zYq ad (by rw [h3, yC3]) fun j hj => by
   rw [h3] at hj
   rw [h4 j hj, if_pos hj, qK5 _ _ _ _ hj]
  rw [← e]
  exact h2
 ·exact .inr ⟨h1, h2⟩
theorem vHj {k : Nat} (hk : 1000 ≤ k) {r : qV} (hr : zBv r) {s : qO} (h : yP r s) (who a p : Int) :
  ∃ d, zU1 k (jY r s who) a p = some ((zCb r s a p).1, d) ∧ ((zCb r s a p).1 = 0 → d = dk r (zCb r s a p).2 who []) := by
 have h3 := hr.n3
 have hn6 := h.bk.n6
 have hn1 := h.bk.n1
 have w1 : zC ((r.2.1.length : Int) - 1) = (r.2.1.length : Int) - 1 := yH (by omega) (by omega)
 have eD : zU1 k (jY r s who) a p = ((yR k a 0 (zC ((r.2.1.length : Int) - 1))).bind fun x0 => some x0).bind fun x0 =>
  bif !x0 then some (1, dk r s who [])
  else (yR k p 0 1048576).bind fun x1 =>
  bif !x1 then some (1, dk r s who [])
  else (zDp k s.pr a p).bind fun x2 =>
  (jS k s.B.1 s.B.2.1 s.B.2.2.1 s.B.2.2.2).bind fun x3 =>
  (zFc k k s.ho (s.ho.length : Int) 0 (jY r s who) x2 x3.1 x3.2.1 x3.2.2.1 x3.2.2.2).bind fun z =>
  match z with
  | .inl z1 => some (0, (zAl z1.1 (yJv z1 (z1.2.1, (qJ0 z1.1 [])))))
  | .inr z2 => some (wI z2 []) := rfl
 rw [eD, w1, zEm, zEm, zQ6 (by omega) h.bk.toSized]
 simp only [vId]
 unfold zCb
 cases hc : decide (a ≥ 0) && decide (a ≤ (r.2.1.length : Int) - 1) with
 | false => exact ⟨_, rfl, fun e => by cases e⟩
 | true =>
 simp only [vIh, vIc] at hc
 cases hm : decide (p ≥ 0) && decide (p ≤ 1048576) with
 | false => exact ⟨_, rfl, fun e => by cases e⟩
 | true =>
 simp only [vIh, vIc] at hm
 obtain ⟨i, rfl⟩ := Int.eq_ofNat_of_zero_le hc.1
 have hi : i < r.2.1.length := by omega
 have L0 := h.laid 0 (by omega)
 have eset : zDp k s.pr (i : Int) p = some (s.pr.set i p) := by
  have := qXs (k := k) (l := s.pr) (by rw [L0.pl]; omega) (i := (i : Int)) (by omega) (by rw [L0.pl]; omega) p
  rw [vIg] at this
  exact this
 simp only [vIi, vIf, eset, vId, vIg]
 unfold zOz
 rcases yOt (r := r) (s := s) hk who (pr := s.pr.set i p) (fun j hj => (h.laid j hj).setP hi ⟨by omega, by omega⟩) h.hol hn6 with ⟨g1, g2⟩ | ⟨g1, g2⟩
 ·rw [g2, g1]
  exact ⟨_, rfl, fun _ => rfl⟩
 ·rw [g2, g1]
  exact ⟨_, rfl, fun e => by cases e⟩
theorem zY5 {q p : zB} : leP q p = true ↔ q.2.1 < p.2.1 ∨ (q.2.1 = p.2.1 ∧ q.2.2.2.2.1 ≤ p.2.2.2.2.1) := by
 unfold leP; simp
theorem qRc {q p : zB} : ltP q p = true ↔ q.2.1 < p.2.1 ∨ (q.2.1 = p.2.1 ∧ q.2.2.2.2.1 < p.2.2.2.2.1) := by
 unfold ltP; simp
theorem yPq {a b c : zB} (h : leP a b = true) (g : leP b c = true) : leP a c = true := by
 rw [zY5] at *; omega
theorem vC0 {a b : zB} (h : ¬ leP a b = true) : leP b a = true := by
 rw [zY5] at *; omega
theorem ySp {a b : zB} (h : ltP a b = true) : leP a b = true := by
 rw [qRc] at h; rw [zY5]; omega
theorem vGt {a b : zB} (h : ¬ ltP a b = true) : leP b a = true := by
 rw [qRc] at h; rw [zY5]; omega
theorem qZn (f : zB → Bool) (l : List zB) (p : zB) : List.Perm (l.takeWhile f ++ (p :: l.dropWhile f)) (p :: l) := by
 have := List.perm_middle (a := p) (l₁ := l.takeWhile f) (l₂ := l.dropWhile f)
 rwa [List.takeWhile_append_dropWhile] at this
theorem qYy {l : List zB} (hs : zCv l) (p : zB) (f : zB → Bool) (h1 : ∀ q, f q = true → leP q p = true) (h2 : ∀ q, ¬ f q = true → leP p q = true) : zCv (l.takeWhile f ++ (p :: l.dropWhile f)) := by
 have hs' := hs
 unfold zCv at hs hs' ⊢
 rw [← List.takeWhile_append_dropWhile (p := f) (l := l)] at hs
 obtain ⟨a1, a2, a3⟩ := List.pairwise_append.1 hs
 have htw : ∀ q ∈ l.takeWhile f, f q = true := fun q hq => List.all_eq_true.1 (List.all_takeWhile (p := f) (l := l)) q hq
 have hdw : ∀ q ∈ l.dropWhile f, leP p q = true := by
  cases hd : l.dropWhile f with
  | nil => intro q hq; cases hq
  | cons x m =>
   have hx : ¬ f x = true := by
    have hne : l.dropWhile f ≠ [] := by rw [hd]; simp
    have := List.head_dropWhile_not f hne
    have e : (l.dropWhile f).head hne = x := by simp only [hd, List.head_cons]
    rw [e] at this
    simp [this]
   intro q hq
   rcases List.mem_cons.1 hq with rfl | hq
   ·exact h2 _ hx
   ·rw [hd] at a2
    exact yPq (h2 x hx) ((List.pairwise_cons.1 a2).1 q hq)
 refine List.pairwise_append.2 ⟨a1, List.pairwise_cons.2 ⟨hdw, a2⟩, fun a ha b hb => ?_⟩
 rcases List.mem_cons.1 hb with rfl | hb
 ·exact h1 a (htw a ha)
 ·exact a3 a ha b hb
theorem qAm {l : List zB} (hs : zCv l) (p : zB) : zCv (zFn l p) := qYy hs p _ (fun _ h => h) (fun _ h => vC0 h)
theorem yYw {l : List zB} (hs : zCv l) (p : zB) : zCv (zX6 l p) := qYy hs p _ (fun _ h => ySp h) (fun _ h => vGt h)
theorem qG5 (l : List zB) (p : zB) : List.Perm (zFn l p) (p :: l) := qZn _ l p
theorem ySj (l : List zB) (p : zB) : List.Perm (zX6 l p) (p :: l) := qZn _ l p
theorem zCv.cut {l : List zB} (h : zCv l) (x : Nat) : zCv (vA l x) := List.Pairwise.sublist (zFd l x) h
theorem yYx {l : List Int} (ha : Asc l) {id : Int} (hn : id ∉ l) : Asc (zHz l id) := by
 unfold zHz
 have ha' := ha
 unfold Asc at ha ha' ⊢
 rw [← List.takeWhile_append_dropWhile (p := fun x => decide (x < id)) (l := l)] at ha
 obtain ⟨a1, a2, a3⟩ := List.pairwise_append.1 ha
 have htw : ∀ q ∈ l.takeWhile (fun x => decide (x < id)), q < id := fun q hq => by simpa using List.all_eq_true.1 (List.all_takeWhile (p := fun x => decide (x < id)) (l := l)) q hq
 have hdw : ∀ q ∈ l.dropWhile (fun x => decide (x < id)), id < q := by
  cases hd : l.dropWhile (fun x => decide (x < id)) with
  | nil => intro q hq; cases hq
  | cons x m =>
   have hxm : x ∈ l := (List.dropWhile_sublist _).subset (by rw [hd]; exact List.mem_cons_self ..)
   have hx : ¬ x < id := by
    have hne : l.dropWhile (fun x => decide (x < id)) ≠ [] := by rw [hd]; simp
    have := List.head_dropWhile_not (fun x => decide (x < id)) hne
    have e : (l.dropWhile (fun x => decide (x < id))).head hne = x := by simp only [hd, List.head_cons]
    rw [e] at this
    simpa using this
   have hne : x ≠ id := fun e => hn (e ▸ hxm)
   intro q hq
   rcases List.mem_cons.1 hq with rfl | hq
   ·omega
   ·rw [hd] at a2
    have := (List.pairwise_cons.1 a2).1 q hq
    omega
 refine List.pairwise_append.2 ⟨a1, List.pairwise_cons.2 ⟨hdw, a2⟩, fun a ha b hb => ?_⟩
 rcases List.mem_cons.1 hb with rfl | hb
 ·exact htw a ha
 ·exact a3 a ha b hb
theorem yY6 (l : List Int) (id : Int) : List.Perm (zHz l id) (id :: l) := by
 have := List.perm_middle (a := id) (l₁ := l.takeWhile (fun x => decide (x < id))) (l₂ := l.dropWhile (fun x => decide (x < id)))
 rwa [List.takeWhile_append_dropWhile] at this
theorem zAd.sub {n : Nat} {m m' : List zB} {ids : List Int} (h : zAd n m ids) (hs : List.Sublist m' m) : zAd n m' ids :=
 ⟨List.Pairwise.sublist hs h.dist, by have := hs.length_le; have := h.len; omega, List.Pairwise.sublist hs h.sort, fun p hp => h.may p (hs.subset hp), fun p hp => h.time p (hs.subset hp), fun p hp => h.were p (hs.subset hp), h.asc, h.pos, h.idl⟩
theorem zAd.turn {n : Nat} {m : List zB} {ids : List Int} (h : zAd n m ids) {x : Nat} (hx : x < m.length) {p : zB} {m' : List zB} (hp : List.Perm m' (p :: vA m x)) (hs : zCv m') (h1 : p.1 = (m.getD x pd).1)
  (h2 : yN n p) (h3 : 0 ≤ p.2.2.2.2.2.1 ∧ p.2.2.2.2.2.1 ≤ p.2.2.2.2.2.2 ∧ p.2.2.2.2.2.2 ≤ 1048576) : zAd n m' ids := by
 have hc := zFd m x
 have hl := zDb hx
 have hd : qS (p :: vA m x) := by
  refine List.pairwise_cons.2 ⟨fun q hq => ?_, h.dist.cut x⟩
  rw [h1]
  have hd := h.dist
  unfold qS at hd
  rw [zR2 m x pd hx] at hd
  have hd2 := List.pairwise_append.1 hd
  have hd3 := List.pairwise_cons.1 hd2.2.1
  unfold vA at hq
  rcases List.mem_append.1 hq with hq | hq
  ·exact fun e => hd2.2.2 _ hq _ (List.mem_cons_self ..) e.symm
  ·exact hd3.1 _ hq
 have hlen := hp.length_eq
 rw [List.length_cons] at hlen
 refine ⟨hd.perm hp, by have := h.len; omega, hs, fun q hq => ?_, fun q hq => ?_, fun q hq => ?_, h.asc, h.pos, h.idl⟩
 all_goals rcases List.mem_cons.1 (hp.subset hq) with rfl | hq'
 ·exact h2
 ·exact h.may q (hc.subset hq')
 ·exact h3
 ·exact h.time q (hc.subset hq')
 ·rw [h1]; exact h.were _ (zAa hx)
 ·exact h.were q (hc.subset hq')
theorem yPa {r : qV} {s : qO} (hr : zBv r) (h : yP r s) {who : Int} {f : zAk} (h0 : (zFm r s who f).1 = 0) : zAd s.B.1.length (zFm r s who f).2.1 (zFm r s who f).2.2 := by
 have hw := h.waits
 have hn := h.n
 have ht := h.tk
 unfold zFm at h0 ⊢
 cases hc : decide (f.2.2.1 ≥ 0) && decide (f.2.2.1 ≤ r.1 - 1) with
 | false => rw [hc] at h0; cases h0
 | true =>
 cases hc2 : decide (f.2.2.2.2.1 ≥ 1) && decide (f.2.2.2.2.1 ≤ 3) with
 | false => rw [hc, hc2] at h0; cases h0
 | true =>
 cases hc3 : decide (zIa r s.t (zBz who f) = 0) with
 | false => rw [hc, hc2, hc3] at h0; exact absurd h0 (vIb hc3)
 | true =>
 cases hc4 : decide (f.2.1 ∈ s.ids) with
 | true => rw [hc, hc2, hc3, hc4] at h0; cases h0
 | false =>
 cases hc5 : decide (200 ≤ s.ids.length) with
 | true => rw [hc, hc2, hc3, hc4, hc5] at h0; cases h0
 | false =>
 cases hc6 : (wK s.m f.2.1).isSome with
 | true => rw [hc, hc2, hc3, hc4, hc5, hc6] at h0; cases h0
 | false =>
 cases hc7 : decide (40 ≤ s.m.length) with
 | true => rw [hc, hc2, hc3, hc4, hc5, hc6, hc7] at h0; cases h0
 | false =>
 show zAd s.B.1.length (zFn s.m (zBz who f)) (zHz s.ids f.2.1)
 have hni : f.2.1 ∉ s.ids := vIb hc4
 have hi := vIb hc5
 have hm := vIb hc7
 have hchk := vIa hc3
 have hip : zHo r.1 s.t (zBz who f) = true := by
  unfold zIa at hchk
  cases hb : zHo r.1 s.t (zBz who f) with
  | true => rfl
  | false => rw [hb] at hchk; cases hchk
 unfold zHo at hip
 simp only [vIh, vIc, Bool.not_eq_true', decide_eq_false_iff_not] at hip
 obtain ⟨⟨p1, p2⟩, ⟨p3, p4⟩, p5, p6, p7, p8, p9, p10, p11, p12, p13, p14⟩ := hip
 have hpm := qG5 s.m (zBz who f)
 have hpi := yY6 s.ids f.2.1
 have hlen := hpm.length_eq
 have hlen2 := hpi.length_eq
 rw [List.length_cons] at hlen hlen2
 have hmay : yN s.B.1.length (zBz who f) := ⟨p1, by omega, p3, by omega, p9, p6, p7, p8, p10⟩
 have hin : ∀ x, x ∈ s.ids → x ∈ zHz s.ids f.2.1 := fun x hx => hpi.symm.subset (List.mem_cons_of_mem _ hx)
 have hdist : qS (zBz who f :: s.m) := List.pairwise_cons.2 ⟨fun q hq e => hni (by have := hw.were q hq; rw [← e] at this; exact this), hw.dist⟩
 refine ⟨hdist.perm hpm, by omega, qAm hw.sort _, fun q hq => ?_, fun q hq => ?_, fun q hq => ?_, yYx hw.asc hni, fun x hx => ?_, by omega⟩
 ·rcases List.mem_cons.1 (hpm.subset hq) with rfl | hq'
  ·exact hmay
  ·exact hw.may q hq'
 ·rcases List.mem_cons.1 (hpm.subset hq) with rfl | hq'
  ·exact ⟨p11, p12, p14⟩
  ·exact hw.time q hq'
 ·rcases List.mem_cons.1 (hpm.subset hq) with rfl | hq'
  ·exact hpi.symm.subset (List.mem_cons_self ..)
  ·exact hin _ (hw.were q hq')
 ·rcases List.mem_cons.1 (hpi.subset hx) with rfl | hx'
  ·exact p5
  ·exact hw.pos x hx'
theorem vG3 {r : qV} {s : qO} (h : yP r s) {who : Int} {f : zAk} (h0 : (zD7 r s who f).1 = 0) : zAd s.B.1.length (zD7 r s who f).2.1 s.ids := by
 have hw := h.waits
 unfold zD7 at h0 ⊢
 cases hx : wK s.m f.2.1 with
 | none => rw [hx] at h0; cases h0
 | some x =>
 rw [hx] at h0
 have hx1 := (zDh hx).1
 have hmem : s.m.getD x pd ∈ s.m := zAa hx1
 have hm := hw.may _ hmem
 have ht := hw.time _ hmem
 simp only at h0 ⊢
 cases hc : decide ((s.m.getD x pd).2.1 = who) with
 | false => rw [hc] at h0; cases h0
 | true =>
 rw [hc] at h0
 simp only [vIi, vIf] at h0 ⊢
 cases hc2 : decide (f.1 = 2) with
 | true => exact hw.sub (zFd _ _)
 | false =>
 rw [hc2] at h0
 simp only [vIf] at h0 ⊢
 cases hc3 : decide (f.1 = 4) with
 | true =>
  rw [hc3] at h0
  simp only [vIe] at h0 ⊢
  cases hc4 : decide (f.2.2.1 ≥ 1) && decide (f.2.2.1 ≤ 3) with
  | false => rw [hc4] at h0; cases h0
  | true =>
  cases hc5 : decide (zG6 r.2.2.1 r.2.2.2.1 s.t f.2.2.1 = 0) with
  | false => rw [hc4, hc5] at h0; exact absurd h0 (vIb hc5)
  | true =>
  simp only [vIh, vIc] at hc4
  obtain ⟨m1, m2, m3, m4, m5, m6, m7, m8, m9⟩ := hm
  exact hw.turn hx1 (qG5 _ _) (qAm (hw.sort.cut x) _) rfl ⟨m1, m2, m3, m4, m5, m6, m7, hc4.1, hc4.2⟩ ht
 | false =>
  rw [hc3] at h0
  simp only [vIf] at h0 ⊢
  cases hc4 : decide (f.2.2.1 = 0) with
  | true => exact hw.turn hx1 (ySj _ _) (yYw (hw.sort.cut x) _) rfl hm ht
  | false =>
   cases hc5 : decide (f.2.2.1 = 1) with
   | true => exact hw.turn hx1 (qG5 _ _) (qAm (hw.sort.cut x) _) rfl hm ht
   | false => rw [hc4, hc5] at h0; cases h0
theorem yNl {n : Int} (h : -1 ≤ n ∧ n ≤ 1152921504606846976) : vP n = true := by
 unfold vP; simp; omega
theorem zD2 {a : qK} : jB a = true ↔ (-4611686018427387904 < a.1 ∧ a.1 < 4611686018427387904) ∧ (0 ≤ a.2.1 ∧ a.2.1 ≤ 2305843009213693952) ∧ (0 ≤ a.2.2 ∧ a.2.2 ≤ 2305843009213693952) := by
 unfold jB; simp only [vIh, vIc]; omega
theorem wP.setBil {a : List qK} {b : jJ} {m : List Int} {p : jJ} (h : wP a b m p) {w i : Nat} (hw : w < a.length) (hi : i < a.length) {n : Int} (hn : -1 ≤ n ∧ n ≤ 1152921504606846976) : wP a (b.set w ((b.getD w []).set i n)) m p :=
  { h with
    bl := by rw [List.length_set]; exact h.bl
    br := fun j hj => by
      rw [vW]
      split
      · rw [List.length_set]; exact h.br w hw
      · exact h.br j hj
    bil := fun j hj k hk => by
      unfold cell
      rw [vW]
      split
      · rename_i e
        rw [vW]
        split
        · exact yNl hn
        · exact h.bil w hw k hk
      · exact h.bil j hj k hk }
theorem wP.setMul {a : List qK} {b : jJ} {m : List Int} {p : jJ} (h : wP a b m p) (w : Nat) {n : Int} (hn : -1 ≤ n ∧ n ≤ 1152921504606846976) : wP a b (m.set w n) p :=
  { h with
    ml := by rw [List.length_set]; exact h.ml
    mul := fun j hj => by
      rw [vW]
      split
      · exact yNl hn
      · exact h.mul j hj }
theorem wP.setAcct {a : List qK} {b : jJ} {m : List Int} {p : jJ} (h : wP a b m p) {a' : List qK} (hl : a'.length = a.length) (ha : ∀ i, i < a.length → jB (a'.getD i ad) = true) : wP a' b m p where
 n1 := by rw [hl]; exact h.n1
 n6 := by rw [hl]; exact h.n6
 bl := by rw [hl]; exact h.bl
 br := by rw [hl]; exact h.br
 ml := by rw [hl]; exact h.ml
 pl := by rw [hl]; exact h.pl
 pr := by rw [hl]; exact h.pr
 mul := by rw [hl]; exact h.mul
 bil := by rw [hl]; exact h.bil
 acct := by rw [hl]; exact ha
 net := by rw [hl]; exact h.net
 turn := by rw [hl]; exact h.turn
theorem yQa {n : Nat} {g : Nat → Int} {i : Nat} (hi : i < n) (d : Int) : qL (fun j => if j = i then g j + d else g j) n = qL g n + d := by
 have e : qL (fun j => if j = i then g j + d else g j) n = qL (fun j => g j + (if j = i then d else 0)) n := zB8 fun j _ => by
  by_cases h : j = i
  ·rw [if_pos h, if_pos h]
  ·rw [if_neg h, if_neg h]; omega
 rw [e, zLx, zH9, if_pos hi]
theorem yP.books {r : qV} {s : qO} (h : yP r s) {B : BT} (hb : yI B) (hl : B.1.length = s.B.1.length) (hbal : ∀ i, i < s.B.1.length → (B.1.getD i ad).1 = (s.B.1.getD i ad).1) (hc : ∀ i, i < s.B.1.length → (B.1.getD i ad).2.1 = (s.B.1.getD i ad).2.1) : yP r { s with B := B } where
 tk := h.tk
 bk := hb
 n := by show ((B.1.length : Nat) : Int) = r.1; rw [hl]; exact h.n
 hol := by show s.ho.length = B.1.length; rw [hl]; exact h.hol
 laid := by show ∀ i, i < B.1.length → _; rw [hl]; exact h.laid
 cred := by show ∀ i, i < B.1.length → _; rw [hl]; intro i hi; show (B.1.getD i ad).2.1 = _; rw [hc i hi]; exact h.cred i hi
 most := by show ∀ i, i < B.1.length → _; rw [hl]; intro i hi; show (B.1.getD i ad).2.1 ≤ _; rw [hc i hi]; exact h.most i hi
 waits := by show zAd B.1.length s.m s.ids; rw [hl]; exact h.waits
 sum := by show qL (fun i => (B.1.getD i ad).1) B.1.length = s.to; rw [hl, zB8 hbal]; exact h.sum
 tot := h.tot
 over := h.over
 none := h.none
theorem yP.queue {r : qV} {s : qO} (h : yP r s) (ho : s.ov = false) {m : List zB} {ids : List Int} (hw : zAd s.B.1.length m ids) : yP r { s with m := m, ids := ids } where
 tk := h.tk
 bk := h.bk
 n := h.n
 hol := h.hol
 laid := h.laid
 cred := h.cred
 most := h.most
 waits := hw
 sum := h.sum
 tot := h.tot
 over := h.over
 none := fun e => by rw [show s.ov = true from e] at ho; cases ho
theorem qH8 {a : List qK} {w i : Nat} {x : qK} (hw : w < a.length) : (a.set w x).getD i ad = if i = w then x else a.getD i ad := by
 rw [vW]
 by_cases e : i = w
 ·rw [if_pos e, if_pos ⟨e.symm, hw⟩]
 ·rw [if_neg e, if_neg (fun h => e h.1.symm)]
theorem vDs {r : qV} {s : qO} (h : yP r s) {who : Int} (hw : 0 ≤ who ∧ who < r.1) {f : zAk} (h0 : (zCl r s who f).1 = 0) : yP r (zCl r s who f).2 := by
 have hn := h.n
 have hb : wP s.B.1 s.B.2.1 s.B.2.2.1 s.B.2.2.2 := h.bk
 obtain ⟨w, rfl⟩ := Int.eq_ofNat_of_zero_le hw.1
 have hwn : w < s.B.1.length := by omega
 unfold zCl at h0 ⊢
 simp only [vIg] at h0 ⊢
 cases hc : decide (f.1 = 5) with
 | true =>
  rw [hc] at h0
  simp only [vIe] at h0 ⊢
  cases hc2 : decide (f.2.1 ≥ 0) && decide (f.2.1 ≤ r.1 - 1) with
  | false => rw [hc2] at h0; cases h0
  | true =>
  cases hc3 : decide (f.2.1 = (w : Int)) with
  | true => rw [hc2, hc3] at h0; cases h0
  | false =>
  cases hc4 : decide (f.2.2.1 ≥ -1) && decide (f.2.2.1 ≤ 1152921504606846976) with
  | false => rw [hc2, hc3, hc4] at h0; cases h0
  | true =>
  simp only [vIh, vIc] at hc2 hc4
  exact h.books (B := (s.B.1, s.B.2.1.set w ((s.B.2.1.getD w []).set f.2.1.toNat f.2.2.1), s.B.2.2.1, s.B.2.2.2)) (hb.setBil hwn (by omega) ⟨by omega, by omega⟩) rfl (fun _ _ => rfl) (fun _ _ => rfl)
 | false =>
  rw [hc] at h0
  simp only [vIf] at h0 ⊢
  cases hc2 : decide (f.1 = 6) with
  | true =>
   rw [hc2] at h0
   simp only [vIe] at h0 ⊢
   cases hc3 : decide (f.2.1 ≥ -1) && decide (f.2.1 ≤ 1152921504606846976) with
   | false => rw [hc3] at h0; cases h0
   | true =>
   simp only [vIh, vIc] at hc3
   exact h.books (B := (s.B.1, s.B.2.1, s.B.2.2.1.set w f.2.1, s.B.2.2.2)) (hb.setMul w ⟨by omega, by omega⟩) rfl (fun _ _ => rfl) (fun _ _ => rfl)
  | false =>
   rw [hc2] at h0
   simp only [vIf] at h0 ⊢
   cases hc3 : decide (f.2.1 ≥ 0) && decide (f.2.1 ≤ 1152921504606846976) with
   | false => rw [hc3] at h0; cases h0
   | true =>
   simp only [vIh, vIc] at hc3
   have hg : ∀ i, (s.B.1.set w ((s.B.1.getD w ad).1, (s.B.1.getD w ad).2.1, f.2.1)).getD i ad = if i = w then ((s.B.1.getD w ad).1, (s.B.1.getD w ad).2.1, f.2.1) else s.B.1.getD i ad := fun i => qH8 hwn
   refine h.books (B := (s.B.1.set w ((s.B.1.getD w ad).1, (s.B.1.getD w ad).2.1, f.2.1), s.B.2.1, s.B.2.2.1, s.B.2.2.2)) (hb.setAcct (by rw [List.length_set]) fun i hi => ?_) (by show (s.B.1.set _ _).length = _; rw [List.length_set]) (fun i hi => ?_) (fun i hi => ?_)
   ·rw [hg]
    split
    ·have := zD2.1 (hb.acct w hwn)
     rw [zD2]
     exact ⟨this.1, this.2.1, by show 0 ≤ f.2.1 ∧ f.2.1 ≤ 2305843009213693952; omega⟩
    ·exact hb.acct i hi
   ·show ((s.B.1.set w _).getD i ad).1 = _
    rw [hg]
    split
    ·rename_i e; rw [e]
    ·rfl
   ·show ((s.B.1.set w _).getD i ad).2.1 = _
    rw [hg]
    split
    ·rename_i e; rw [e]
    ·rfl
theorem vGl {r : qV} (hr : zBv r) {s : qO} (h : yP r s) {who : Int} (hw : 0 ≤ who ∧ who < r.1) {a many : Int} (h0 : (zCd r s who a many).1 = 0) : yP r (zCd r s who a many).2 := by
  have hn := h.n
  have hb : wP s.B.1 s.B.2.1 s.B.2.2.1 s.B.2.2.2 := h.bk
  obtain ⟨w, rfl⟩ := Int.eq_ofNat_of_zero_le hw.1
  have hwn : w < s.B.1.length := by omega
  have hol := h.hol
  unfold zCd at h0 ⊢
  simp only [vIg] at h0 ⊢
  cases hc : decide (a ≥ 0) && decide (a ≤ (r.2.1.length : Int) - 1) with
  | false => rw [hc] at h0; cases h0
  | true =>
  cases hc2 : decide (many ≥ 0) && decide (many ≤ 1099511627776) with
  | false => rw [hc, hc2] at h0; cases h0
  | true =>
  rw [hc, hc2] at h0
  simp only [vIi, vIf] at h0 ⊢
  simp only [vIh, vIc] at hc hc2
  have L2 := (h.laid w hwn).set (i := a.toNat) (by omega) (v := many) ⟨by omega, by omega⟩
  have hv0 := zVa L2
  obtain ⟨n, hne⟩ : ∃ n, n = zBw r.2.1 s.pr ((s.ho.getD w []).set a.toNat many) := ⟨_, rfl⟩
  rw [← hne] at h0 hv0 ⊢
  unfold zQs at h0 ⊢
  cases hc3 : decide (n > 1152921504606846976) with
  | true => rw [hc3] at h0; cases h0
  | false =>
  cases hc4 : decide (n < (s.B.1.getD w ad).2.1) && decide ((s.B.1.getD w ad).1 + n < 0) with
  | true => rw [hc3, hc4] at h0; cases h0
  | false =>
  have hc3 := vIb hc3
  have hg : ∀ i, (s.B.1.set w ((s.B.1.getD w ad).1, n, (s.B.1.getD w ad).2.2)).getD i ad = if i = w then ((s.B.1.getD w ad).1, n, (s.B.1.getD w ad).2.2) else s.B.1.getD i ad := fun i => qH8 hwn
  have hgh : ∀ i, (s.ho.set w ((s.ho.getD w []).set a.toNat many)).getD i [] = if i = w then (s.ho.getD w []).set a.toNat many else s.ho.getD i [] := fun i => by
    rw [vW]
    by_cases e : i = w
    · rw [if_pos e, if_pos ⟨e.symm, by omega⟩]
    · rw [if_neg e, if_neg (fun h => e h.1.symm)]
  simp only [vIf]
  have ebl : (s.B.1.set w ((s.B.1.getD w ad).1, n, (s.B.1.getD w ad).2.2)).length = s.B.1.length := List.length_set ..
  exact {
    tk := h.tk
    bk := hb.setAcct ebl fun i hi => by
      rw [hg]
      split
      · have := zD2.1 (hb.acct w hwn)
        rw [zD2]
        exact ⟨this.1, by show 0 ≤ n ∧ n ≤ 2305843009213693952; omega, this.2.2⟩
      · exact hb.acct i hi
    n := by show (((s.B.1.set w _).length : Nat) : Int) = r.1; rw [ebl]; exact h.n
    hol := by show (s.ho.set w _).length = (s.B.1.set w _).length; rw [ebl, List.length_set]; exact hol
    laid := by
      show ∀ i, i < (s.B.1.set w _).length → zBr r.2.1 s.pr ((s.ho.set w _).getD i [])
      rw [ebl]
      intro i hi
      rw [hgh]
      split
      · exact L2
      · exact h.laid i hi
    cred := by
      show ∀ i, i < (s.B.1.set w _).length → ((s.B.1.set w _).getD i ad).2.1 = zBw r.2.1 s.pr ((s.ho.set w _).getD i [])
      rw [ebl]
      intro i hi
      rw [hg, hgh]
      split
      · exact hne
      · exact h.cred i hi
    most := by
      show ∀ i, i < (s.B.1.set w _).length → ((s.B.1.set w _).getD i ad).2.1 ≤ _
      rw [ebl]
      intro i hi
      rw [hg]
      split
      · show n ≤ _; omega
      · exact h.most i hi
    waits := by show zAd (s.B.1.set w _).length s.m s.ids; rw [ebl]; exact h.waits
    sum := by
      show qL (fun i => ((s.B.1.set w _).getD i ad).1) (s.B.1.set w _).length = s.to
      rw [ebl, zB8 (h := fun i => (s.B.1.getD i ad).1) fun i _ => by
        rw [hg]
        split
        · rename_i e; rw [e]
        · rfl]
      exact h.sum
    tot := h.tot
    over := h.over
    none := h.none }
theorem qQu {r : qV} {s : qO} (h : yP r s) {i : Nat} (hi : i < s.B.1.length) {n : Int} (hz : (wM (s.B.1.getD i ad) n).2 = 0) (ht : 0 ≤ s.to + n ∧ s.to + n ≤ 1152921504606846976) :
    yP r (zZp s i (wM (s.B.1.getD i ad) n).1 (s.to + n)) := by
  have hb : wP s.B.1 s.B.2.1 s.B.2.2.1 s.B.2.2.2 := h.bk
  unfold wM at hz ⊢
  cases hc : jB ((s.B.1.getD i ad).1 + n, (s.B.1.getD i ad).2.1, (s.B.1.getD i ad).2.2) with
  | false => rw [hc] at hz; cases hz
  | true =>
  simp only [vIe]
  have hg : ∀ j, (s.B.1.set i ((s.B.1.getD i ad).1 + n, (s.B.1.getD i ad).2.1, (s.B.1.getD i ad).2.2)).getD j ad = if j = i then ((s.B.1.getD i ad).1 + n, (s.B.1.getD i ad).2.1, (s.B.1.getD i ad).2.2) else s.B.1.getD j ad := fun j => qH8 hi
  have ebl : (s.B.1.set i ((s.B.1.getD i ad).1 + n, (s.B.1.getD i ad).2.1, (s.B.1.getD i ad).2.2)).length = s.B.1.length := List.length_set ..
  unfold zZp
  exact {
    tk := h.tk
    bk := hb.setAcct ebl fun j hj => by
      rw [hg]
      split
      · exact hc
      · exact hb.acct j hj
    n := by show (((s.B.1.set i _).length : Nat) : Int) = r.1; rw [ebl]; exact h.n
    hol := by show s.ho.length = (s.B.1.set i _).length; rw [ebl]; exact h.hol
    laid := by show ∀ j, j < (s.B.1.set i _).length → _; rw [ebl]; exact h.laid
    cred := by
      show ∀ j, j < (s.B.1.set i _).length → ((s.B.1.set i _).getD j ad).2.1 = _
      rw [ebl]
      intro j hj
      rw [hg]
      split
      · rename_i e; rw [e]; exact h.cred i hi
      · exact h.cred j hj
    most := by
      show ∀ j, j < (s.B.1.set i _).length → ((s.B.1.set i _).getD j ad).2.1 ≤ _
      rw [ebl]
      intro j hj
      rw [hg]
      split
      · exact h.most i hi
      · exact h.most j hj
    waits := by show zAd (s.B.1.set i _).length s.m s.ids; rw [ebl]; exact h.waits
    sum := by
      show qL (fun j => ((s.B.1.set i _).getD j ad).1) (s.B.1.set i _).length = s.to + n
      rw [ebl, zB8 (h := fun j => if j = i then (s.B.1.getD j ad).1 + n else (s.B.1.getD j ad).1) fun j _ => by
        rw [hg]
        by_cases e : j = i
        · rw [if_pos e, if_pos e, e]
        · rw [if_neg e, if_neg e], yQa hi, h.sum]
    tot := ht
    over := h.over
    none := h.none }
theorem yQp {r : qV} {s : qO} (h : yP r s) {kd to n : Int} (h0 : (zBk r s kd to n).1 = 0) : yP r (zBk r s kd to n).2 ∧ (zBk r s kd to n).2.to = s.to + (if kd = 11 then -n else n) ∧ (zBk r s kd to n).2.m = s.m ∧ (zBk r s kd to n).2.ids = s.ids ∧ (zBk r s kd to n).2.t = s.t := by
 have hn := h.n
 have ht := h.tot
 unfold zBk at h0 ⊢
 cases hc : decide (to ≥ 0) && decide (to ≤ r.1 - 1) with
 | false => rw [hc] at h0; cases h0
 | true =>
 cases hc2 : decide (n ≥ 1) && decide (n ≤ 1099511627776) with
 | false => rw [hc, hc2] at h0; cases h0
 | true =>
 rw [hc, hc2] at h0
 simp only [vIi, vIf] at h0 ⊢
 simp only [vIh, vIc] at hc hc2
 have hi : to.toNat < s.B.1.length := by omega
 by_cases hk : kd = 11
 ·rw [vH8 hk] at h0 ⊢
  simp only [vIe] at h0 ⊢
  rw [if_pos hk]
  unfold zOv at h0 ⊢
  cases hc3 : decide ((s.B.1.getD to.toNat ad).1 + (s.B.1.getD to.toNat ad).2.1 - (s.B.1.getD to.toNat ad).2.2 < n) with
  | true => rw [hc3] at h0; cases h0
  | false =>
  cases hc4 : decide (s.to - n < 0) with
  | true => rw [hc3, hc4] at h0; cases h0
  | false =>
  cases hz : decide ((wM (s.B.1.getD to.toNat ad) (-n)).2 = 0) with
  | false => rw [hc3, hc4, hz] at h0; exact absurd h0 (vIb hz)
  | true =>
  cases hc5 : decide (s.to - n > 1152921504606846976) with
  | true => rw [hc3, hc4, hz, hc5] at h0; cases h0
  | false =>
  have hc4 := vIb hc4
  have := qQu h hi (n := -n) (vIa hz) (by omega)
  exact ⟨this, rfl, rfl, rfl, rfl⟩
 ·rw [vH9 hk] at h0 ⊢
  simp only [vIf] at h0 ⊢
  rw [if_neg hk]
  unfold inN at h0 ⊢
  cases hz : decide ((wM (s.B.1.getD to.toNat ad) n).2 = 0) with
  | false => rw [hz] at h0; exact absurd h0 (vIb hz)
  | true =>
  cases hc5 : decide (s.to + n > 1152921504606846976) with
  | true => rw [hz, hc5] at h0; cases h0
  | false =>
  have hc5 := vIb hc5
  exact ⟨qQu h hi (vIa hz) (by omega), rfl, rfl, rfl, rfl⟩
theorem yV7 {r : qV} {s : qO} (h : yP r s) {a p : Int} (h0 : (zCb r s a p).1 = 0) : yP r (zCb r s a p).2 := by
  have hb : wP s.B.1 s.B.2.1 s.B.2.2.1 s.B.2.2.2 := h.bk
  unfold zCb at h0 ⊢
  cases hc : decide (a ≥ 0) && decide (a ≤ (r.2.1.length : Int) - 1) with
  | false => rw [hc] at h0; cases h0
  | true =>
  cases hc2 : decide (p ≥ 0) && decide (p ≤ 1048576) with
  | false => rw [hc, hc2] at h0; cases h0
  | true =>
  rw [hc, hc2] at h0
  simp only [vIi, vIf] at h0 ⊢
  simp only [vIh, vIc] at hc hc2
  have hL : ∀ i, i < s.B.1.length → zBr r.2.1 (s.pr.set a.toNat p) (s.ho.getD i []) := fun i hi => (h.laid i hi).setP (by omega) ⟨by omega, by omega⟩
  generalize s.pr.set a.toNat p = pr at *
  unfold zOz at h0 ⊢
  cases hc3 : qH (fun j => !decide (zA4 r.2.1 pr s.ho j > 1152921504606846976)) s.B.1.length 0 with
  | false => rw [hc3] at h0; cases h0
  | true =>
  simp only [vIe]
  have hle : ∀ i, i < s.B.1.length → zA4 r.2.1 pr s.ho i ≤ 1152921504606846976 := fun i hi => by
    have := zAv.1 hc3 i hi
    simp only [Bool.not_eq_true', decide_eq_false_iff_not] at this
    omega
  have ebl := yC3 r.2.1 pr s.ho s.B.1
  have hg := fun (j : Nat) (hj : j < s.B.1.length) => qK5 r.2.1 pr s.ho s.B.1 hj
  exact {
    tk := h.tk
    bk := hb.setAcct ebl fun i hi => by
      rw [hg i hi]
      have := zD2.1 (hb.acct i hi)
      have h1 := zVa (hL i hi)
      have h2 := hle i hi
      rw [zD2]
      exact ⟨this.1, ⟨h1, by show zA4 r.2.1 pr s.ho i ≤ _; omega⟩, this.2.2⟩
    n := by show (((zA0 r.2.1 pr s.ho s.B.1).length : Nat) : Int) = r.1; rw [ebl]; exact h.n
    hol := by show s.ho.length = (zA0 r.2.1 pr s.ho s.B.1).length; rw [ebl]; exact h.hol
    laid := by show ∀ i, i < (zA0 r.2.1 pr s.ho s.B.1).length → _; rw [ebl]; exact hL
    cred := by
      show ∀ i, i < (zA0 r.2.1 pr s.ho s.B.1).length → ((zA0 r.2.1 pr s.ho s.B.1).getD i ad).2.1 = zBw r.2.1 pr (s.ho.getD i [])
      rw [ebl]
      intro i hi
      rw [hg i hi]; rfl
    most := by
      show ∀ i, i < (zA0 r.2.1 pr s.ho s.B.1).length → ((zA0 r.2.1 pr s.ho s.B.1).getD i ad).2.1 ≤ _
      rw [ebl]
      intro i hi
      rw [hg i hi]; exact hle i hi
    waits := by show zAd (zA0 r.2.1 pr s.ho s.B.1).length s.m s.ids; rw [ebl]; exact h.waits
    sum := by
      show qL (fun i => ((zA0 r.2.1 pr s.ho s.B.1).getD i ad).1) (zA0 r.2.1 pr s.ho s.B.1).length = s.to
      rw [ebl, zB8 (h := fun i => (s.B.1.getD i ad).1) fun i hi => by rw [hg i hi]]
      exact h.sum
    tot := h.tot
    over := h.over
    none := h.none }
abbrev zG4 := Int × zAk
theorem vBu (k : Nat) (kd : Int) : ∃ n, zMr k kd = some n ∧ -1 ≤ n ∧ n ≤ 6 := by
 have c : ∀ (b : Bool) (x y : Option Int), (∃ n, x = some n ∧ -1 ≤ n ∧ n ≤ 6) → (∃ n, y = some n ∧ -1 ≤ n ∧ n ≤ 6) → ∃ n, (bif b then x else y) = some n ∧ -1 ≤ n ∧ n ≤ 6 := by
  intro b x y hx hy
  cases b
  ·exact hy
  ·exact hx
 unfold zMr
 iterate 23 (refine c _ _ _ ⟨_, rfl, by decide, by decide⟩ ?_)
 exact ⟨_, rfl, by decide, by decide⟩
theorem yOj {k : Nat} {s : List Int} (hs : s.length ≤ 6) : ∀ (n i : Nat), s.length < i + n → i ≤ s.length → ∃ x, zQv k n s (s.length : Int) (i : Int) = some x
 | 0, i, h, g => by omega
 | n + 1, i, h, g => by
  show ∃ x, zS6 k (zQv k n) s (s.length : Int) (i : Int) = some x
  unfold zS6
  by_cases hi : i < s.length
  ·simp only [qB, vH8 hi, vIe, qT, vIg]
   cases decide (s.getD i 0 = 0) with
   | false => exact ⟨_, rfl⟩
   | true =>
    simp only [vIi, vIf]
    rw [qX hi (by omega)]
    exact yOj hs n (i + 1) (by omega) hi
  ·simp only [qB, vH9 hi, vIf]
   exact ⟨_, rfl⟩
theorem vEx {k : Nat} (hk : 10 ≤ k) (f : zAk) : ∃ b, zMz k f = some b := by
 unfold zMz
 obtain ⟨n, h1, h2, h3⟩ := vBu k f.1
 rw [h1]
 simp only [vId]
 by_cases h0 : n < 0
 ·rw [vH8 h0]; exact ⟨_, rfl⟩
 ·rw [vH9 h0, vH8 (show (0 : Int) ≤ n by omega), vH8 h3]
  simp only [vIf, Bool.and_true, vIe]
  have hl : (qY [f.2.1, f.2.2.1, f.2.2.2.1, f.2.2.2.2.1, f.2.2.2.2.2.1, f.2.2.2.2.2.2] n.toNat (6 - n.toNat)).length ≤ 6 := by
   unfold qY
   rw [List.length_take, List.length_drop]
   omega
  obtain ⟨x, hx⟩ := yOj (k := k) hl k 0 (by omega) (Nat.zero_le _)
  rw [show ((0 : Nat) : Int) = 0 from rfl] at hx
  rw [hx]
  cases x <;> exact ⟨_, rfl⟩
theorem yV8 (k : Nat) (a : Int) : zWg k a = some (decide (a ≥ 10) && decide (a ≤ 14)) := by
 unfold zWg; cases decide (a ≥ 10) <;> rfl
theorem vBi (k : Nat) (a : Int) : zOr k a = some (decide (a ≥ 1) && decide (a ≤ 14)) := by
 unfold zOr; cases decide (a ≥ 1) <;> rfl
def yIn (A B C D E F G b o : Bool) : Int :=
 bif !(D && C) then 5 else bif !b then 5 else bif B && C then (bif !E then 5 else bif o && !G then 7 else 0) else bif !(A && F) then 5 else bif o && !G then 7 else 0
theorem yZ7 : ∀ {A B C D E F G b o : Bool}, yIn A B C D E F G b o = 0 → (D && C && ((B && E) || (!B && A && F)) && (!o || G)) = true := by
 intro A B C D E F G b o h
 cases A <;> cases B <;> cases C <;> cases D <;> cases E <;> cases F <;> cases G <;> cases b <;> cases o <;> first | rfl | exact absurd h (by decide)
theorem ySd {k : Nat} (hk : 10 ≤ k) (r : qV) (s : qO) (c : zG4) : ∃ b, zR1 k r s.st c = some (yIn (decide (c.1 ≥ 0)) (decide (c.2.1 ≥ 10)) (decide (c.2.1 ≤ 14)) (decide (c.2.1 ≥ 1)) (decide (c.1 = -1)) (decide (c.1 < r.1)) (decide (c.2.1 = 9)) b s.ov) := by
 unfold zR1
 rw [yV8, vBi]
 simp only [vId]
 obtain ⟨b, hb⟩ := vEx hk c.2
 rw [hb]
 simp only [vId]
 have eo : s.st.2.2.2.2.2.2.2.2.2.2 = s.ov := rfl
 rw [eo]
 refine ⟨b, ?_⟩
 generalize decide (c.1 ≥ 0) = A
 generalize decide (c.2.1 ≥ 10) = B
 generalize decide (c.2.1 ≤ 14) = C
 generalize decide (c.2.1 ≥ 1) = D
 generalize decide (c.1 = -1) = E
 generalize decide (c.1 < r.1) = F
 generalize decide (c.2.1 = 9) = G
 generalize s.ov = o
 cases A <;> cases B <;> cases C <;> cases D <;> cases E <;> cases F <;> cases G <;> cases b <;> cases o <;> rfl
theorem vEq {k : Nat} (hk : 10 ≤ k) (r : qV) (s : qO) (c : zG4) : ∃ e, zR1 k r s.st c = some e ∧
  (e = 0 → ((10 ≤ c.2.1 ∧ c.2.1 ≤ 14 ∧ c.1 = -1) ∨ (1 ≤ c.2.1 ∧ c.2.1 ≤ 9 ∧ 0 ≤ c.1 ∧ c.1 < r.1)) ∧ (s.ov = true → c.2.1 = 9)) := by
 obtain ⟨b, hb⟩ := ySd hk r s c
 refine ⟨_, hb, fun e => ?_⟩
 have := yZ7 e
 simp only [vIh, Bool.or_eq_true, Bool.not_eq_true', vIc, decide_eq_false_iff_not] at this
 refine ⟨by omega, fun ho => ?_⟩
 rcases this.2 with g | g
 ·rw [ho] at g; cases g
 ·exact g
def yF (s t : qO) : Prop := ∀ i, i < s.B.1.length → (t.B.1.getD i ad).1 < (s.B.1.getD i ad).1 → 0 ≤ (t.B.1.getD i ad).1 + (t.B.1.getD i ad).2.1
theorem yF.same {s t : qO} (h : ∀ i, i < s.B.1.length → (t.B.1.getD i ad).1 = (s.B.1.getD i ad).1) : yF s t := fun i hi hlt => by rw [h i hi] at hlt; omega
theorem yF.refl (s : qO) : yF s s := yF.same fun _ _ => rfl
theorem yF.book {s t : qO} (h : t.B = s.B) : yF s t := yF.same fun _ _ => by rw [h]
theorem yF.set {s t : qO} {j : Nat} {a : qK} (h : t.B.1 = s.B.1.set j a) (ha : a.1 < (s.B.1.getD j ad).1 → 0 ≤ a.1 + a.2.1) : yF s t := fun i hi => by
 rw [h, vW]
 split
 ·next h => rw [← h.1]; exact ha
 ·omega
theorem vDi (r : qV) (s : qO) (who : Int) (f : zAk) : yF s (zCl r s who f).2 := by
 unfold zCl
 cases decide (f.1 = 5) with
 | true =>
  cases !((decide (f.2.1 ≥ 0) && decide (f.2.1 ≤ r.1 - 1)) && !decide (f.2.1 = who)) <;> cases !(decide (f.2.2.1 ≥ -1) && decide (f.2.2.1 ≤ 1152921504606846976)) <;> exact yF.same fun _ _ => rfl
 | false =>
  cases decide (f.1 = 6) with
  | true => cases !(decide (f.2.1 ≥ -1) && decide (f.2.1 ≤ 1152921504606846976)) <;> exact yF.same fun _ _ => rfl
  | false =>
   cases !(decide (f.2.1 ≥ 0) && decide (f.2.1 ≤ 1152921504606846976))
   ·exact yF.set (j := who.toNat) rfl fun h => absurd h (Int.lt_irrefl _)
   ·exact yF.refl s
theorem vGy (r : qV) (s : qO) (who a n : Int) : yF s (zCd r s who a n).2 := by
 unfold zCd
 cases !(decide (a ≥ 0) && decide (a ≤ (r.2.1.length : Int) - 1)) with
 | true => exact yF.refl s
 | false =>
 cases !(decide (n ≥ 0) && decide (n ≤ 1099511627776)) with
 | true => exact yF.refl s
 | false =>
 simp only [vIf]
 unfold zQs
 generalize (s.ho.getD who.toNat []).set a.toNat n = h
 cases decide (zBw r.2.1 s.pr h > 1152921504606846976) with
 | true => exact yF.refl s
 | false =>
  cases decide (zBw r.2.1 s.pr h < (s.B.1.getD who.toNat ad).2.1) && decide ((s.B.1.getD who.toNat ad).1 + zBw r.2.1 s.pr h < 0)
  ·exact yF.set (j := who.toNat) rfl fun h => absurd h (Int.lt_irrefl _)
  ·exact yF.refl s
theorem yVo (r : qV) (s : qO) (a p : Int) : yF s (zCb r s a p).2 := by
 unfold zCb
 cases !(decide (a ≥ 0) && decide (a ≤ (r.2.1.length : Int) - 1)) with
 | true => exact yF.refl s
 | false =>
 cases !(decide (p ≥ 0) && decide (p ≤ 1048576)) with
 | true => exact yF.refl s
 | false =>
 simp only [vIf]
 unfold zOz
 cases qH (fun j => !decide (zA4 r.2.1 (s.pr.set a.toNat p) s.ho j > 1152921504606846976)) s.B.1.length 0
 ·exact yF.refl s
 ·exact yF.same fun i hi => by show ((zA0 r.2.1 (s.pr.set a.toNat p) s.ho s.B.1).getD i ad).1 = _; rw [qK5 _ _ _ _ hi]
theorem yOu {r : qV} {s : qO} (h : yP r s) (kd : Int) {to n : Int} (h0 : (zBk r s kd to n).1 = 0) : yF s (zBk r s kd to n).2 := by
 have hn := h.n
 unfold zBk at h0 ⊢
 cases hc : decide (to ≥ 0) && decide (to ≤ r.1 - 1) with
 | false => rw [hc] at h0; cases h0
 | true =>
 cases hc2 : decide (n ≥ 1) && decide (n ≤ 1099511627776) with
 | false => rw [hc, hc2] at h0; cases h0
 | true =>
 rw [hc, hc2] at h0
 simp only [vIi, vIf] at h0 ⊢
 simp only [vIh, vIc] at hc hc2
 have ha := zD2.1 (h.bk.acct to.toNat (by omega))
 have hr : 0 ≤ (s.B.1.getD to.toNat ad).2.2 := ha.2.2.1
 cases hk : decide (kd = 11) with
 | true =>
  rw [hk] at h0
  simp only [vIe] at h0 ⊢
  unfold zOv at h0 ⊢
  cases h1 : decide ((s.B.1.getD to.toNat ad).1 + (s.B.1.getD to.toNat ad).2.1 - (s.B.1.getD to.toNat ad).2.2 < n) with
  | true => exact yF.refl s
  | false =>
  cases decide (s.to - n < 0) with
  | true => exact yF.refl s
  | false =>
  cases decide ((wM (s.B.1.getD to.toNat ad) (-n)).2 = 0) with
  | false => exact yF.refl s
  | true =>
  cases decide (s.to - n > 1152921504606846976) with
  | true => exact yF.refl s
  | false =>
   simp only [decide_eq_false_iff_not] at h1
   refine yF.set (j := to.toNat) (a := (wM (s.B.1.getD to.toNat ad) (-n)).1) rfl ?_
   unfold wM
   cases jB ((s.B.1.getD to.toNat ad).1 + -n, (s.B.1.getD to.toNat ad).2.1, (s.B.1.getD to.toNat ad).2.2)
   ·exact fun h => absurd h (Int.lt_irrefl _)
   ·show (s.B.1.getD to.toNat ad).1 + -n < _ → 0 ≤ (s.B.1.getD to.toNat ad).1 + -n + (s.B.1.getD to.toNat ad).2.1
    omega
 | false =>
  simp only [vIf]
  unfold inN
  cases decide ((wM (s.B.1.getD to.toNat ad) n).2 = 0) with
  | false => exact yF.refl s
  | true =>
  cases decide (s.to + n > 1152921504606846976) with
  | true => exact yF.refl s
  | false =>
   refine yF.set (j := to.toNat) (a := (wM (s.B.1.getD to.toNat ad) n).1) rfl ?_
   unfold wM
   cases jB ((s.B.1.getD to.toNat ad).1 + n, (s.B.1.getD to.toNat ad).2.1, (s.B.1.getD to.toNat ad).2.2)
   ·exact fun h => absurd h (Int.lt_irrefl _)
   ·show (s.B.1.getD to.toNat ad).1 + n < _ → _
    omega
structure zKc (r : qV) (s : qO) (f : zAk) (t : qO) (l : List vN) : Prop where
 inv : yP r t
 tk : t.t = s.t
 ov : t.ov = s.ov
 few : l.length ≤ 2
 to : t.to = s.to + (if f.1 = 10 then f.2.2.1 else if f.1 = 11 then -f.2.2.1 else 0)
 fell : yF s t
theorem yUf (r : qV) (s : qO) (who : Int) (f : zAk) : (zCl r s who f).2.t = s.t ∧ (zCl r s who f).2.ov = s.ov ∧ (zCl r s who f).2.to = s.to := by
 unfold zCl
 cases decide (f.1 = 5) with
 | true =>
  cases !((decide (f.2.1 ≥ 0) && decide (f.2.1 ≤ r.1 - 1)) && !decide (f.2.1 = who)) <;> cases !(decide (f.2.2.1 ≥ -1) && decide (f.2.2.1 ≤ 1152921504606846976)) <;> exact ⟨rfl, rfl, rfl⟩
 | false =>
  cases decide (f.1 = 6) with
  | true => cases !(decide (f.2.1 ≥ -1) && decide (f.2.1 ≤ 1152921504606846976)) <;> exact ⟨rfl, rfl, rfl⟩
  | false => cases !(decide (f.2.1 ≥ 0) && decide (f.2.1 ≤ 1152921504606846976)) <;> exact ⟨rfl, rfl, rfl⟩
theorem yPs (r : qV) (s : qO) (who a n : Int) : (zCd r s who a n).2.t = s.t ∧ (zCd r s who a n).2.ov = s.ov ∧ (zCd r s who a n).2.to = s.to := by
 unfold zCd
 cases !(decide (a ≥ 0) && decide (a ≤ (r.2.1.length : Int) - 1)) with
 | true => exact ⟨rfl, rfl, rfl⟩
 | false =>
 cases !(decide (n ≥ 0) && decide (n ≤ 1099511627776)) with
 | true => exact ⟨rfl, rfl, rfl⟩
 | false =>
 simp only [vIf]
 unfold zQs
 generalize (s.ho.getD who.toNat []).set a.toNat n = h
 cases decide (zBw r.2.1 s.pr h > 1152921504606846976) with
 | true => exact ⟨rfl, rfl, rfl⟩
 | false => cases decide (zBw r.2.1 s.pr h < (s.B.1.getD who.toNat ad).2.1) && decide ((s.B.1.getD who.toNat ad).1 + zBw r.2.1 s.pr h < 0) <;> exact ⟨rfl, rfl, rfl⟩
theorem vEv (r : qV) (s : qO) (a p : Int) : (zCb r s a p).2.t = s.t ∧ (zCb r s a p).2.ov = s.ov ∧ (zCb r s a p).2.to = s.to := by
 unfold zCb
 cases !(decide (a ≥ 0) && decide (a ≤ (r.2.1.length : Int) - 1)) with
 | true => exact ⟨rfl, rfl, rfl⟩
 | false =>
 cases !(decide (p ≥ 0) && decide (p ≤ 1048576)) with
 | true => exact ⟨rfl, rfl, rfl⟩
 | false =>
 simp only [vIf]
 unfold zOz
 cases qH (fun j => !decide (zA4 r.2.1 (s.pr.set a.toNat p) s.ho j > 1152921504606846976)) s.B.1.length 0 <;> exact ⟨rfl, rfl, rfl⟩
theorem vEp {r : qV} {s : qO} {kd to n : Int} : (zBk r s kd to n).2.ov = s.ov := by
 unfold zBk
 cases !(decide (to ≥ 0) && decide (to ≤ r.1 - 1)) with
 | true => rfl
 | false =>
 cases !(decide (n ≥ 1) && decide (n ≤ 1099511627776)) with
 | true => rfl
 | false =>
 simp only [vIf]
 cases decide (kd = 11) with
 | true =>
  simp only [vIe]
  unfold zOv
  cases decide ((s.B.1.getD to.toNat ad).1 + (s.B.1.getD to.toNat ad).2.1 - (s.B.1.getD to.toNat ad).2.2 < n) <;> cases decide (s.to - n < 0) <;> cases decide ((wM (s.B.1.getD to.toNat ad) (-n)).2 = 0) <;> cases decide (s.to - n > 1152921504606846976) <;> rfl
 | false =>
  simp only [vIf]
  unfold inN
  cases decide ((wM (s.B.1.getD to.toNat ad) n).2 = 0) <;> cases decide (s.to + n > 1152921504606846976) <;> rfl
theorem vB6 {r : qV} {s : qO} {who : Int} {f : zAk} : (zD7 r s who f).2.2.length ≤ 1 := by
 unfold zD7
 cases wK s.m f.2.1 with
 | none => exact Nat.zero_le _
 | some x =>
  simp only []
  cases !decide ((s.m.getD x pd).2.1 = who) with
  | true => exact Nat.zero_le _
  | false =>
  cases decide (f.1 = 2) with
  | true => exact Nat.le_refl _
  | false =>
  cases decide (f.1 = 4) with
  | true =>
   cases !(decide (f.2.2.1 ≥ 1) && decide (f.2.2.1 ≤ 3)) <;> cases !decide (zG6 r.2.2.1 r.2.2.2.1 s.t f.2.2.1 = 0) <;> exact Nat.zero_le _
  | false =>
  cases decide (f.2.2.1 = 0) <;> cases decide (f.2.2.1 = 1) <;> exact Nat.zero_le _
theorem yZf {k : Nat} (hk : 1000 ≤ k) {r : qV} (hr : zBv r) {s : qO} (h : yP r s) (ho : s.ov = false) {who : Int} (hw : 0 ≤ who ∧ who < r.1) {f : zAk} (hf : 1 ≤ f.1 ∧ f.1 ≤ 8) (x : vN) :
  ∃ e d, zSn k (dk r s who [x]) f = some (e, d) ∧ (e = 0 → ∃ t l, d = dk r t who l ∧ zKc r s f t l) := by
 unfold zSn
 have h10 : ¬ f.1 = 10 := by omega
 have h11 : ¬ f.1 = 11 := by omega
 have h0 : s.to = s.to + (if f.1 = 10 then f.2.2.1 else if f.1 = 11 then -f.2.2.1 else 0) := by rw [if_neg h10, if_neg h11]; omega
 by_cases h1 : f.1 = 1
 ·rw [vH8 h1]
  obtain ⟨d, e1, e2⟩ := yQx hk hr h.waits who [x] f
  simp only [vIe]
  rw [e1]
  refine ⟨_, d, rfl, fun e => ⟨_, _, e2 e, h.queue ho (yPa hr h e), rfl, rfl, by simp, h0, yF.book rfl⟩⟩
 rw [vH9 h1]
 by_cases hq : f.1 = 2 ∨ f.1 = 3 ∨ f.1 = 4
 ·obtain ⟨d, e1, e2⟩ := ySf hk h.waits who (l := [x]) (by simp) f
  have g : ∃ e d, (zHk k (dk r s who [x]) f).bind (fun x => some (x.1, x.2)) = some (e, d) ∧ (e = 0 → ∃ t l, d = dk r t who l ∧ zKc r s f t l) := by
   rw [e1]
   refine ⟨_, d, rfl, fun e => ⟨_, _, e2 e, h.queue ho (vG3 h e), rfl, rfl, ?_, h0, yF.book rfl⟩⟩
   have := vB6 (r := r) (s := s) (who := who) (f := f)
   rw [List.length_append]
   simp
   omega
  rcases hq with e | e | e
  ·rw [vH8 e]; exact g
  ·rw [vH9 (show ¬ f.1 = 2 by omega), vH8 e]; exact g
  ·rw [vH9 (show ¬ f.1 = 2 by omega), vH9 (show ¬ f.1 = 3 by omega), vH8 e]; exact g
 rw [vH9 (show ¬ f.1 = 2 by omega), vH9 (show ¬ f.1 = 3 by omega), vH9 (show ¬ f.1 = 4 by omega)]
 by_cases hq : f.1 = 5 ∨ f.1 = 6 ∨ f.1 = 7
 ·obtain ⟨d, e1, e2⟩ := vHr hk hr h.bk h.n hw [x] f
  have g : ∃ e d, (zIu k (dk r s who [x]) f).bind (fun x => some (x.1, x.2)) = some (e, d) ∧ (e = 0 → ∃ t l, d = dk r t who l ∧ zKc r s f t l) := by
   rw [e1]
   have hrest := yUf r s who f
   refine ⟨_, d, rfl, fun e => ⟨_, _, e2 e, vDs h hw e, hrest.1, hrest.2.1, by simp, hrest.2.2.trans h0, vDi r s who f⟩⟩
  rcases hq with e | e | e
  ·rw [vH8 e]; exact g
  ·rw [vH9 (show ¬ f.1 = 5 by omega), vH8 e]; exact g
  ·rw [vH9 (show ¬ f.1 = 5 by omega), vH9 (show ¬ f.1 = 6 by omega), vH8 e]; exact g
 rw [vH9 (show ¬ f.1 = 5 by omega), vH9 (show ¬ f.1 = 6 by omega), vH9 (show ¬ f.1 = 7 by omega), vH8 (show f.1 = 8 by omega)]
 obtain ⟨d, e1, e2⟩ := vA0 hk hr h hw [x] f.2.1 f.2.2.1
 simp only [vIe, vIf]
 rw [e1]
 have hrest := yPs r s who f.2.1 f.2.2.1
 exact ⟨_, d, rfl, fun e => ⟨_, _, e2 e, vGl hr h hw e, hrest.1, hrest.2.1, by simp, hrest.2.2.trans h0, vGy r s who _ _⟩⟩
theorem yQt {k : Nat} (hk : 1000 ≤ k) {r : qV} (hr : zBv r) {s : qO} (h : yP r s) (who : Int) {f : zAk} (hf : 10 ≤ f.1 ∧ f.1 ≤ 14) :
  ∃ e d, zZj k (jY r s who) f = some (e, d) ∧ (e = 0 → ∃ t l, d = dk r t who l ∧ zKc r s f t l) := by
 unfold zZj
 rw [vH9 (show ¬ f.1 = 1 by omega), vH9 (show ¬ f.1 = 2 by omega), vH9 (show ¬ f.1 = 3 by omega), vH9 (show ¬ f.1 = 4 by omega), vH9 (show ¬ f.1 = 5 by omega), vH9 (show ¬ f.1 = 6 by omega), vH9 (show ¬ f.1 = 7 by omega), vH9 (show ¬ f.1 = 8 by omega)]
 by_cases hq : f.1 = 10 ∨ f.1 = 11
 ·obtain ⟨d, e1, e2⟩ := vAl hk hr h who f.1 f.2.1 f.2.2.1
  have g : ∃ e d, (zNu k (jY r s who) f.1 f.2.1 f.2.2.1).bind (fun x => some (x.1, x.2)) = some (e, d) ∧ (e = 0 → ∃ t l, d = dk r t who l ∧ zKc r s f t l) := by
   rw [e1]
   refine ⟨_, d, rfl, fun e => ?_⟩
   obtain ⟨g1, g2, g3, g4, g5⟩ := yQp h e
   refine ⟨_, _, e2 e, g1, g5, vEp, by simp, ?_, yOu h _ e⟩
   rw [g2]
   rcases hq with e | e
   ·rw [if_neg (by omega), if_pos e]
   ·rw [if_pos e, if_neg (by omega), if_pos e]
  rcases hq with e | e
  ·rw [vH8 e]; exact g
  ·rw [vH9 (show ¬ f.1 = 10 by omega), vH8 e]; exact g
 have h0 : s.to = s.to + (if f.1 = 10 then f.2.2.1 else if f.1 = 11 then -f.2.2.1 else 0) := by rw [if_neg (by omega), if_neg (by omega)]; omega
 rw [vH9 (show ¬ f.1 = 10 by omega), vH9 (show ¬ f.1 = 11 by omega)]
 by_cases hp : f.1 = 12
 ·rw [vH8 hp]
  obtain ⟨d, e1, e2⟩ := vHj hk hr h who f.2.1 f.2.2.1
  simp only [vIe, vIf]
  rw [e1]
  have hrest := vEv r s f.2.1 f.2.2.1
  exact ⟨_, d, rfl, fun e => ⟨_, _, e2 e, yV7 h e, hrest.1, hrest.2.1, by simp, hrest.2.2.trans h0, yVo r s _ _⟩⟩
 ·rw [vH9 hp]
  exact ⟨_, _, rfl, fun _ => ⟨s, [], rfl, h, rfl, rfl, by simp, h0, yF.refl s⟩⟩
theorem vCu {k : Nat} (hk : 1000 ≤ k) {r : qV} {s : qO} (h : yP r s) {who : Int} (hw : 0 ≤ who ∧ who < r.1) : ∃ o, zTa k s.st who = some o := by
 have hm := h.waits.len
 have hn := h.n
 have hb : zE who s.B.1.length = true := zM9 hw.1 (by omega)
 unfold zTa
 have e1 : s.st.2.1 = s.B.1 := rfl
 have e2 : s.st.2.2.2.2.2.2.2.1 = s.m := rfl
 rw [e1, e2, hb, qUw (by omega) (by unfold yT; omega)]
 exact ⟨_, rfl⟩
structure Did (k : Nat) (r : qV) (s : qO) (c : zG4) (t : qO) (o : List vN) (e : Int) : Prop where
 inv : yP r t
 bad : e ≠ 0 → t = s ∧ o = []
 to : e = 0 → t.to = s.to + (if c.2.1 = 10 then c.2.2.2.1 else if c.2.1 = 11 then -c.2.2.2.1 else 0)
 still : t = s ∨ (t.ov = false → jL k t.B (wF t.m t.t) = none)
 fell : yF s t
theorem yF.kept {s t u : qO} (h : yF s t) (hl : t.B.1.length = s.B.1.length) (g : wN t.B u.B) : yF s u := fun i hi => by
 have h1 := h i hi
 have h2 := g.fell i (by omega)
 have h3 := g.cred i (by omega)
 omega
theorem yP.settled {r : qV} {s : qO} (h : yP r s) (ho : s.ov = false) {C : BT} (hc : yI C) (kc : wN s.B C) {m : List zB} (hm : List.Sublist m s.m) : yP r { s with B := C, m := m } := by
  have hl := kc.len
  exact {
    tk := h.tk
    bk := hc
    n := by show ((C.1.length : Nat) : Int) = r.1; rw [hl]; exact h.n
    hol := by show s.ho.length = C.1.length; rw [hl]; exact h.hol
    laid := by show ∀ i, i < C.1.length → _; rw [hl]; exact h.laid
    cred := by show ∀ i, i < C.1.length → _; rw [hl]; intro i hi; show (C.1.getD i ad).2.1 = _; rw [kc.cred i hi]; exact h.cred i hi
    most := by show ∀ i, i < C.1.length → _; rw [hl]; intro i hi; show (C.1.getD i ad).2.1 ≤ _; rw [kc.cred i hi]; exact h.most i hi
    waits := by show zAd C.1.length m s.ids; rw [hl]; exact h.waits.sub hm
    sum := by show qL (fun i => (C.1.getD i ad).1) C.1.length = s.to; rw [hl, kc.sum]; exact h.sum
    tot := h.tot
    over := h.over
    none := fun e => by rw [show s.ov = true from e] at ho; cases ho }
theorem yW7 {k : Nat} (hk : 1000 ≤ k) {r : qV} (hr : zBv r) {s : qO} (h : yP r s) (ho : s.ov = false) (c : zG4) (hc : c.2.1 = 14) :
    ∃ t o, (zNb k r.1 r.2.1 r.2.2.1 r.2.2.2.1 r.2.2.2.2 s.t s.B.1 s.B.2.1 s.B.2.2.1 s.B.2.2.2 s.pr s.ho s.m s.ids s.to s.ov).bind (fun x4 => some ((yZ x4), x4.2.2.2.2.2.2.2.2.2.2.2, (0 : Int))) = some (t.st, o, (0 : Int)) ∧ Did k r s c t o 0 := by
  have hcl := hr.cl
  have hpe := hr.pe
  have htk := h.tk
  have hn := h.n
  have hlt : s.t ≠ r.2.2.2.1 := by
    have := h.over
    rw [ho] at this
    exact vIb this.symm
  have hbk := h.bk
  have hm := h.waits.len
  rw [ho]
  obtain ⟨C, m', ov, o, e1, e2, e3, e4, e5⟩ := yXb (k := k) (by omega) hbk h.waits.dist h.waits.may (by omega) r.1 r.2.1 r.2.2.1 r.2.2.2.1 r.2.2.2.2 s.t (by omega) (by omega) s.pr s.ho s.ids s.to
  rw [e1]
  simp only [vId]
  have hl := e3.len
  refine ⟨{ s with t := s.t + 1, B := C, m := m', ov := ov }, o, rfl, ?_, fun e => absurd rfl e, fun _ => ?_, .inr e4, e3.fell⟩
  · exact {
      tk := by show 0 ≤ s.t + 1 ∧ s.t + 1 ≤ _; omega
      bk := e2.bk
      n := by show ((C.1.length : Nat) : Int) = r.1; rw [hl]; exact h.n
      hol := by show s.ho.length = C.1.length; rw [hl]; exact h.hol
      laid := by show ∀ i, i < C.1.length → _; rw [hl]; exact h.laid
      cred := by show ∀ i, i < C.1.length → _; rw [hl]; intro i hi; show (C.1.getD i ad).2.1 = _; rw [e3.cred i hi]; exact h.cred i hi
      most := by show ∀ i, i < C.1.length → _; rw [hl]; intro i hi; show (C.1.getD i ad).2.1 ≤ _; rw [e3.cred i hi]; exact h.most i hi
      waits := by show zAd C.1.length m' s.ids; rw [hl]; exact h.waits.sub e2.sub
      sum := by show qL (fun i => (C.1.getD i ad).1) C.1.length = s.to; rw [hl, e3.sum]; exact h.sum
      tot := h.tot
      over := e2.over
      none := e2.none }
  · show s.to = _
    rw [if_neg (by omega), if_neg (by omega)]
    omega
theorem qPd {k : Nat} (hk : 1000 ≤ k) {r : qV} (hr : zBv r) {t : qO} (h : yP r t) (ho : t.ov = false) (who : Int) {l : List vN} (hl : l.length ≤ 2) (f : zAk) :
    ∃ u o, ((zFs k t.t t.B.1 t.B.2.1 t.B.2.2.1 t.B.2.2.2 t.pr t.ho t.m t.ids t.to t.ov (decide (f.1 = 13))).bind fun x5 =>
      bif zY (l.length + x5.2.2.2.2.2.2.2.2.2.2.2.length) 64 then (let y0 : List vN := (l ++ x5.2.2.2.2.2.2.2.2.2.2.2)
       bif decide (f.1 = 1) then ((zCt k x5.2.2.2.2.2.2.2.1 f.2.1).bind fun x6 =>
        bif decide (x6 ≥ 0) then ((zG7 k (zSx ((0 : Int), dk r t who l) y0) 19 [f.2.1]).bind fun x7 =>
         some ((yZ x5), x7.2.2.2.2.2.2.2.2.2.2.2.2.2.2.2.2.2, (0 : Int)))
        else some ((yZ x5), y0, 0))
       else some ((yZ x5), y0, 0))
      else none) = some (u.st, o, (0 : Int)) ∧ yP r u ∧ u.to = t.to ∧ jL k u.B (wF u.m u.t) = none ∧ wN t.B u.B := by
  have hm := h.waits.len
  obtain ⟨C, m', d, e1, e2, e3, e4, e5, e6, e7⟩ := yO3 (k := k) (by omega) h.bk h.waits.dist h.waits.may (by omega) t.t t.pr t.ho t.ids t.to t.ov (decide (f.1 = 13))
  rw [e1]
  have hd : d.length ≤ 40 := by
    have := e6.length_eq
    rw [List.length_append] at this
    omega
  have hm' := e5.length_le
  have htl := zV9 d
  simp only [vId]
  rw [wA (n := l.length + (wV d).length) (by omega) (by omega)]
  simp only [vIe]
  have hu := h.settled ho e3 e4 e5
  have fin : ∀ o : List vN, ∃ u o', some (({ t with B := C, m := m' } : qO).st, o, (0 : Int)) = some (u.st, o', (0 : Int)) ∧ yP r u ∧ u.to = t.to ∧ jL k u.B (wF u.m u.t) = none ∧ wN t.B u.B := fun o => ⟨{ t with B := C, m := m' }, o, rfl, hu, rfl, e7, e4⟩
  cases decide (f.1 = 1) with
  | false => exact fin _
  | true =>
    simp only [vIe]
    rw [zRp (by omega) (by omega)]
    simp only [vId]
    cases decide (zHv m' f.2.1 ≥ 0) with
    | false => exact fin _
    | true =>
      simp only [vIe]
      have ej : zSx ((0 : Int), dk r t who l) (l ++ wV d) = dk r t who (l ++ wV d) := rfl
      rw [ej, yBd (by rw [List.length_append]; omega)]
      exact fin _
theorem vBy {k : Nat} (hk : 1000 ≤ k) {r : qV} (hr : zBv r) {s : qO} (h : yP r s) (c : zG4) :
  ∃ t o e, zH4 k r s.st c = some (t.st, o, e) ∧ Did k r s c t o e := by
 unfold zH4
 obtain ⟨e, he, hm⟩ := vEq (k := k) (by omega) r s c
 rw [he]
 simp only [vId]
 by_cases h0 : e = 0
 ·obtain ⟨hw, hov⟩ := hm h0
  rw [vH8 h0]
  simp only [vIi, vIf]
  by_cases h9 : c.2.1 = 9
  ·rw [vH8 h9]
   have hw' : 0 ≤ c.1 ∧ c.1 < r.1 := by omega
   obtain ⟨o, ho⟩ := vCu hk h hw'
   simp only [vIe]
   rw [ho]
   refine ⟨s, o, 0, rfl, h, fun e => absurd rfl e, fun _ => ?_, .inl rfl, yF.refl s⟩
   rw [if_neg (by omega), if_neg (by omega)]
   omega
  ·rw [vH9 h9]
   simp only [vIf]
   have ho : s.ov = false := by
    cases g : s.ov with
    | false => rfl
    | true => exact absurd (hov g) h9
   have fin : ∀ {t : qO} {l : List vN}, zKc r s c.2 t l → ∀ {x : Option (yBk × List vN × Int)}, (∃ u o, x = some (u.st, o, (0 : Int)) ∧ yP r u ∧ u.to = t.to ∧ jL k u.B (wF u.m u.t) = none ∧ wN t.B u.B) → ∃ t o e, x = some (t.st, o, e) ∧ Did k r s c t o e := by
    intro t l hd x ⟨u, o, g1, g2, g3, g4, g5⟩
    exact ⟨u, o, 0, g1, g2, fun e => absurd rfl e, fun _ => g3.trans hd.to, .inr fun _ => g4, hd.fell.kept (by have := hd.inv.n; have := h.n; omega) g5⟩
   by_cases hp : c.1 = -1
   ·rw [vH8 hp]
    have hf : 10 ≤ c.2.1 ∧ c.2.1 ≤ 14 := by omega
    obtain ⟨e, d, g1, g2⟩ := yQt hk hr h c.1 (f := c.2) hf
    have ed : jQ r (wH s.st c.1) = jY r s c.1 := rfl
    simp only [vIi, vIf]
    rw [ed, g1]
    simp only [vId]
    by_cases hz : e = 0
    ·obtain ⟨t, l, rfl, hd⟩ := g2 hz
     rw [vH8 hz]
     simp only [vIi, vIf]
     by_cases h14 : c.2.1 = 14
     ·rw [vH8 h14]
      simp only [vIe]
      obtain ⟨t, o, q1, q2⟩ := yW7 hk hr h ho c h14
      exact ⟨t, o, 0, q1, q2⟩
     ·rw [vH9 h14]
      simp only [vIf]
      exact fin hd (qPd hk hr hd.inv (hd.ov.trans ho) c.1 hd.few c.2)
    ·rw [vH9 hz]
     exact ⟨s, [], e, rfl, h, fun _ => ⟨rfl, rfl⟩, fun e' => absurd e' hz, .inl rfl, yF.refl s⟩
   ·rw [vH9 hp]
    have hf : 1 ≤ c.2.1 ∧ c.2.1 ≤ 8 := by omega
    have hw' : 0 ≤ c.1 ∧ c.1 < r.1 := by omega
    have ed : zSt k (jQ r (wH s.st c.1)) 15 [] = some (dk r s c.1 [zQu c.1 15 0]) := rfl
    obtain ⟨e, d, g1, g2⟩ := yZf hk hr h ho hw' (f := c.2) hf (zQu c.1 15 0)
    simp only [vIj, vIe]
    rw [ed]
    simp only [vId]
    rw [g1]
    simp only [vId]
    by_cases hz : e = 0
    ·obtain ⟨t, l, rfl, hd⟩ := g2 hz
     rw [vH8 hz, vH9 (show ¬ c.2.1 = 14 by omega)]
     simp only [vIi, vIf]
     exact fin hd (qPd hk hr hd.inv (hd.ov.trans ho) c.1 hd.few c.2)
    ·rw [vH9 hz]
     exact ⟨s, [], e, rfl, h, fun _ => ⟨rfl, rfl⟩, fun e' => absurd e' hz, .inl rfl, yF.refl s⟩
 ·rw [vH9 h0]
  exact ⟨s, [], e, rfl, h, fun _ => ⟨rfl, rfl⟩, fun e' => absurd e' h0, .inl rfl, yF.refl s⟩
def zEd (r : qV) : qO where
 t := 0
 B := (List.replicate r.1.toNat (0, 0, 0), List.replicate r.1.toNat (List.replicate r.1.toNat (-1)), List.replicate r.1.toNat (-1), List.replicate r.1.toNat (List.replicate r.1.toNat 0))
 pr := r.2.1.map Prod.fst
 ho := List.replicate r.1.toNat (List.replicate r.2.1.length 0)
 m := []
 ids := []
 to := 0
 ov := false
structure zRc (r : qV) : Prop where
 ok : zBv r
 inv : yP r (zEd r)
 new : zDd 1000 r = some (zEd r).st
theorem zS0 (n : Nat) : zAd n [] [] where
 dist := List.Pairwise.nil
 len := by decide
 sort := List.Pairwise.nil
 may := fun p h => absurd h List.not_mem_nil
 time := fun p h => absurd h List.not_mem_nil
 were := fun p h => absurd h List.not_mem_nil
 asc := List.Pairwise.nil
 pos := fun p h => absurd h List.not_mem_nil
 idl := by decide
def r0 : qV := (3, [(100, 1000), (7, 0)], 12, 20, 4)
def r1 : qV := (4, [(100, 1000), (7, 0)], 12, 20, 100)
def r2 : qV := (3, [], 20, 20, 4)
def r3 : qV := (3, [(100, 1000), (7, 0)], 0, 6, 1)
theorem zZ4 {pr h : List Int} (h1 : pr = [100, 7]) (h2 : h = [0, 0]) : zBr [(100, 1000), (7, 0)] pr h := by
 subst h1; subst h2
 exact ⟨by decide, rfl, rfl, by decide, by decide, by decide⟩
theorem zV8 {B : BT} (h : isB B.1 B.2.1 B.2.2.1 B.2.2.2 = true) : yI B := qJh.1 h
theorem yZa : zRc r0 := ⟨⟨by decide, by decide, by decide, by decide, by decide, by decide, by decide⟩,
  { tk := by decide, bk := zV8 (by kernel_rfl), n := rfl, hol := rfl,
    laid := fun i hi => by
      have e : ∀ i, i < (zEd r0).B.1.length → (zEd r0).ho.getD i [] = [0, 0] := by decide
      exact zZ4 rfl (e i hi)
    cred := by decide, most := by decide, waits := zS0 _, sum := by decide, tot := by decide, over := by decide, none := fun e => by cases e }, by kernel_rfl⟩
theorem yV6 : zRc r1 := ⟨⟨by decide, by decide, by decide, by decide, by decide, by decide, by decide⟩,
  { tk := by decide, bk := zV8 (by kernel_rfl), n := rfl, hol := rfl,
    laid := fun i hi => by
      have e : ∀ i, i < (zEd r1).B.1.length → (zEd r1).ho.getD i [] = [0, 0] := by decide
      exact zZ4 rfl (e i hi)
    cred := by decide, most := by decide, waits := zS0 _, sum := by decide, tot := by decide, over := by decide, none := fun e => by cases e }, by kernel_rfl⟩
theorem yR0 : zRc r2 := ⟨⟨by decide, by decide, by decide, by decide, by decide, by decide, by decide⟩,
  { tk := by decide, bk := zV8 (by kernel_rfl), n := rfl, hol := rfl,
    laid := fun i hi => by
      have e : ∀ i, i < (zEd r2).B.1.length → (zEd r2).ho.getD i [] = [] := by decide
      rw [e i hi]
      exact ⟨by decide, rfl, rfl, by decide, by decide, by decide⟩
    cred := by decide, most := by decide, waits := zS0 _, sum := by decide, tot := by decide, over := by decide, none := fun e => by cases e }, by kernel_rfl⟩
theorem yWl : zRc r3 := ⟨⟨by decide, by decide, by decide, by decide, by decide, by decide, by decide⟩,
  { tk := by decide, bk := zV8 (by kernel_rfl), n := rfl, hol := rfl,
    laid := fun i hi => by
      have e : ∀ i, i < (zEd r3).B.1.length → (zEd r3).ho.getD i [] = [0, 0] := by decide
      exact zZ4 rfl (e i hi)
    cred := by decide, most := by decide, waits := zS0 _, sum := by decide, tot := by decide, over := by decide, none := fun e => by cases e }, by kernel_rfl⟩
theorem vEn {k : Nat} (a : Int) : ∃ r, zP2 k a = some r ∧ zRc r := by
 unfold zP2
 cases decide (zAm .i64 a 3 = 1) with
 | true => exact ⟨r1, rfl, yV6⟩
 | false =>
  cases decide (zAm .i64 a 3 = 2) with
  | true => exact ⟨r2, rfl, yR0⟩
  | false =>
   cases decide (zAm .i64 a 3 = 3) with
   | true => exact ⟨r3, rfl, yWl⟩
   | false => exact ⟨r0, rfl, yZa⟩
theorem ySk : qE7 1000 = some true := by kernel_rfl
theorem vAc {k : Nat} (hk : 1000 ≤ k) {r : qV} (hr : zBv r) {s : qO} (h : yP r s) (c : zG4) :
  ∃ t o e, zUb k r s.st c = some (t.st, o, e) ∧ yP r t ∧ yF s t := by
 obtain ⟨t, o, e, h1, h2⟩ := vBy hk hr h c
 unfold zUb
 rw [h1]
 simp only [vId]
 by_cases hz : e = 0
 ·rw [vH8 hz]
  exact ⟨t, o, e, rfl, h2.inv, h2.fell⟩
 ·rw [vH9 hz]
  exact ⟨s, [], e, rfl, h, yF.refl s⟩
theorem vFf (k : Nat) {x y : Int} (hx : -4611686018427387904 < x ∧ x < 4611686018427387904) (hy : 0 ≤ y ∧ y ≤ 2305843009213693952) (z : Int) : zQo k x y z = some (decide (x + y < 0)) := by
 unfold zQo zLg
 have w1 : zC (9223372036854775807 - y) = 9223372036854775807 - y := yH (by omega) (by omega)
 have w2 : zC (x + y) = x + y := yH (by omega) (by omega)
 rw [w1, w2, vH9 (show ¬ x > 9223372036854775807 - y by omega), vH9 (show ¬ y < 0 by omega)]
 cases decide (y > 0) <;> rfl
theorem yZm {r : qV} {s t : qO} (hs : yP r s) (ht : yP r t) (h : yF s t) (b p b' p' : List (List Int)) (m m' : List Int) :
  zV6 1000 s.B.1 b m p t.B.1 b' m' p' = some true := by
 have n1 := hs.n
 have n2 := ht.n
 have n6 := hs.bk.n6
 unfold zV6
 rw [vH8 (show ((s.B.1.length : Nat) : Int) = ((t.B.1.length : Nat) : Int) by omega)]
 have := zEs (L := fun n i => zN8 1000 n t.B.1 (t.B.1.length : Int) i s.B.1 b m p) (N := t.B.1.length) (fun i => true) (.inl ()) (.inr false) (fun n => by
  show zI6 1000 _ t.B.1 t.B.1.length t.B.1.length s.B.1 b m p = _
  unfold zI6
  simp only [qB, vH9 (Nat.lt_irrefl _), vIf]) (fun n i hi => by
  show zI6 1000 _ t.B.1 t.B.1.length i s.B.1 b m p = _
  unfold zI6
  have ha := zD2.1 (ht.bk.acct i hi)
  have hi' : i < s.B.1.length := by omega
  have hf := h i hi'
  simp only [qT, qB, vIg, vH8 hi, vH8 hi', vIe, qX hi (show t.B.1.length < 9223372036854775808 by omega)]
  have e : zQo 1000 (t.B.1.getD i (0, 0, 0)).1 (t.B.1.getD i (0, 0, 0)).2.1 (t.B.1.getD i (0, 0, 0)).2.2 = some (decide ((t.B.1.getD i (0, 0, 0)).1 + (t.B.1.getD i (0, 0, 0)).2.1 < 0)) := vFf 1000 ha.1 ha.2.1 _
  rw [e]
  by_cases hlt : (t.B.1.getD i (0, 0, 0)).1 < (s.B.1.getD i (0, 0, 0)).1
  ·rw [vH8 hlt, vH9 (show ¬ (t.B.1.getD i (0, 0, 0)).1 + (t.B.1.getD i (0, 0, 0)).2.1 < 0 by have := hf hlt; exact Int.not_lt.2 this)]
   rfl
  ·rw [vH9 hlt]
   rfl) (n := 1000) (by omega)
 have e1 : qH (fun _ => true) t.B.1.length 0 = true := zAv.2 fun _ _ => rfl
 rw [e1] at this
 simp only [vIi, vIf]
 exact (congrArg (fun z => Option.bind z _) this).trans rfl
theorem yW3 {r : qV} {s t : qO} (hr : zBv r) (hs : yP r s) (ht : yP r t) (h : yF s t) (l : List zG4) (i : Int) :
  zN0 1000 1000 l i 0 r s.st t.st = some (.inl (l, i, r, s.st, t.st)) := by
 have n1 := hs.n
 have n2 := ht.n
 have n6 := hs.bk.n6
 have := zEs (L := fun n j => zN0 1000 n l i j r s.st t.st) (N := s.B.1.length) (fun i => true) (.inl (l, i, r, s.st, t.st)) (.inr false) (fun n => by
  show zJp 1000 _ l i s.B.1.length r s.st t.st = _
  unfold zJp
  rw [vH9 (by omega)]
  rfl) (fun n j hj => by
  show zJp 1000 _ l i j r s.st t.st = _
  unfold zJp
  have ha := zD2.1 (hs.bk.acct j hj)
  have hb := zD2.1 (ht.bk.acct j (by omega))
  have hf := h j hj
  have e1 : s.st.2.1 = s.B.1 := rfl
  have e2 : t.st.2.1 = t.B.1 := rfl
  rw [e1, e2, vH8 (show (j : Int) < r.1 by omega), zM9 (by omega) (by omega), zM9 (by omega) (by omega), vIg, qX hj (by omega)]
  simp only [vIe]
  have w2 : zC ((t.B.1.getD j (0, 0, 0)).1 + (t.B.1.getD j (0, 0, 0)).2.1) = (t.B.1.getD j (0, 0, 0)).1 + (t.B.1.getD j (0, 0, 0)).2.1 := yH (by have := hb.1; have := hb.2.1; omega) (by have := hb.1; have := hb.2.1; omega)
  rw [w2]
  cases decide (zC ((s.B.1.getD j (0, 0, 0)).1 + (s.B.1.getD j (0, 0, 0)).2.1) < 0) with
  | false => rfl
  | true =>
   by_cases hlt : (t.B.1.getD j (0, 0, 0)).1 < (s.B.1.getD j (0, 0, 0)).1
   ·rw [vH8 hlt, vH9 (show ¬ (t.B.1.getD j (0, 0, 0)).1 + (t.B.1.getD j (0, 0, 0)).2.1 < 0 by have := hf hlt; exact Int.not_lt.2 this)]
    rfl
   ·rw [vH9 hlt]
    rfl) (n := 1000) (by omega)
 have e1 : qH (fun _ => true) s.B.1.length 0 = true := zAv.2 fun _ _ => rfl
 rw [e1] at this
 exact this
theorem vEa (a : Int) (l : List zG4) : zWf 1000 a l = some true := by
 unfold zWf
 by_cases hl : (l.length : Int) > 120
 ·rw [vH8 hl]; rfl
 rw [vH9 hl]
 obtain ⟨r, hr, w⟩ := vEn (k := 1000) a
 simp only [vIf]
 rw [hr]
 simp only [vId]
 rw [w.new]
 simp only [vId]
 obtain ⟨t, h1, h2⟩ := wZ (L := fun n i (s : qO) => zOf 1000 n l i r s.st) (N := l.length) (fun t => (.inl () : Unit ⊕ Bool)) (fun _ t => yP r t) (fun n t _ => by
  show zJ9 1000 _ l (l.length : Int) r t.st = _
  unfold zJ9
  rw [vH9 (Int.lt_irrefl _)]
  rfl) (fun n i t hi ht => by
  obtain ⟨t', o, e, h1, h2, h3⟩ := vAc (k := 1000) (by decide) w.ok ht (l.getD i (0, 0, 0, 0, 0, 0, 0, 0))
  refine ⟨t', ?_, h2⟩
  have n1 := ht.n
  have n2 := h2.n
  show zJ9 1000 (zOf 1000 n) l (i : Int) r t.st = _
  unfold zJ9
  simp only [vIg, qT]
  rw [vH8 (show (i : Int) < l.length by omega), vH8 hi]
  simp only [vIe]
  rw [h1]
  simp only [vId]
  refine (congrArg (fun z => Option.bind z _) (yZm ht h2 h3 _ _ _ _ _ _)).trans ?_
  have e1 : ((t'.st.2.1.length : Nat) : Int) = r.1 := n2
  have e2 : ((t.st.2.1.length : Nat) : Int) = r.1 := n1
  simp only [vId, e1, e2, decide_true, vIi, vIf]
  rw [yW3 w.ok ht h2 h3]
  simp only [vId]
  rw [qX hi (by omega)]) (n := 1000) (by omega) w.inv
 rw [h1]
 simp only [vId]
 rw [ySk]
 rfl
end Go.Ab.Gi
