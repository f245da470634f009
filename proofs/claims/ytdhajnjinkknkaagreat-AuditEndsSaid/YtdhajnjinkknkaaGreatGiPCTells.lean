/- part 39 -/
import Derived.Test.YtdhajnjinkknkaaGreatGiPCInv2
import Derived.Test.YtdhajnjinkknkaaGreatGiPOnceC
set_option linter.unusedVariables false
set_option linter.unusedSimpArgs false
namespace Go.Ab.Gi
open Go.Ab
def has (m : List PayT) (id : Int) : Prop := ∃ p ∈ m, p.1 = id
def Zer (o : List OutT) (id : Int) : Prop := nS id o = 0 ∧ nE id o = 0
theorem nS_append (id : Int) (a b : List OutT) : nS id (a ++ b) = nS id a + nS id b := List.countP_append
theorem nE_append (id : Int) (a b : List OutT) : nE id (a ++ b) = nE id a + nE id b := List.countP_append
theorem Zer.append {a b : List OutT} {id : Int} (h : Zer a id) (g : Zer b id) : Zer (a ++ b) id := by
 unfold Zer
 rw [nS_append, nE_append, h.1, h.2, g.1, g.2]
 exact ⟨rfl, rfl⟩
theorem once_left {a b : List OutT} {id : Int} (h : onceB a id = true) (g : Zer b id) : onceB (a ++ b) id = true := by
 unfold onceB
 rw [nS_append, nE_append, g.1, g.2]
 exact h
theorem once_right {a b : List OutT} {id : Int} (h : Zer a id) (g : onceB b id = true) : onceB (a ++ b) id = true := by
 unfold onceB
 rw [nS_append, nE_append, h.1, h.2, Nat.zero_add, Nat.zero_add]
 exact g
theorem zer_nil (id : Int) : Zer [] id := ⟨rfl, rfl⟩
theorem zer_one {x : OutT} (h : x.2.1 ≠ 18 ∧ x.2.1 ≠ 20 ∧ x.2.1 ≠ 21 ∧ x.2.1 ≠ 22) (id : Int) : Zer [x] id := by
 have a : isS id x = false := by unfold isS; simp [h.1]
 have b : isE id x = false := by unfold isE; simp [h.2.1, h.2.2.1, h.2.2.2]
 constructor
 ·show List.countP (isS id) [x] = 0
  rw [List.countP_cons, a]; rfl
 ·show List.countP (isE id) [x] = 0
  rw [List.countP_cons, b]; rfl
structure Tells (a b : List PayT) (o : List OutT) : Prop where
 sub : ∀ id, has b id → has a id
 keep : ∀ id, has b id → Zer o id
 gone : ∀ id, has a id → ¬ has b id → onceB o id = true
 rest : ∀ id, ¬ has a id → Zer o id
theorem Tells.refl (m : List PayT) {o : List OutT} (h : ∀ id, Zer o id) : Tells m m o := ⟨fun _ h => h, fun id _ => h id, fun _ h g => absurd h g, fun id _ => h id⟩
theorem Tells.trans {a b c : List PayT} {o p : List OutT} (h : Tells a b o) (g : Tells b c p) : Tells a c (o ++ p) where
 sub := fun id x => h.sub id (g.sub id x)
 keep := fun id x => (h.keep id (g.sub id x)).append (g.keep id x)
 gone := fun id x y => by
  by_cases z : has b id
  ·exact once_right (h.keep id z) (g.gone id z y)
  ·exact once_left (h.gone id x z) (g.rest id z)
 rest := fun id x => (h.rest id x).append (g.rest id (fun y => x (h.sub id y)))
theorem Tells.same {a b : List PayT} {o : List OutT} (h : ∀ id, has b id ↔ has a id) (z : ∀ id, Zer o id) : Tells a b o :=
 ⟨fun id x => (h id).1 x, fun id _ => z id, fun id x y => absurd ((h id).2 x) y, fun id _ => z id⟩
theorem has_perm {a b : List PayT} (h : List.Perm a b) (id : Int) : has a id ↔ has b id :=
 ⟨fun ⟨p, hp, e⟩ => ⟨p, h.subset hp, e⟩, fun ⟨p, hp, e⟩ => ⟨p, h.symm.subset hp, e⟩⟩
theorem has_cons (p : PayT) (l : List PayT) (id : Int) : has (p :: l) id ↔ p.1 = id ∨ has l id := by
 constructor
 ·rintro ⟨q, hq, e⟩
  rcases List.mem_cons.1 hq with rfl | hq
  ·exact .inl e
  ·exact .inr ⟨q, hq, e⟩
 ·rintro (e | ⟨q, hq, e⟩)
  ·exact ⟨p, List.mem_cons_self .., e⟩
  ·exact ⟨q, List.mem_cons_of_mem _ hq, e⟩
theorem has_append (a b : List PayT) (id : Int) : has (a ++ b) id ↔ has a id ∨ has b id := by
 constructor
 ·rintro ⟨q, hq, e⟩
  rcases List.mem_append.1 hq with hq | hq
  ·exact .inl ⟨q, hq, e⟩
  ·exact .inr ⟨q, hq, e⟩
 ·rintro (⟨q, hq, e⟩ | ⟨q, hq, e⟩)
  ·exact ⟨q, List.mem_append_left _ hq, e⟩
  ·exact ⟨q, List.mem_append_right _ hq, e⟩
def numB (id : Int) (p : PayT) : Bool := decide (p.1 = id)
theorem num_zero {l : List PayT} {id : Int} (h : ¬ has l id) : l.countP (numB id) = 0 := by
 rw [List.countP_eq_zero]
 intro p hp e
 exact h ⟨p, hp, of_decide_eq_true e⟩
theorem num_one {l : List PayT} (hd : Dist l) {id : Int} (h : has l id) : l.countP (numB id) = 1 := by
 obtain ⟨q, hq, e⟩ := h
 exact cnt_one (f := numB id) (q := q) hd hq (decide_eq_true e) (fun p _ hp => (of_decide_eq_true hp).trans e.symm)
theorem told_cnt (id : Int) : ∀ d : List PayT, nS id (toldL d) = 2 * d.countP (numB id) ∧ nE id (toldL d) = 0
 | [] => ⟨rfl, rfl⟩
 | p :: d => by
  obtain ⟨h1, h2⟩ := told_cnt id d
  have e : toldL (p :: d) = outP p.2.1 p :: outP p.2.2.1 p :: toldL d := rfl
  have s : ∀ w, isS id (outP w p) = numB id p := fun w => by unfold isS outP numB; simp
  have t : ∀ w, isE id (outP w p) = false := fun w => by unfold isE outP; simp
  unfold nS nE at *
  rw [e, List.countP_cons, List.countP_cons, List.countP_cons, List.countP_cons, List.countP_cons, h1, h2, s, s, t, t]
  refine ⟨by omega, rfl⟩
theorem late_cnt {kd : Int} (hk : kd = 21 ∨ kd = 22) (id : Int) (ps : List PayT) : nS id (ps.map (lateO kd)) = 0 ∧ nE id (ps.map (lateO kd)) = ps.countP (numB id) := by
 unfold nS nE
 rw [List.countP_map, List.countP_map]
 constructor
 ·rw [List.countP_eq_zero]
  intro p _ e
  have e' : isS id (lateO kd p) = true := e
  unfold isS lateO at e'
  rcases hk with rfl | rfl <;> simp at e'
 ·refine congrArg (fun f => List.countP f ps) (funext fun p => ?_)
  show isE id (lateO kd p) = numB id p
  unfold isE lateO numB
  rcases hk with rfl | rfl <;> simp
theorem close_zer (B : BT) (n : Nat) (id : Int) : Zer (closeL B n) id := by
 unfold Zer nS nE closeL
 rw [List.countP_map, List.countP_map, List.countP_eq_zero, List.countP_eq_zero]
 constructor
 ·intro i _ e
  have e' : isS id (closeO B i) = true := e
  unfold isS closeO at e'
  simp at e'
 ·intro i _ e
  have e' : isE id (closeO B i) = true := e
  unfold isE closeO at e'
  simp at e'
theorem told_tells {m d m' : List PayT} (hd : Dist m) (hp : List.Perm (d ++ m') m) : Tells m m' (toldL d) := by
 have hdd : Dist (d ++ m') := hd.perm hp
 have hd1 : Dist d := (List.pairwise_append.1 hdd).1
 have hm : ∀ id, has m id ↔ has d id ∨ has m' id := fun id => (has_perm hp id).symm.trans (has_append d m' id)
 have hno : ∀ id, has m' id → ¬ has d id := by
  rintro id ⟨p, hp', e⟩ ⟨q, hq, e'⟩
  exact hdd.not_in (l := []) hp' q hq (e'.trans e.symm)
 have z : ∀ id, ¬ has d id → Zer (toldL d) id := fun id h => by
  obtain ⟨h1, h2⟩ := told_cnt id d
  exact ⟨by rw [h1, num_zero h], h2⟩
 refine ⟨fun id h => (hm id).2 (.inr h), fun id h => z id (hno id h), fun id h g => ?_, fun id h => z id (fun x => h ((hm id).2 (.inl x)))⟩
 obtain ⟨h1, h2⟩ := told_cnt id d
 rcases (hm id).1 h with h | h
 ·rw [num_one hd1 h] at h1
  unfold onceB
  rw [h1, h2]
  rfl
 ·exact absurd h g
theorem late_tells {kd : Int} (hk : kd = 21 ∨ kd = 22) {m l m' : List PayT} (hd : Dist m) (hp : List.Perm (l ++ m') m) : Tells m m' (l.map (lateO kd)) := by
 have hdd : Dist (l ++ m') := hd.perm hp
 have hd1 : Dist l := (List.pairwise_append.1 hdd).1
 have hm : ∀ id, has m id ↔ has l id ∨ has m' id := fun id => (has_perm hp id).symm.trans (has_append l m' id)
 have hno : ∀ id, has m' id → ¬ has l id := by
  rintro id ⟨p, hp', e⟩ ⟨q, hq, e'⟩
  exact hdd.not_in (l := []) hp' q hq (e'.trans e.symm)
 have z : ∀ id, ¬ has l id → Zer (l.map (lateO kd)) id := fun id h => by
  obtain ⟨h1, h2⟩ := late_cnt hk id l
  exact ⟨h1, by rw [h2, num_zero h]⟩
 refine ⟨fun id h => (hm id).2 (.inr h), fun id h => z id (hno id h), fun id h g => ?_, fun id h => z id (fun x => h ((hm id).2 (.inl x)))⟩
 obtain ⟨h1, h2⟩ := late_cnt hk id l
 rcases (hm id).1 h with h | h
 ·rw [num_one hd1 h] at h2
  unfold onceB
  rw [h1, h2]
  rfl
 ·exact absurd h g
theorem cut_tells {m : List PayT} (hd : Dist m) {x : Nat} (hx : x < m.length) {id : Int} (hid : (m.getD x pd).1 = id) (who : Int) : Tells m (cutL m x) [noteO who 20 id] := by
 have hp := perm_cut hx
 have hm : ∀ i, has m i ↔ id = i ∨ has (cutL m x) i := fun i => by rw [← hid]; exact (has_perm hp i).symm.trans (has_cons _ _ i)
 have hdd : Dist (m.getD x pd :: cutL m x) := hd.perm hp
 have hno : ∀ i, has (cutL m x) i → i ≠ id := by
  rintro i ⟨p, hp', e⟩ e'
  exact (List.pairwise_cons.1 hdd).1 p hp' (by rw [hid, e, e'])
 have z : ∀ i, i ≠ id → Zer [noteO who 20 id] i := fun i h => by
  have a : isS i (noteO who 20 id) = false := by unfold isS noteO; simp
  have b : isE i (noteO who 20 id) = false := by unfold isE noteO; simp [Ne.symm h]
  constructor
  ·show List.countP (isS i) [noteO who 20 id] = 0
   rw [List.countP_cons, a]; rfl
  ·show List.countP (isE i) [noteO who 20 id] = 0
   rw [List.countP_cons, b]; rfl
 refine ⟨fun i h => (hm i).2 (.inr h), fun i h => z i (hno i h), fun i h g => ?_, fun i h => z i (fun e => h ((hm i).2 (.inl e.symm)))⟩
 rcases (hm i).1 h with rfl | h
 ·have a : isS id (noteO who 20 id) = false := by unfold isS noteO; simp
  have b : isE id (noteO who 20 id) = true := by unfold isE noteO; simp
  have c : nS id [noteO who 20 id] = 0 := by show List.countP (isS id) [noteO who 20 id] = 0; rw [List.countP_cons, a]; rfl
  have d : nE id [noteO who 20 id] = 1 := by show List.countP (isE id) [noteO who 20 id] = 1; rw [List.countP_cons, b]; rfl
  unfold onceB
  rw [c, d]
  rfl
 ·exact absurd h g
theorem turn_same {m : List PayT} {x : Nat} (hx : x < m.length) {p : PayT} {m' : List PayT} (hp : List.Perm m' (p :: cutL m x)) (h1 : p.1 = (m.getD x pd).1) (id : Int) : has m' id ↔ has m id := by
 rw [has_perm hp, has_cons, h1, ← has_cons, has_perm (perm_cut hx)]
theorem wait_tells {r : RulesT} {s : StR} (h : Inv r s) {who : Int} {f : MsgT} (h0 : (waitS r s who f).1 = 0) : Tells s.m (waitS r s who f).2.1 (waitS r s who f).2.2 := by
 have hw := h.waits
 unfold waitS at h0 ⊢
 cases hx : posL s.m f.2.1 with
 | none => rw [hx] at h0; cases h0
 | some x =>
 rw [hx] at h0
 have hx1 := (posL_some hx).1
 have hx2 := (posL_some hx).2
 simp only at h0 ⊢
 cases hc : decide ((s.m.getD x pd).2.1 = who) with
 | false => rw [hc] at h0; cases h0
 | true =>
 rw [hc] at h0
 simp only [Bool.not_true, cond_false] at h0 ⊢
 cases hc2 : decide (f.1 = 2) with
 | true => exact cut_tells hw.dist hx1 hx2 who
 | false =>
 rw [hc2] at h0
 simp only [cond_false] at h0 ⊢
 cases hc3 : decide (f.1 = 4) with
 | true =>
  rw [hc3] at h0
  simp only [cond_true] at h0 ⊢
  cases hc4 : decide (f.2.2.1 ≥ 1) && decide (f.2.2.1 ≤ 3) with
  | false => rw [hc4] at h0; cases h0
  | true =>
  cases hc5 : decide (mayS r.2.2.1 r.2.2.2.1 s.t f.2.2.1 = 0) with
  | false => rw [hc4, hc5] at h0; exact absurd h0 (of_decide_eq_false hc5)
  | true => exact Tells.same (turn_same hx1 (putL_perm _ _) rfl) (fun id => zer_nil id)
 | false =>
  rw [hc3] at h0
  simp only [cond_false] at h0 ⊢
  cases hc4 : decide (f.2.2.1 = 0) with
  | true => exact Tells.same (turn_same hx1 (frontL_perm _ _) rfl) (fun id => zer_nil id)
  | false =>
   cases hc5 : decide (f.2.2.1 = 1) with
   | true => exact Tells.same (turn_same hx1 (putL_perm _ _) rfl) (fun id => zer_nil id)
   | false => rw [hc4, hc5] at h0; cases h0
structure Grew (s : StR) (m1 : List PayT) (ids : List Int) : Prop where
 old : ∀ id, has s.m id → has m1 id
 new : ∀ id, has m1 id → has s.m id ∨ id ∉ s.ids
 ids : ∀ id, id ∈ ids ↔ id ∈ s.ids ∨ has m1 id
theorem Grew.refl {r : RulesT} {s : StR} (h : Inv r s) : Grew s s.m s.ids :=
 ⟨fun _ h => h, fun _ h => .inl h, fun id => ⟨.inl, fun x => x.elim id' (fun ⟨p, hp, e⟩ => e ▸ h.waits.were p hp)⟩⟩
 where id' {a : Prop} : a → a := fun h => h
theorem pay_grew {r : RulesT} {s : StR} (hr : RulesOK r) (h : Inv r s) {who : Int} {f : MsgT} (h0 : (payS r s who f).1 = 0) : Grew s (payS r s who f).2.1 (payS r s who f).2.2 := by
 have hw := h.waits
 unfold payS at h0 ⊢
 cases hc : decide (f.2.2.1 ≥ 0) && decide (f.2.2.1 ≤ r.1 - 1) with
 | false => rw [hc] at h0; cases h0
 | true =>
 cases hc2 : decide (f.2.2.2.2.1 ≥ 1) && decide (f.2.2.2.2.1 ≤ 3) with
 | false => rw [hc, hc2] at h0; cases h0
 | true =>
 cases hc3 : decide (checkS r s.t (payF who f) = 0) with
 | false => rw [hc, hc2, hc3] at h0; exact absurd h0 (of_decide_eq_false hc3)
 | true =>
 cases hc4 : decide (f.2.1 ∈ s.ids) with
 | true => rw [hc, hc2, hc3, hc4] at h0; cases h0
 | false =>
 cases hc5 : decide (200 ≤ s.ids.length) with
 | true => rw [hc, hc2, hc3, hc4, hc5] at h0; cases h0
 | false =>
 cases hc6 : (posL s.m f.2.1).isSome with
 | true => rw [hc, hc2, hc3, hc4, hc5, hc6] at h0; cases h0
 | false =>
 cases hc7 : decide (40 ≤ s.m.length) with
 | true => rw [hc, hc2, hc3, hc4, hc5, hc6, hc7] at h0; cases h0
 | false =>
 have hn : f.2.1 ∉ s.ids := of_decide_eq_false hc4
 have hm : ∀ id, has (putL s.m (payF who f)) id ↔ f.2.1 = id ∨ has s.m id := fun id => (has_perm (putL_perm _ _) id).trans (has_cons _ _ id)
 show Grew s (putL s.m (payF who f)) (addI s.ids f.2.1)
 refine ⟨fun id x => (hm id).2 (.inr x), fun id x => ?_, fun id => ?_⟩
 ·rcases (hm id).1 x with rfl | x
  ·exact .inr hn
  ·exact .inl x
 ·have hp := addI_perm s.ids f.2.1
  constructor
  ·intro x
   rcases List.mem_cons.1 (hp.subset x) with rfl | x
   ·exact .inr ((hm _).2 (.inl rfl))
   ·exact .inl x
  ·rintro (x | x)
   ·exact hp.symm.subset (List.mem_cons_of_mem _ x)
   ·rcases (hm id).1 x with rfl | ⟨p, hp', e⟩
    ·exact hp.symm.subset (List.mem_cons_self ..)
    ·exact hp.symm.subset (List.mem_cons_of_mem _ (e ▸ hw.were p hp'))
end Go.Ab.Gi
