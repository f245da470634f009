/- part 38 -/
import Derived.Test.YtdhajnjinkknkaaGreatGiP0
import Derived.Test.YtdhajnjinkknkaaGreatGiXS
set_option linter.unusedVariables false
set_option linter.unusedSimpArgs false
namespace Go.Ab.Gi
open Go.Ab
abbrev OutW : Type := Int × Int × Int × Int × Int × Int × Int × Int
def ow : OutW := (0, 0, 0, 0, 0, 0, 0, 0)
def isS (id : Int) (o : OutW) : Bool := decide (o.2.2.1 = id) && decide (o.2.1 = 18)
def isE (id : Int) (o : OutW) : Bool := decide (o.2.2.1 = id) && (decide (o.2.1 = 20) || (decide (o.2.1 = 21) || decide (o.2.1 = 22)))
def nS (id : Int) (l : List OutW) : Nat := l.countP (isS id)
def nE (id : Int) (l : List OutW) : Nat := l.countP (isE id)
def onceB (o : List OutW) (id : Int) : Bool := (decide (nS id o = 0) && decide (nE id o = 1)) || (decide (nS id o = 2) && decide (nE id o = 0))
theorem takeS {α : Type} (l : List α) (i : Nat) (d : α) (h : i < l.length) : l.take (i + 1) = l.take i ++ [l.getD i d] := by
 rw [List.take_add_one, List.getD_eq_getElem?_getD]
 rw [List.getElem?_eq_getElem h]
 rfl
theorem nS_snoc (id : Int) (o : List OutW) (i : Nat) (hi : i < o.length) : nS id (o.take (i + 1)) = nS id (o.take i) + (if isS id (o.getD i ow) = true then 1 else 0) := by
 rw [takeS o i ow hi]
 unfold nS
 rw [List.countP_append, List.countP_cons, List.countP_nil]
 omega
theorem nE_snoc (id : Int) (o : List OutW) (i : Nat) (hi : i < o.length) : nE id (o.take (i + 1)) = nE id (o.take i) + (if isE id (o.getD i ow) = true then 1 else 0) := by
 rw [takeS o i ow hi]
 unfold nE
 rw [List.countP_append, List.countP_cons, List.countP_nil]
 omega
theorem onceK {id : Int} {x : OutW} : (x.2.2.1 ≠ id ∧ isS id x = false ∧ isE id x = false) ∨ (x.2.2.1 = id ∧ x.2.1 = 18 ∧ isS id x = true ∧ isE id x = false) ∨ (x.2.2.1 = id ∧ x.2.1 = 20 ∧ isS id x = false ∧ isE id x = true) ∨ (x.2.2.1 = id ∧ x.2.1 = 21 ∧ isS id x = false ∧ isE id x = true) ∨ (x.2.2.1 = id ∧ x.2.1 = 22 ∧ isS id x = false ∧ isE id x = true) ∨ (x.2.2.1 = id ∧ x.2.1 ≠ 18 ∧ x.2.1 ≠ 20 ∧ x.2.1 ≠ 21 ∧ x.2.1 ≠ 22 ∧ isS id x = false ∧ isE id x = false) := by
 unfold isS isE
 by_cases h : x.2.2.1 = id
 ·by_cases h1 : x.2.1 = 18
  ·exact .inr (.inl ⟨h, h1, by simp [h, h1], by simp [h, h1]⟩)
  ·by_cases h2 : x.2.1 = 20
   ·exact .inr (.inr (.inl ⟨h, h2, by simp [h, h2], by simp [h, h2]⟩))
   ·by_cases h3 : x.2.1 = 21
    ·exact .inr (.inr (.inr (.inl ⟨h, h3, by simp [h, h3], by simp [h, h3]⟩)))
    ·by_cases h4 : x.2.1 = 22
     ·exact .inr (.inr (.inr (.inr (.inl ⟨h, h4, by simp [h, h4], by simp [h, h4]⟩))))
     ·exact .inr (.inr (.inr (.inr (.inr ⟨h, h1, h2, h3, h4, by simp [h, h1], by simp [h, h2, h3, h4]⟩))))
 ·exact .inl ⟨h, by simp [h], by simp [h]⟩
theorem countS_le (id : Int) (o : List OutW) (i : Nat) : nS id (o.take i) ≤ o.length := by
 unfold nS
 have := List.countP_le_length (p := isS id) (l := o.take i)
 rw [List.length_take] at this
 omega
theorem countE_le (id : Int) (o : List OutW) (i : Nat) : nE id (o.take i) ≤ o.length := by
 unfold nE
 have := List.countP_le_length (p := isE id) (l := o.take i)
 rw [List.length_take] at this
 omega
theorem audit_L1_eq {k : Nat} {o : List OutW} (hk : o.length < k) (ho : o.length ≤ 1000000) (id : Int) (ids : List Int) (a b : Int) :
  audit_Once_L1 k k o id 0 0 ids a b o (o.length : Int) 0 = some (o, (nS id o : Int), (nE id o : Int), ids, a, b) := by
 obtain ⟨s', g1, g2⟩ := carryE0 (L := fun n i (s : Int × Int) => audit_Once_L1 k n o id s.1 s.2 ids a b o (o.length : Int) i) (N := o.length) (fun s => (o, s.1, s.2, ids, a, b)) (fun i s => s = ((nS id (o.take i) : Int), (nE id (o.take i) : Int))) (fun n s _ => by
  show audit_Once_L1b k _ o id s.1 s.2 ids a b o o.length o.length = _
  unfold audit_Once_L1b
  simp only [dec_lt, decide_eq_false (Nat.lt_irrefl _), cond_false]) (fun n i s hi hs => by
  show ∃ s', audit_Once_L1b k _ o id s.1 s.2 ids a b o o.length i = _ ∧ _
  have c1 := countS_le id o i
  have c2 := countE_le id o i
  have e1 : s.1 = (nS id (o.take i) : Int) := by rw [hs]
  have e2 : s.2 = (nE id (o.take i) : Int) := by rw [hs]
  have w1 : w64 (s.1 + 1) = s.1 + 1 := by rw [e1]; exact w64_id (by omega) (by omega)
  have w2 : w64 (s.2 + 1) = s.2 + 1 := by rw [e2]; exact w64_id (by omega) (by omega)
  unfold audit_Once_L1b
  simp only [dec_lt, boundOk_nat, Int.toNat_natCast, decide_eq_true hi, cond_true, w1, w2, w64_succ hi (show o.length < 9223372036854775808 by omega)]
  have n1 := nS_snoc id o i hi
  have n2 := nE_snoc id o i hi
  obtain ⟨x, hx⟩ : ∃ x, o.getD i ow = x := ⟨_, rfl⟩
  rw [hx] at n1 n2
  have hx' : o.getD i (0, 0, 0, 0, 0, 0, 0, 0) = x := hx
  simp only [hx']
  have goal : ∀ (p q : Int) (u v : Nat), nS id (o.take (i + 1)) = nS id (o.take i) + u → nE id (o.take (i + 1)) = nE id (o.take i) + v → p = s.1 + u → q = s.2 + v → (p, q) = ((nS id (o.take (i + 1)) : Int), (nE id (o.take (i + 1)) : Int)) := by
   intro p q u v h1 h2 hp hq
   rw [h1, h2, hp, hq, e1, e2, Int.natCast_add, Int.natCast_add]
  rcases onceK (id := id) (x := x) with ⟨h, h1, h2⟩ | ⟨h, h0, h1, h2⟩ | ⟨h, h0, h1, h2⟩ | ⟨h, h0, h1, h2⟩ | ⟨h, h0, h1, h2⟩ | ⟨h, h3, h4, h5, h6, h1, h2⟩
  ·rw [decide_eq_false h]
   exact ⟨(s.1, s.2), rfl, goal _ _ _ _ n1 n2 (by rw [h1]; simp) (by rw [h2]; simp)⟩
  ·rw [decide_eq_true h, decide_eq_true h0]
   exact ⟨(s.1 + 1, s.2), rfl, goal _ _ _ _ n1 n2 (by rw [h1]; simp) (by rw [h2]; simp)⟩
  ·rw [decide_eq_true h, decide_eq_false (show ¬ x.2.1 = 18 by omega), decide_eq_true h0]
   exact ⟨(s.1, s.2 + 1), rfl, goal _ _ _ _ n1 n2 (by rw [h1]; simp) (by rw [h2]; simp)⟩
  ·rw [decide_eq_true h, decide_eq_false (show ¬ x.2.1 = 18 by omega), decide_eq_false (show ¬ x.2.1 = 20 by omega), decide_eq_true h0]
   exact ⟨(s.1, s.2 + 1), rfl, goal _ _ _ _ n1 n2 (by rw [h1]; simp) (by rw [h2]; simp)⟩
  ·rw [decide_eq_true h, decide_eq_false (show ¬ x.2.1 = 18 by omega), decide_eq_false (show ¬ x.2.1 = 20 by omega), decide_eq_false (show ¬ x.2.1 = 21 by omega), decide_eq_true h0]
   exact ⟨(s.1, s.2 + 1), rfl, goal _ _ _ _ n1 n2 (by rw [h1]; simp) (by rw [h2]; simp)⟩
  ·rw [decide_eq_true h, decide_eq_false h3, decide_eq_false h4, decide_eq_false h5, decide_eq_false h6]
   exact ⟨(s.1, s.2), rfl, goal _ _ _ _ n1 n2 (by rw [h1]; simp) (by rw [h2]; simp)⟩) (s := (0, 0)) hk rfl
 have := g1.trans (by rw [g2, List.take_length])
 exact this
theorem ref_L1_eq {k : Nat} {o : List OutW} (hk : o.length < k) (ho : o.length ≤ 1000000) (ids : List Int) {j : Nat} (hj : j < ids.length) :
  giroref27_Once_L1 k k o ids j 0 0 0 = some (o, ids, (j : Int), (nE (ids.getD j 0) o : Int), (nS (ids.getD j 0) o : Int)) := by
 obtain ⟨id, hid⟩ : ∃ x, ids.getD j 0 = x := ⟨_, rfl⟩
 rw [hid]
 obtain ⟨s', g1, g2⟩ := carryE0 (L := fun n i (s : Int × Int) => giroref27_Once_L1 k n o ids j s.2 s.1 i) (N := o.length) (fun s => (o, ids, (j : Int), s.2, s.1)) (fun i s => s = ((nS id (o.take i) : Int), (nE id (o.take i) : Int))) (fun n s _ => by
  show giroref27_Once_L1b k _ o ids j s.2 s.1 o.length = _
  unfold giroref27_Once_L1b
  simp only [dec_lt, decide_eq_false (Nat.lt_irrefl _), cond_false]) (fun n i s hi hs => by
  show ∃ s', giroref27_Once_L1b k _ o ids j s.2 s.1 i = _ ∧ _
  have c1 := countS_le id o i
  have c2 := countE_le id o i
  have e1 : s.1 = (nS id (o.take i) : Int) := by rw [hs]
  have e2 : s.2 = (nE id (o.take i) : Int) := by rw [hs]
  have w1 : w64 (s.1 + 1) = s.1 + 1 := by rw [e1]; exact w64_id (by omega) (by omega)
  have w2 : w64 (s.2 + 1) = s.2 + 1 := by rw [e2]; exact w64_id (by omega) (by omega)
  unfold giroref27_Once_L1b
  simp only [dec_lt, boundOk_nat, Int.toNat_natCast, decide_eq_true hi, decide_eq_true hj, cond_true, w1, w2, hid, w64_succ hi (show o.length < 9223372036854775808 by omega)]
  have n1 := nS_snoc id o i hi
  have n2 := nE_snoc id o i hi
  obtain ⟨x, hx⟩ : ∃ x, o.getD i ow = x := ⟨_, rfl⟩
  rw [hx] at n1 n2
  have hx' : o.getD i (0, 0, 0, 0, 0, 0, 0, 0) = x := hx
  simp only [hx']
  have goal : ∀ (p q : Int) (u v : Nat), nS id (o.take (i + 1)) = nS id (o.take i) + u → nE id (o.take (i + 1)) = nE id (o.take i) + v → p = s.1 + u → q = s.2 + v → (p, q) = ((nS id (o.take (i + 1)) : Int), (nE id (o.take (i + 1)) : Int)) := by
   intro p q u v h1 h2 hp hq
   rw [h1, h2, hp, hq, e1, e2, Int.natCast_add, Int.natCast_add]
  rcases onceK (id := id) (x := x) with ⟨h, h1, h2⟩ | ⟨h, h0, h1, h2⟩ | ⟨h, h0, h1, h2⟩ | ⟨h, h0, h1, h2⟩ | ⟨h, h0, h1, h2⟩ | ⟨h, h3, h4, h5, h6, h1, h2⟩
  ·rw [decide_eq_false h]
   exact ⟨(s.1, s.2), rfl, goal _ _ _ _ n1 n2 (by rw [h1]; simp) (by rw [h2]; simp)⟩
  ·rw [decide_eq_true h, decide_eq_true h0]
   exact ⟨(s.1 + 1, s.2), rfl, goal _ _ _ _ n1 n2 (by rw [h1]; simp) (by rw [h2]; simp)⟩
  ·rw [decide_eq_true h, decide_eq_false (show ¬ x.2.1 = 18 by omega), decide_eq_true h0]
   exact ⟨(s.1, s.2 + 1), rfl, goal _ _ _ _ n1 n2 (by rw [h1]; simp) (by rw [h2]; simp)⟩
  ·rw [decide_eq_true h, decide_eq_false (show ¬ x.2.1 = 18 by omega), decide_eq_false (show ¬ x.2.1 = 20 by omega), decide_eq_true h0]
   exact ⟨(s.1, s.2 + 1), rfl, goal _ _ _ _ n1 n2 (by rw [h1]; simp) (by rw [h2]; simp)⟩
  ·rw [decide_eq_true h, decide_eq_false (show ¬ x.2.1 = 18 by omega), decide_eq_false (show ¬ x.2.1 = 20 by omega), decide_eq_false (show ¬ x.2.1 = 21 by omega), decide_eq_true h0]
   exact ⟨(s.1, s.2 + 1), rfl, goal _ _ _ _ n1 n2 (by rw [h1]; simp) (by rw [h2]; simp)⟩
  ·rw [decide_eq_true h, decide_eq_false h3, decide_eq_false h4, decide_eq_false h5, decide_eq_false h6]
   exact ⟨(s.1, s.2), rfl, goal _ _ _ _ n1 n2 (by rw [h1]; simp) (by rw [h2]; simp)⟩) (s := (0, 0)) hk rfl
 have := g1.trans (by rw [g2, List.take_length])
 exact this
theorem natEq (a b : Nat) : decide ((a : Int) = (b : Int)) = decide (a = b) := by
 by_cases h : a = b
 ·subst h; simp
 ·rw [decide_eq_false h, decide_eq_false (by omega)]
theorem audit_Once_eq {k : Nat} {o : List OutW} {ids : List Int} (hk : o.length < k) (ho : o.length ≤ 1000000) (hk' : ids.length < k) (hi : ids.length ≤ 1000000) :
  audit_Once k o ids = some (allF (fun j => onceB o (ids.getD j 0)) ids.length 0) := by
 have := scan0 (L := fun n i => audit_Once_L0 k n o ids (ids.length : Int) i) (N := ids.length) (fun j => onceB o (ids.getD j 0)) (.inl ()) (.inr false) (fun n => by
  show audit_Once_L0b k _ o ids ids.length ids.length = _
  unfold audit_Once_L0b
  simp only [dec_lt, decide_eq_false (Nat.lt_irrefl _), cond_false]) (fun n i hi => by
  show audit_Once_L0b k _ o ids ids.length i = _
  unfold audit_Once_L0b onceB
  simp only [dec_lt, boundOk_nat, Int.toNat_natCast, decide_eq_true hi, cond_true]
  rw [audit_L1_eq hk ho]
  simp only [Option.bind_some, w64_succ hi (show ids.length < 9223372036854775808 by omega)]
  generalize nS (ids.getD i 0) o = s
  generalize nE (ids.getD i 0) o = e
  have q0 : decide ((s : Int) = 0) = decide (s = 0) := natEq s 0
  have q2 : decide ((s : Int) = 2) = decide (s = 2) := natEq s 2
  have r0 : decide ((e : Int) = 0) = decide (e = 0) := natEq e 0
  have r1 : decide ((e : Int) = 1) = decide (e = 1) := natEq e 1
  rw [q0, q2, r0, r1]
  by_cases a : s = 0
  ·subst a
   by_cases b : e = 1
   ·subst b; rfl
   ·rw [decide_eq_false b]; rfl
  ·rw [decide_eq_false a]
   by_cases c : s = 2
   ·subst c
    cases decide (e = 0) <;> rfl
   ·rw [decide_eq_false c]; rfl) hk'
 unfold audit_Once
 rw [this]
 cases allF (fun j => onceB o (ids.getD j 0)) ids.length 0 <;> rfl
theorem giroref27_Once_eq {k : Nat} {o : List OutW} {ids : List Int} (hk : o.length < k) (ho : o.length ≤ 1000000) (hk' : ids.length < k) (hi : ids.length ≤ 1000000) :
  giroref27_Once k o ids = some (allF (fun j => onceB o (ids.getD j 0)) ids.length 0) := by
 have := scan0 (L := fun n i => giroref27_Once_L0 k n o ids i) (N := ids.length) (fun j => onceB o (ids.getD j 0)) (.inl ()) (.inr false) (fun n => by
  show giroref27_Once_L0b k _ o ids ids.length = _
  unfold giroref27_Once_L0b
  simp only [dec_lt, decide_eq_false (Nat.lt_irrefl _), cond_false]) (fun n i hi => by
  show giroref27_Once_L0b k _ o ids i = _
  unfold giroref27_Once_L0b onceB
  simp only [dec_lt, boundOk_nat, Int.toNat_natCast, decide_eq_true hi, cond_true]
  rw [ref_L1_eq hk ho ids hi]
  simp only [Option.bind_some, w64_succ hi (show ids.length < 9223372036854775808 by omega)]
  generalize nS (ids.getD i 0) o = s
  generalize nE (ids.getD i 0) o = e
  have q0 : decide ((s : Int) = 0) = decide (s = 0) := natEq s 0
  have q2 : decide ((s : Int) = 2) = decide (s = 2) := natEq s 2
  have r0 : decide ((e : Int) = 0) = decide (e = 0) := natEq e 0
  have r1 : decide ((e : Int) = 1) = decide (e = 1) := natEq e 1
  rw [q0, q2, r0, r1]
  by_cases a : e = 1
  ·subst a
   by_cases b : s = 0
   ·subst b; rfl
   ·rw [decide_eq_false b]
    simp
  ·rw [decide_eq_false a]
   by_cases c : e = 0
   ·subst c
    by_cases d : s = 2
    ·subst d; rfl
    ·rw [decide_eq_false d]; simp
   ·rw [decide_eq_false c]; simp) hk'
 unfold giroref27_Once
 rw [this]
 cases allF (fun j => onceB o (ids.getD j 0)) ids.length 0 <;> rfl
end Go.Ab.Gi
