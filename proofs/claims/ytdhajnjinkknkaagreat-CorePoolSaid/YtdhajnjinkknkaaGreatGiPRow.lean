/- part 15 -/
import Derived.Test.YtdhajnjinkknkaaGreatGiPView
set_option linter.unusedVariables false
set_option linter.unusedSimpArgs false
namespace Go.Ab.Gi
open Go.Ab
def fstF (p : Nat → Bool) : Nat → Nat → Option Nat
 | 0, _ => none
 | c + 1, i => bif p i then some i else fstF p c (i + 1)
def fstX : Option Nat → Unit ⊕ Int
 | some x => .inr (x : Int)
 | none => .inl ()
theorem scan_fst {L : Nat → Int → Option (Unit ⊕ Int)} {N : Nat} (bad : Nat → Bool) (hend : ∀ n, L (n + 1) (N : Int) = some (.inl ()))
  (hstep : ∀ n i, i < N → L (n + 1) (i : Int) = bif bad i then some (.inr (i : Int)) else L n ((i + 1 : Nat) : Int)) :
  ∀ c i n, i + c = N → c < n → L n (i : Int) = some (fstX (fstF bad c i))
 | 0, i, n, h, hn => by
  obtain ⟨n, rfl⟩ : ∃ m, n = m + 1 := ⟨n - 1, by omega⟩
  have : i = N := by omega
  subst this
  exact hend n
 | c + 1, i, n, h, hn => by
  obtain ⟨n, rfl⟩ : ∃ m, n = m + 1 := ⟨n - 1, by omega⟩
  rw [hstep n i (by omega)]
  unfold fstF
  cases hb : bad i with
  | true => rfl
  | false =>
   simp only [cond_false]
   exact scan_fst bad hend hstep c (i + 1) n (by omega) (by omega)
theorem fstF_some {p : Nat → Bool} : ∀ {c i x : Nat}, fstF p c i = some x → i ≤ x ∧ x < i + c ∧ p x = true ∧ ∀ j, i ≤ j → j < x → p j = false
 | 0, _, _, h => by cases h
 | c + 1, i, x, h => by
  unfold fstF at h
  cases hp : p i with
  | true =>
   rw [hp] at h
   simp only [cond_true, Option.some.injEq] at h
   subst h
   exact ⟨Nat.le_refl _, by omega, hp, fun j h1 h2 => absurd h1 (by omega)⟩
  | false =>
   rw [hp] at h
   simp only [cond_false] at h
   obtain ⟨h1, h2, h3, h4⟩ := fstF_some h
   refine ⟨by omega, by omega, h3, fun j j1 j2 => ?_⟩
   by_cases e : j = i
   ·subst e; exact hp
   ·exact h4 j (by omega) j2
theorem fstF_none {p : Nat → Bool} : ∀ {c i : Nat}, fstF p c i = none → ∀ j, i ≤ j → j < i + c → p j = false
 | 0, _, _ => fun j h1 h2 => absurd h1 (by omega)
 | c + 1, i, h => by
  unfold fstF at h
  cases hp : p i with
  | true =>
   rw [hp] at h
   cases h
  | false =>
   rw [hp] at h
   simp only [cond_false] at h
   intro j j1 j2
   by_cases e : j = i
   ·subst e; exact hp
   ·exact fstF_none h j (by omega) (by omega)
def posL (l : List PayT) (id : Int) : Option Nat := fstF (fun x => decide ((l.getD x pd).1 = id)) l.length 0
def posI (l : List PayT) (id : Int) : Int := match posL l id with | some x => (x : Int) | none => -1
theorem posL_some {l : List PayT} {id : Int} {x : Nat} (h : posL l id = some x) : x < l.length ∧ (l.getD x pd).1 = id := by
 obtain ⟨_, h2, h3, _⟩ := fstF_some h
 exact ⟨by omega, by simpa using h3⟩
theorem posL_none {l : List PayT} {id : Int} (h : posL l id = none) : ∀ p ∈ l, p.1 ≠ id := by
 intro p hp e
 obtain ⟨i, hi, e'⟩ := List.getElem_of_mem hp
 have := fstF_none h i (by omega) (by omega)
 rw [List.getD_eq_getElem?_getD, List.getElem?_eq_getElem hi, e'] at this
 simp [e] at this
theorem posL_mem {l : List PayT} {p : PayT} (h : p ∈ l) : ∃ x, posL l p.1 = some x := by
 cases e : posL l p.1 with
 | some x => exact ⟨x, rfl⟩
 | none => exact absurd rfl (posL_none e p h)
theorem row_Find_eq {k : Nat} {l : List PayT} (hk : l.length < k) (hl : l.length < 9223372036854775808) (id : Int) : row_Find k l id = some (posI l id) := by
 have := scan_fst (L := fun n i => slices_IndexFunc_Pay__row_Find_fn1_L0 k n l l.length i id) (N := l.length) (fun x => decide ((l.getD x pd).1 = id)) (fun n => by
  show slices_IndexFunc_Pay__row_Find_fn1_L0b k _ l l.length l.length id = _
  unfold slices_IndexFunc_Pay__row_Find_fn1_L0b
  simp only [dec_lt, decide_eq_false (Nat.lt_irrefl _), cond_false]) (fun n j hj => by
  show slices_IndexFunc_Pay__row_Find_fn1_L0b k _ l l.length j id = _
  unfold slices_IndexFunc_Pay__row_Find_fn1_L0b row_Find_fn1
  simp only [boundOk_nat, w64_succ hj hl, dec_lt, Int.toNat_natCast, decide_eq_true hj, cond_true]
  rfl) l.length 0 k (by omega) hk
 have h1 : slices_IndexFunc_Pay__row_Find_fn1_L0 k k l l.length 0 id = some (fstX (posL l id)) := this
 unfold row_Find slices_IndexFunc_Pay__row_Find_fn1 posI
 rw [h1]
 cases posL l id <;> rfl
def cutL (l : List PayT) (x : Nat) : List PayT := l.take x ++ l.drop (x + 1)
theorem cutL_length {l : List PayT} {x : Nat} (h : x < l.length) : (cutL l x).length = l.length - 1 := by
 unfold cutL
 rw [List.length_append, List.length_take, List.length_drop]
 omega
theorem cutL_sub (l : List PayT) (x : Nat) : List.Sublist (cutL l x) l := by
 unfold cutL
 conv => rhs; rw [← List.take_append_drop x l]
 exact List.Sublist.append (List.Sublist.refl _) (List.drop_sublist_drop_left l (by omega))
theorem Dist.cut {l : List PayT} (h : Dist l) (x : Nat) : Dist (cutL l x) := List.Pairwise.sublist (cutL_sub l x) h
theorem Delete_eq (k : Nat) {l : List PayT} {x : Nat} (hx : x < l.length) (hl : Small l) : slices_Delete_Pay k l x ((x + 1 : Nat) : Int) = some (cutL l x) := by
 unfold slices_Delete_Pay
 unfold Small at hl
 have c1 : (decide ((0 : Int) ≤ (x : Int))) = true := by simp
 have c2 : decide ((x : Int) ≤ ((x + 1 : Nat) : Int)) = true := decide_eq_true (by omega)
 have c3 : decide (((x + 1 : Nat) : Int) ≤ (l.length : Int)) = true := decide_eq_true (by omega)
 have c4 : decide ((l.length : Int) ≤ (l.length : Int)) = true := by simp
 have c5 : decide ((x : Int) = ((x + 1 : Nat) : Int)) = false := decide_eq_false (by omega)
 have c6 : decide ((x : Int) ≤ (l.length : Int)) = true := decide_eq_true (by omega)
 have c7 : decide ((0 : Int) ≤ ((x + 1 : Nat) : Int)) = true := decide_eq_true (by omega)
 have c8 : Nat.ble (x - 0) (0 + (x + 1)) = true := Nat.ble_eq_true_of_le (by omega)
 simp only [Int.toNat_natCast, c1, c2, c3, c4, c5, c6, c7, c8, Bool.and_true, cond_true, cond_false]
 have e0 : x - 0 + (l.length - (x + 1)) = l.length - 1 := by omega
 have e1 : List.take (x - 0) l ++ slc l (0 + (x + 1)) (l.length - (x + 1)) = cutL l x := by
  unfold slc cutL
  rw [Nat.sub_zero, Nat.zero_add]
  congr 1
  rw [List.take_of_length_le]
  rw [List.length_drop]
  exact Nat.le_refl _
 have e2 : (slc (cutL l x ++ List.drop (l.length - 1) l) 0 (l.length - 1)) = cutL l x := by
  unfold slc
  rw [List.drop_zero, List.take_append_of_le_length (by rw [cutL_length hx]; exact Nat.le_refl _), List.take_of_length_le (by rw [cutL_length hx]; exact Nat.le_refl _)]
 have e3 : (cutL l x ++ List.drop (l.length - 1) l).length = l.length := by
  rw [List.length_append, List.length_drop, cutL_length hx]; omega
 have c9 : decide ((0 : Int) ≤ ((cutL l x).length : Int)) = true := by simp
 have c10 : decide (((cutL l x).length : Int) ≤ (l.length : Int)) = true := decide_eq_true (by rw [cutL_length hx]; omega)
 have c11 : decide ((l.length : Int) ≤ ((l.length - 0 : Nat) : Int)) = true := by simp
 have e4 : List.take (0 + (cutL l x).length) (cutL l x ++ List.drop (l.length - 1) l) = cutL l x := by
  rw [Nat.zero_add, List.take_append_of_le_length (Nat.le_refl _), List.take_of_length_le (Nat.le_refl _)]
 simp only [e0, e1, e2, e3, c9, c10, c11, e4, Bool.and_true, cond_true, Option.some.injEq]
 rw [List.append_assoc, List.take_append_of_le_length (by rw [cutL_length hx]; exact Nat.le_refl _), List.take_of_length_le (by rw [cutL_length hx]; exact Nat.le_refl _)]
def dropR (l : List PayT) (id : Int) : List PayT × Int × Int × Int × Int × Int × Int × Int × Int := match posL l id with
 | some x => (cutL l x, (l.getD x pd).1, (l.getD x pd).2.1, (l.getD x pd).2.2.1, (l.getD x pd).2.2.2.1, (l.getD x pd).2.2.2.2.1, (l.getD x pd).2.2.2.2.2.1, (l.getD x pd).2.2.2.2.2.2, 0)
 | none => (l, 0, 0, 0, 0, 0, 0, 0, 4)
theorem row_Drop_eq {k : Nat} {l : List PayT} (hk : l.length < k) (hl : Small l) (id : Int) : row_Drop k l id = some (dropR l id) := by
 unfold Small at hl
 unfold row_Drop
 rw [row_Find_eq hk (by omega)]
 unfold posI dropR
 cases hp : posL l id with
 | none => rfl
 | some x =>
  have hx := (posL_some hp).1
  have e1 : decide ((x : Int) < 0) = false := decide_eq_false (by omega)
  have e2 : slices_Clone_Pay k l = some l := by
   unfold slices_Clone_Pay
   rw [roomB_true (by omega) (by omega)]
   rfl
  simp only [Option.bind_some, e1, cond_false, e2, w64_succ hx (show l.length < 9223372036854775808 by omega), Delete_eq k hx hl, boundOk_nat, decide_eq_true hx, cond_true, Int.toNat_natCast]
end Go.Ab.Gi
