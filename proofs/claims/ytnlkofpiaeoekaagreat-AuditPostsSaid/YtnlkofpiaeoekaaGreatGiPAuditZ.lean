/- audit.Zero and giroref27.Zero, Floors: the same. -/
import Derived.Test.YtnlkofpiaeoekaaGreatGiPAudit
set_option linter.unusedVariables false
set_option linter.unusedSimpArgs false
namespace Go.Ab.Gi
open Go.Ab

theorem sumN_neg' (g : Nat → Int) : ∀ n, sumN (fun j => - g j) n = - sumN g n
  | 0 => rfl
  | n + 1 => by
    show sumN _ n + - g n = -(sumN g n + g n)
    rw [sumN_neg' g n]; omega

theorem sumN_swap' (g : Nat → Nat → Int) (m : Nat) : ∀ n, sumN (fun i => sumN (fun j => g i j) m) n = sumN (fun j => sumN (fun i => g i j) n) m
  | 0 => (sumN_zero m).symm
  | n + 1 => by
    show sumN _ n + sumN _ m = sumN (fun j => sumN (fun i => g i j) n + g n j) m
    rw [sumN_swap' g m n, sumN_add]

theorem sumL_N {α : Type} (f : α → Int) (d : α) : ∀ (l : List α) (n : Nat), n ≤ l.length → sumL f (l.take n) = sumN (fun i => f (l.getD i d)) n
  | l, 0, _ => by simp [sumL, sumN]
  | l, n + 1, h => by
    show _ = sumN _ n + _
    rw [← sumL_N f d l n (by omega)]
    have : l.take (n + 1) = l.take n ++ [l.getD n d] := by
      rw [List.take_add_one, List.getD_eq_getElem?_getD, List.getElem?_eq_getElem (by omega)]
      rfl
    rw [this, sumL_append]
    simp [sumL]

theorem sumI_flatten : ∀ p : Mtx, sumI p.flatten = sumL sumI p
  | [] => rfl
  | r :: p => by
    show sumL _ (r ++ p.flatten) = sumI r + sumL sumI p
    rw [sumL_append, ← sumI_flatten p]
    rfl

theorem anti_sum {p : Mtx} (hsq : ∀ i, i < p.length → (p.getD i []).length = p.length) (ha : antB p = true) : sumI p.flatten = 0 := by
  have h1 : sumI p.flatten = sumN (fun i => sumN (fun j => at2 p i j) p.length) p.length := by
    rw [sumI_flatten]
    have := sumL_N sumI [] p p.length (Nat.le_refl _)
    rw [List.take_length] at this
    rw [this]
    refine sumN_congr fun i hi => ?_
    have h2 := sumL_N (fun x => x) 0 (p.getD i []) (p.getD i []).length (Nat.le_refl _)
    rw [List.take_length, hsq i hi] at h2
    exact h2
  have h2 : sumN (fun i => sumN (fun j => at2 p i j) p.length) p.length = sumN (fun i => sumN (fun j => at2 p j i) p.length) p.length := sumN_swap' _ _ _
  have h3 : sumN (fun i => sumN (fun j => at2 p j i) p.length) p.length = sumN (fun i => - sumN (fun j => at2 p i j) p.length) p.length := by
    refine sumN_congr fun i hi => ?_
    rw [← sumN_neg']
    refine sumN_congr fun j hj => ?_
    have := allF_zero.1 (allF_zero.1 ha i hi) j hj
    simpa using this
  rw [sumN_neg'] at h3
  omega

def Wide (p : Mtx) : Prop := p.length ≤ 20 ∧ ∀ i, i < p.length → ∀ j, j < p.length → j < (p.getD i []).length → -1152921504606846976 ≤ at2 p i j ∧ at2 p i j ≤ 1152921504606846976

theorem squB_iff {p : Mtx} : squB p = true ↔ ∀ i, i < p.length → (p.getD i []).length = p.length := by
  unfold squB
  rw [allF_zero]
  simp

theorem squ_bound {p : Mtx} (hw : Wide p) (hsq : ∀ i, i < p.length → (p.getD i []).length = p.length) : ∀ i, i < p.length → ∀ j, j < p.length → -1152921504606846976 ≤ at2 p i j ∧ at2 p i j ≤ 1152921504606846976 :=
  fun i hi j hj => hw.2 i hi j hj (by rw [hsq i hi]; exact hj)

theorem flat_bound {p : Mtx} {A : Int} (hA : 0 ≤ A) (h : ∀ i, i < p.length → ∀ j, j < (p.getD i []).length → -A ≤ (p.getD i []).getD j 0 ∧ (p.getD i []).getD j 0 ≤ A) (i : Nat) : -A ≤ p.flatten.getD i 0 ∧ p.flatten.getD i 0 ≤ A := by
  by_cases hi : i < p.flatten.length
  · have hm : p.flatten.getD i 0 ∈ p.flatten := by
      rw [List.getD_eq_getElem?_getD, List.getElem?_eq_getElem hi]
      exact List.getElem_mem hi
    obtain ⟨r, hr, hx⟩ := List.mem_flatten.1 hm
    obtain ⟨a, ha, e⟩ := List.mem_iff_getElem.1 hr
    obtain ⟨b, hb, e'⟩ := List.mem_iff_getElem.1 hx
    have hrow : p.getD a [] = r := by rw [List.getD_eq_getElem?_getD, List.getElem?_eq_getElem ha]; exact e
    have := h a ha b (by rw [hrow]; exact hb)
    rw [hrow, List.getD_eq_getElem?_getD (l := r), List.getElem?_eq_getElem hb] at this
    rw [← e']
    exact this
  · rw [List.getD_eq_getElem?_getD, List.getElem?_eq_none (by omega)]
    show -A ≤ 0 ∧ (0 : Int) ≤ A
    omega

theorem flat_length {p : Mtx} {N : Nat} (h : ∀ r ∈ p, r.length = N) : p.flatten.length = p.length * N := by
  induction p with
  | nil => simp
  | cons r p ih =>
    rw [List.flatten_cons, List.length_append, List.length_cons, ih fun q hq => h q (List.mem_cons_of_mem _ hq), h r (List.mem_cons_self ..), Nat.add_mul]
    omega

theorem audit_Zero_eq {k : Nat} (hk : 500 ≤ k) {p : Mtx} (hw : Wide p) (a : List AccA) (b : Mtx) (m : List Int) : audit_Zero k a b m p = some (squB p && antB p) := by
  have h20 := hw.1
  unfold audit_Zero
  rw [contains_odd (by omega) (by omega)]
  cases hs : squB p with
  | false => rfl
  | true =>
    have hsq := squB_iff.1 hs
    have hb := squ_bound hw hsq
    simp only [Option.bind_some, Bool.not_true, cond_false, Bool.true_and]
    rcases zero_L0 hk h20 hsq hb a b m with ⟨h1, h2⟩ | ⟨h1, h2⟩
    · rw [h1, h2]
      simp only [Option.bind_some]
      have hz := anti_sum hsq h1
      have hfl : p.flatten.length = p.length * p.length := flat_length fun r hr => by
        obtain ⟨i, hi, e⟩ := List.mem_iff_getElem.1 hr
        have := hsq i hi
        rw [List.getD_eq_getElem?_getD, List.getElem?_eq_getElem hi] at this
        rw [← e]
        exact this
      have h400 : p.length * p.length ≤ 20 * 20 := Nat.mul_le_mul h20 h20
      rw [cash_Sum_eq (l := p.flatten) (by omega) (by omega) (fun i hi => by
        have := flat_bound (p := p) (A := 1152921504606846976) (by omega) (fun i hi j hj => hb i hi j (by rw [← hsq i hi]; exact hj)) i
        omega), hz]
      rfl
    · rw [h1, h2]
      rfl

/-- Is an account below its floor? -/
def belowB (x : AccA) : Bool := decide (x.1 + x.2.1 < 0)
def Acc64 (a : List AccA) : Prop := ∀ i, i < a.length → (-9223372036854775808 ≤ (a.getD i (0, 0, 0)).1 ∧ (a.getD i (0, 0, 0)).1 < 9223372036854775808) ∧ (-9223372036854775808 ≤ (a.getD i (0, 0, 0)).2.1 ∧ (a.getD i (0, 0, 0)).2.1 < 9223372036854775808)
def floB (a c : List AccA) : Bool := decide (a.length = c.length) && allF (fun i => !(decide ((c.getD i (0, 0, 0)).1 < (a.getD i (0, 0, 0)).1) && belowB (c.getD i (0, 0, 0)))) c.length 0

theorem isBelow_eq (k : Nat) {x y : Int} (hx : -9223372036854775808 ≤ x ∧ x < 9223372036854775808) (hy : -9223372036854775808 ≤ y ∧ y < 9223372036854775808) (z : Int) : audit_isBelow k x y z = some (belowB (x, y, z)) := by
  unfold audit_isBelow cash_Add belowB
  by_cases h1 : y > 0
  · have w : w64 (9223372036854775807 - y) = 9223372036854775807 - y := w64_id (by omega) (by omega)
    rw [decide_eq_true h1, w, decide_eq_false (show ¬ y < 0 by omega)]
    by_cases h2 : x > 9223372036854775807 - y
    · rw [decide_eq_true h2]
      simp only [cond_true, Option.bind_some, Bool.not_false]
      rw [decide_eq_false (show ¬ x < 0 by omega), decide_eq_false (show ¬ x + y < 0 by omega)]
    · have w2 : w64 (x + y) = x + y := w64_id (by omega) (by omega)
      rw [decide_eq_false h2, w2]
      rfl
  · rw [decide_eq_false h1]
    by_cases h2 : y < 0
    · have w : w64 (-9223372036854775808 - y) = -9223372036854775808 - y := w64_id (by omega) (by omega)
      rw [decide_eq_true h2, w]
      by_cases h3 : x < -9223372036854775808 - y
      · rw [decide_eq_true h3]
        simp only [cond_true, cond_false, Option.bind_some, Bool.not_false]
        rw [decide_eq_true (show x < 0 by omega), decide_eq_true (show x + y < 0 by omega)]
      · have w2 : w64 (x + y) = x + y := w64_id (by omega) (by omega)
        rw [decide_eq_false h3, w2]
        rfl
    · have w2 : w64 (x + y) = x + y := w64_id (by omega) (by omega)
      rw [decide_eq_false h2, w2]
      rfl

theorem refBelow_eq (k : Nat) {x y : Int} (hx : -9223372036854775808 ≤ x ∧ x < 9223372036854775808) (hy : -9223372036854775808 ≤ y ∧ y < 9223372036854775808) (z : Int) : giroref27_below k x y = some (belowB (x, y, z)) := by
  unfold giroref27_below belowB
  by_cases h1 : x < 0
  · rw [decide_eq_true h1]
    by_cases h2 : y < 0
    · rw [decide_eq_true h2]
      simp only [eqBool]
      rw [decide_eq_true (show x + y < 0 by omega)]
      rfl
    · have w2 : w64 (x + y) = x + y := w64_id (by omega) (by omega)
      rw [decide_eq_false h2, w2]
      rfl
  · rw [decide_eq_false h1]
    by_cases h2 : y < 0
    · have w2 : w64 (x + y) = x + y := w64_id (by omega) (by omega)
      rw [decide_eq_true h2, w2]
      rfl
    · rw [decide_eq_false h2]
      simp only [eqBool]
      rw [decide_eq_false (show ¬ x + y < 0 by omega)]
      rfl

theorem audit_Floors_eq {k : Nat} {a c : List AccA} (hk : c.length < k) (hc : c.length ≤ 1000000) (h64 : Acc64 c) (b p b' p' : Mtx) (m m' : List Int) : audit_Floors k a b m p c b' m' p' = some (floB a c) := by
  unfold audit_Floors floB
  by_cases hl : a.length = c.length
  case neg =>
    rw [decide_eq_false hl, decide_eq_false (show ¬ ((a.length : Nat) : Int) = ((c.length : Nat) : Int) by omega)]
    rfl
  rw [decide_eq_true hl, decide_eq_true (show ((a.length : Nat) : Int) = ((c.length : Nat) : Int) by omega)]
  have := scan0 (L := fun n i => audit_Floors_L0 k n c (c.length : Int) i a b m p) (N := c.length) (fun i => !(decide ((c.getD i (0, 0, 0)).1 < (a.getD i (0, 0, 0)).1) && belowB (c.getD i (0, 0, 0)))) (.inl ()) (.inr false) (fun n => by
    show audit_Floors_L0b k _ c c.length c.length a b m p = _
    unfold audit_Floors_L0b
    simp only [dec_lt, decide_eq_false (Nat.lt_irrefl _), cond_false]) (fun n i hi => by
    show audit_Floors_L0b k _ c c.length i a b m p = _
    unfold audit_Floors_L0b
    have h := h64 i hi
    have e : audit_isBelow k (c.getD i (0, 0, 0)).1 (c.getD i (0, 0, 0)).2.1 (c.getD i (0, 0, 0)).2.2 = some (belowB (c.getD i (0, 0, 0))) := isBelow_eq k h.1 h.2 _
    simp only [boundOk_nat, dec_lt, Int.toNat_natCast, decide_eq_true hi, hl, cond_true, e, Option.bind_some, w64_succ hi (show c.length < 9223372036854775808 by omega)]
    cases decide ((c.getD i (0, 0, 0)).1 < (a.getD i (0, 0, 0)).1) with
    | false => rfl
    | true => cases belowB (c.getD i (0, 0, 0)) <;> rfl) hk
  simp only [Bool.not_true, cond_false, Bool.true_and]
  rw [this]
  cases allF (fun i => !(decide ((c.getD i (0, 0, 0)).1 < (a.getD i (0, 0, 0)).1) && belowB (c.getD i (0, 0, 0)))) c.length 0 <;> rfl

theorem ref_Floors_eq {k : Nat} {a c : List AccA} (hk : c.length < k) (hc : c.length ≤ 1000000) (h64 : Acc64 c) (b p b' p' : Mtx) (m m' : List Int) : giroref27_Floors k a b m p c b' m' p' = some (floB a c) := by
  unfold giroref27_Floors floB
  by_cases hl : a.length = c.length
  case neg =>
    rw [decide_eq_false hl, decide_eq_false (show ¬ ((a.length : Nat) : Int) = ((c.length : Nat) : Int) by omega)]
    rfl
  rw [decide_eq_true hl, decide_eq_true (show ((a.length : Nat) : Int) = ((c.length : Nat) : Int) by omega)]
  have := scan0 (L := fun n i => giroref27_Floors_L0 k n i a b m p c b' m' p') (N := c.length) (fun i => !(decide ((c.getD i (0, 0, 0)).1 < (a.getD i (0, 0, 0)).1) && belowB (c.getD i (0, 0, 0)))) (.inl ()) (.inr false) (fun n => by
    show giroref27_Floors_L0b k _ c.length a b m p c b' m' p' = _
    unfold giroref27_Floors_L0b
    simp only [dec_lt, decide_eq_false (Nat.lt_irrefl _), cond_false]) (fun n i hi => by
    show giroref27_Floors_L0b k _ i a b m p c b' m' p' = _
    unfold giroref27_Floors_L0b
    have h := h64 i hi
    have e : giroref27_below k (c.getD i (0, 0, 0)).1 (c.getD i (0, 0, 0)).2.1 = some (belowB (c.getD i (0, 0, 0))) := refBelow_eq k h.1 h.2 _
    simp only [boundOk_nat, dec_lt, Int.toNat_natCast, decide_eq_true hi, hl, cond_true, e, Option.bind_some, w64_succ hi (show c.length < 9223372036854775808 by omega)]
    cases decide ((c.getD i (0, 0, 0)).1 < (a.getD i (0, 0, 0)).1) with
    | false => rfl
    | true => cases belowB (c.getD i (0, 0, 0)) <;> rfl) hk
  simp only [Bool.not_true, cond_false, Bool.true_and]
  rw [this]
  cases allF (fun i => !(decide ((c.getD i (0, 0, 0)).1 < (a.getD i (0, 0, 0)).1) && belowB (c.getD i (0, 0, 0)))) c.length 0 <;> rfl
end Go.Ab.Gi
