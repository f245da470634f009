/- AuditBooks. -/
import Derived.Test.YtnlkofpiaeoekaaGiPAuditZ
set_option linter.unusedVariables false
set_option linter.unusedSimpArgs false
namespace Go.Ab.Gi
open Go.Ab

theorem known27b : girolaw27_known 500 = some true := by kernel_rfl

def capB (x : Int) : Bool := !decide (x < -1152921504606846976) && !decide (x > 1152921504606846976)
def rowCap (r : List Int) : Bool := allF (fun j => capB (r.getD j 0)) (min r.length 20) 0

theorem capB_iff {x : Int} : capB x = true ↔ -1152921504606846976 ≤ x ∧ x ≤ 1152921504606846976 := by
  unfold capB
  simp

theorem guard_L1 {k : Nat} (hk : 500 ≤ k) {p : Mtx} {i : Nat} (hi : i < p.length) (hl : (p.getD i []).length < 9223372036854775808) (a a' : List AccA) (b b' p' : Mtx) (m m' : List Int) :
    girolaw27_AuditBooks_L1 k k i 0 a b m p a' b' m' p' = some (bif rowCap (p.getD i []) then .inl ((i : Int), a, b, m, p, a', b', m', p') else .inr true) := by
  obtain ⟨r, hr⟩ : ∃ r, p.getD i [] = r := ⟨_, rfl⟩
  rw [hr] at hl ⊢
  have := scan0 (L := fun n j => girolaw27_AuditBooks_L1 k n i j a b m p a' b' m' p') (N := min r.length 20) (fun j => capB (r.getD j 0)) (.inl ((i : Int), a, b, m, p, a', b', m', p')) (.inr true) (fun n => by
    show girolaw27_AuditBooks_L1b k _ i (min r.length 20 : Nat) a b m p a' b' m' p' = _
    unfold girolaw27_AuditBooks_L1b
    simp only [boundOk_nat, decide_eq_true hi, cond_true, Int.toNat_natCast, hr, dec_lt]
    by_cases h : min r.length 20 < r.length
    · rw [decide_eq_true h, decide_eq_false (show ¬ (((min r.length 20 : Nat) : Int) < 20) by omega)]
      rfl
    · rw [decide_eq_false h]
      rfl) (fun n j hj => by
    show girolaw27_AuditBooks_L1b k _ i j a b m p a' b' m' p' = _
    unfold girolaw27_AuditBooks_L1b capB
    have h1 : j < r.length := by omega
    have h2 : decide ((j : Int) < 20) = true := decide_eq_true (by omega)
    simp only [boundOk_nat, decide_eq_true hi, cond_true, Int.toNat_natCast, hr, dec_lt, decide_eq_true h1, h2, w64_succ h1 hl]
    cases decide (r.getD j 0 < -1152921504606846976) with
    | true => rfl
    | false => cases decide (r.getD j 0 > 1152921504606846976) <;> rfl) (n := k) (by omega)
  exact this

theorem guard_L0 {k : Nat} (hk : 500 ≤ k) {p : Mtx} (h20 : p.length ≤ 20) (hl : ∀ i, i < p.length → (p.getD i []).length < 9223372036854775808) (a a' : List AccA) (b b' p' : Mtx) (m m' : List Int) :
    girolaw27_AuditBooks_L0 k k 0 a b m p a' b' m' p' = some (bif allF (fun i => rowCap (p.getD i [])) p.length 0 then .inl (a, b, m, p, a', b', m', p') else .inr true) := by
  have := scan0 (L := fun n i => girolaw27_AuditBooks_L0 k n i a b m p a' b' m' p') (N := p.length) (fun i => rowCap (p.getD i [])) (.inl (a, b, m, p, a', b', m', p')) (.inr true) (fun n => by
    show girolaw27_AuditBooks_L0b k _ p.length a b m p a' b' m' p' = _
    unfold girolaw27_AuditBooks_L0b
    simp only [dec_lt, decide_eq_false (Nat.lt_irrefl _), cond_false]) (fun n i hi => by
    show girolaw27_AuditBooks_L0b k _ i a b m p a' b' m' p' = _
    unfold girolaw27_AuditBooks_L0b
    simp only [dec_lt, decide_eq_true hi, cond_true]
    rw [guard_L1 hk hi (hl i hi)]
    cases rowCap (p.getD i []) with
    | true => simp only [Option.bind_some, cond_true, w64_succ hi (show p.length < 9223372036854775808 by omega)]
    | false => rfl) (n := k) (by omega)
  exact this

theorem auditBooks (a a' : List AccA) (b b' p p' : Mtx) (m m' : List Int) (hl : ∀ i, i < p.length → (p.getD i []).length < 9223372036854775808) (h64 : Acc64 a') : girolaw27_AuditBooks 500 a b m p a' b' m' p' = some true := by
  unfold girolaw27_AuditBooks
  cases h1 : decide (((p.length : Nat) : Int) > 20) with
  | true => rfl
  | false =>
  cases h2 : decide (((a.length : Nat) : Int) > 20) with
  | true => rfl
  | false =>
  cases h3 : decide (((a'.length : Nat) : Int) > 20) with
  | true => rfl
  | false =>
  rw [decide_eq_false_iff_not] at h1 h2 h3
  simp only [cond_false]
  rw [guard_L0 (Nat.le_refl 500) (by omega) hl]
  cases hg : allF (fun i => rowCap (p.getD i [])) p.length 0 with
  | false => rfl
  | true =>
    have hw : Wide p := ⟨by omega, fun i hi j hj hj' => by
      have := allF_zero.1 hg i hi
      exact capB_iff.1 (allF_zero.1 this j (by omega))⟩
    simp only [Option.bind_some, cond_true]
    rw [audit_Zero_eq (Nat.le_refl 500) hw, ref_Zero_eq (Nat.le_refl 500) hw, audit_Floors_eq (by omega) (by omega) h64, ref_Floors_eq (by omega) (by omega) h64, known27b]
    simp only [Option.bind_some]
    cases (squB p && antB p) <;> cases floB a a' <;> rfl
end Go.Ab.Gi
