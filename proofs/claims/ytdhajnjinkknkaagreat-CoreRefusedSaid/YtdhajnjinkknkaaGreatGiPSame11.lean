/- part 40 -/
import Derived.Test.YtdhajnjinkknkaaGreatGiPView
set_option linter.unusedVariables false
set_option linter.unusedSimpArgs false
namespace Go.Ab.Gi
open Go.Ab
instance instDecPay : DecidableEq PayT := fun a b => inferInstanceAs (Decidable (a = b))
theorem giroref11_Same_eq {k : Nat} {a b : List PayT} (hk : a.length < k) (hl : a.length < 9223372036854775808) : giroref11_Same k a b = some (decide (a = b)) := by
  unfold giroref11_Same
  by_cases hlen : a.length = b.length
  case neg =>
    have e : decide (((a.length : Nat) : Int) = ((b.length : Nat) : Int)) = false := decide_eq_false (by omega)
    rw [e]
    have : a ≠ b := fun e => hlen (by rw [e])
    rw [decide_eq_false this]
    rfl
  have e : decide (((a.length : Nat) : Int) = ((b.length : Nat) : Int)) = true := decide_eq_true (by omega)
  rw [e]
  have := scan0 (L := fun n i => giroref11_Same_L0 k n a b i) (N := a.length) (fun i => decide (a.getD i pd = b.getD i pd)) (.inl ()) (.inr false) (fun n => by
    show giroref11_Same_L0b k _ a b a.length = _
    unfold giroref11_Same_L0b
    simp only [dec_lt, decide_eq_false (Nat.lt_irrefl _), cond_false]) (fun n i hi => by
    show giroref11_Same_L0b k _ a b i = _
    unfold giroref11_Same_L0b
    have e7 := eq7 (a.getD i pd) (b.getD i pd)
    simp only [pd] at e7
    simp only [boundOk_nat, w64_succ hi hl, dec_lt, Int.toNat_natCast, decide_eq_true hi, cond_true, ← hlen]
    rw [e7]
    simp only [pd]
    cases decide (a.getD i (0, (0, (0, (0, (0, (0, 0)))))) = b.getD i (0, (0, (0, (0, (0, (0, 0))))))) <;> rfl) hk
  rw [this, allF_eq pd hlen]
  cases decide (a = b) <;> rfl
end Go.Ab.Gi
