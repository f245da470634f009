/- part 17 -/
import Derived.Test.YtdhajnjinkknkaaGreatGiP0
import Derived.Test.YtdhajnjinkknkaaGreatGiXS
set_option linter.unusedVariables false
set_option linter.unusedSimpArgs false
namespace Go.Ab.Gi
open Go.Ab
def sumI (l : List Int) : Int := sumL (fun x => x) l
def in64 (x : Int) : Bool := decide (-9223372036854775808 ≤ x) && decide (x < 9223372036854775808)
theorem shr_63 (x : Int) : shr .i64 x 63 = x / 9223372036854775808 := by
 show x.fdiv (2 ^ (min 63 64)) = _
 rw [Int.fdiv_eq_ediv_of_nonneg _ (by decide)]
 rfl
theorem wrapU (x : Int) : IntKind.wrap .u64 x = x % 18446744073709551616 := by
 unfold IntKind.wrap
 simp only [IntKind.bits, IntKind.signed, Bool.false_and]
 rfl
theorem w64_u {x : Int} (h : 0 ≤ x ∧ x < 18446744073709551616) : w64 x = if x < 9223372036854775808 then x else x - 18446744073709551616 := by
 unfold w64 IntKind.wrap
 simp only [IntKind.bits, IntKind.signed, Bool.true_and]
 by_cases c : x % 2 ^ 64 ≥ 2 ^ (64 - 1)
 ·rw [if_pos (by simpa using c)]
  split <;> omega
 ·rw [if_neg (by simpa using c)]
  split <;> omega
theorem sumI_snoc (l : List Int) (i : Nat) (hi : i < l.length) : sumI (l.take (i + 1)) = sumI (l.take i) + l.getD i 0 := by
 have : l.take (i + 1) = l.take i ++ [l.getD i 0] := by
  rw [List.take_add_one, List.getD_eq_getElem?_getD, List.getElem?_eq_getElem hi]
  rfl
 unfold sumI
 rw [this, sumL_append]
 simp [sumL]
theorem cash_Sum_eq {k : Nat} {l : List Int} (hk : l.length < k) (hl : l.length ≤ 1000000) (hw : ∀ i, i < l.length → -9223372036854775808 ≤ l.getD i 0 ∧ l.getD i 0 < 9223372036854775808) :
  cash_Sum k l = some (bif in64 (sumI l) then (sumI l, true) else (0, false)) := by
 obtain ⟨s', g1, g2, g3, g4⟩ := carryE0 (L := fun n i (s : Int × Int) => cash_Sum_L0 k n s.1 s.2 l (l.length : Int) i) (N := l.length) (fun s => (s.1, s.2)) (fun i s => (0 ≤ s.2 ∧ s.2 < 18446744073709551616) ∧ s.1 * 18446744073709551616 + s.2 = sumI (l.take i) ∧ (-(i : Int) ≤ s.1 ∧ s.1 ≤ i)) (fun n s _ => by
  show cash_Sum_L0b k _ s.1 s.2 l l.length l.length = _
  unfold cash_Sum_L0b
  simp only [dec_lt, decide_eq_false (Nat.lt_irrefl _), cond_false]) (fun n i s hi hs => by
  obtain ⟨h, lo⟩ := s
  obtain ⟨⟨h1, h2⟩, h3, h4⟩ := hs
  simp only at h1 h2 h3 h4
  show ∃ s', cash_Sum_L0b k _ h lo l l.length i = _ ∧ _
  unfold cash_Sum_L0b add64
  have hb := hw i hi
  have hsn := sumI_snoc l i hi
  obtain ⟨v, hv⟩ : ∃ v, l.getD i 0 = v := ⟨_, rfl⟩
  rw [hv] at hb hsn
  simp only [dec_lt, boundOk_nat, Int.toNat_natCast, decide_eq_true hi, cond_true, hv, wrapU, shr_63, decide_true, Option.bind_some, w64_succ hi (show l.length < 9223372036854775808 by omega)]
  obtain ⟨u, hu⟩ : ∃ u, v % 18446744073709551616 = u := ⟨_, rfl⟩
  rw [hu]
  obtain ⟨q, hq⟩ : ∃ q, v / 9223372036854775808 = q := ⟨_, rfl⟩
  rw [hq]
  have hu' : u = v - q * 18446744073709551616 := by omega
  have hq' : q = 0 ∨ q = -1 := by omega
  obtain ⟨a, ha⟩ : ∃ a : Nat, lo.toNat + u.toNat + 0 = a := ⟨_, rfl⟩
  rw [ha]
  have ha' : (a : Int) = lo + u := by omega
  obtain ⟨c, hc⟩ : ∃ c : Nat, a / 18446744073709551616 = c := ⟨_, rfl⟩
  obtain ⟨m, hm⟩ : ∃ c : Nat, a % 18446744073709551616 = c := ⟨_, rfl⟩
  rw [hc, hm]
  have hcm : a = c * 18446744073709551616 + m := by omega
  have hm' : m < 18446744073709551616 := by omega
  have hc' : c ≤ 1 := by omega
  have e1 : w64 (Int.ofNat c) = (c : Int) := w64_id (by show (_ : Int) ≤ ((c : Nat) : Int); omega) (by show ((c : Nat) : Int) < _; omega)
  have e2 : w64 (q + (c : Int)) = q + c := w64_id (by omega) (by omega)
  have e3 : w64 (h + (q + (c : Int))) = h + (q + c) := w64_id (by omega) (by omega)
  rw [e1, e2, e3]
  refine ⟨(h + (q + c), (m : Int)), rfl, ⟨by show (0 : Int) ≤ (m : Int); omega, by show (m : Int) < _; omega⟩, ?_, ?_⟩
  ·rw [hsn]
   show (h + (q + c)) * 18446744073709551616 + (m : Int) = _
   omega
  ·show -((i + 1 : Nat) : Int) ≤ h + (q + c) ∧ h + (q + c) ≤ ((i + 1 : Nat) : Int)
   omega) (s := (0, 0)) hk ⟨⟨by show (0 : Int) ≤ 0; omega, by show (0 : Int) < _; omega⟩, rfl, by show -((0 : Nat) : Int) ≤ 0; omega, by show (0 : Int) ≤ ((0 : Nat) : Int); omega⟩
 have g1' : cash_Sum_L0 k k 0 0 l (l.length : Int) 0 = some (s'.1, s'.2) := g1
 rw [List.take_length] at g3
 unfold cash_Sum
 rw [g1']
 simp only [Option.bind_some, shr_63]
 rw [w64_u g2]
 by_cases c : in64 (sumI l) = true
 ·have c' : -9223372036854775808 ≤ sumI l ∧ sumI l < 9223372036854775808 := by simpa [in64] using c
  rw [c]
  by_cases d : s'.2 < 9223372036854775808
  ·rw [if_pos d, decide_eq_true (show s'.1 = s'.2 / 9223372036854775808 by omega)]
   simp only [Bool.not_true, cond_false, cond_true]
   rw [show s'.2 = sumI l by omega]
  ·rw [if_neg d, decide_eq_true (show s'.1 = (s'.2 - 18446744073709551616) / 9223372036854775808 by omega)]
   simp only [Bool.not_true, cond_false, cond_true]
   rw [show s'.2 - 18446744073709551616 = sumI l by omega]
 ·have c' : ¬ (-9223372036854775808 ≤ sumI l ∧ sumI l < 9223372036854775808) := by simpa [in64] using c
  rw [Bool.not_eq_true] at c
  rw [c]
  by_cases d : s'.2 < 9223372036854775808
  ·rw [if_pos d, decide_eq_false (show ¬ s'.1 = s'.2 / 9223372036854775808 by omega)]
   rfl
  ·rw [if_neg d, decide_eq_false (show ¬ s'.1 = (s'.2 - 18446744073709551616) / 9223372036854775808 by omega)]
   rfl
end Go.Ab.Gi
