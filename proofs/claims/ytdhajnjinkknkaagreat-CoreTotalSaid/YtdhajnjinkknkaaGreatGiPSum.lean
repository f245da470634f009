/- part 41 -/
import Derived.Test.YtdhajnjinkknkaaGreatGiXS
import Derived.Test.YtdhajnjinkknkaaGreatGiP0
set_option linter.unusedVariables false
set_option linter.unusedSimpArgs false
namespace Go.Ab.Gi
open Go.Ab
theorem band_low (x : Int) : band .i64 x 4294967295 = x % 4294967296 := band_mask 32 (by omega) x
theorem shr_32 (x : Int) : shr .i64 x 32 = x / 4294967296 := by
  show x.fdiv (2 ^ (min 32 64)) = _
  rw [Int.fdiv_eq_ediv_of_nonneg _ (by decide)]
  rfl
theorem shl_32 (x : Int) : shl .i64 x 32 = w64 (x * 4294967296) := rfl
theorem wide_add_eq (k : Nat) {h l n : Int} (hh : -4503599627370496 ≤ h ∧ h ≤ 4503599627370496) (hl : 0 ≤ l ∧ l < 4294967296) (hn : -9223372036854775808 ≤ n ∧ n < 9223372036854775808) :
    giroref1_wide_add k h l n = some ((h * 4294967296 + l + n) / 4294967296, (h * 4294967296 + l + n) % 4294967296) := by
  unfold giroref1_wide_add
  rw [band_low n, shr_32 n, w64_id (x := h + n / 4294967296) (by omega) (by omega), w64_id (x := l + n % 4294967296) (by omega) (by omega), shr_32, band_low, w64_id (by omega) (by omega)]
  congr 2
  · omega
  · omega
def sumW (S : Int) : Int × Bool := if S / 4294967296 < -2147483648 ∨ S / 4294967296 ≥ 2147483648 then (0, false) else (S, true)
theorem giroref1_Sum_eq {k : Nat} {l : List Int} (hk : l.length < k) (hl : l.length ≤ 1000000) (hr : ∀ x ∈ l, -9223372036854775808 ≤ x ∧ x < 9223372036854775808) : giroref1_Sum k l = some (sumW (sumL (fun x => x) l)) := by
  obtain ⟨s, h1, h2⟩ := carryE0 (L := fun c i (s : Int × Int) => giroref1_Sum_L0 k c l i s.1 s.2) (N := l.length) (fun s => s) (fun i s => s = (sumL (fun x => x) (l.take i) / 4294967296, sumL (fun x => x) (l.take i) % 4294967296)) (fun c s hs => by
      show giroref1_Sum_L0b k _ l l.length s.1 s.2 = _
      unfold giroref1_Sum_L0b
      simp only [dec_lt, decide_eq_false (Nat.lt_irrefl _), cond_false]) (fun c i s hi hs => by
      refine ⟨(sumL (fun x => x) (l.take (i + 1)) / 4294967296, sumL (fun x => x) (l.take (i + 1)) % 4294967296), ?_, rfl⟩
      show giroref1_Sum_L0b k _ l i s.1 s.2 = _
      have hb := sumL_le (g := fun x : Int => x) (A := 9223372036854775808) (l := l.take i) fun x hx => by have := hr x (List.mem_of_mem_take hx); omega
      have hlen : ((l.take i).length : Int) ≤ 1000000 := by rw [List.length_take]; omega
      have hb2 : ((l.take i).length : Int) * 9223372036854775808 ≤ 1000000 * 9223372036854775808 := by omega
      have e : sumL (fun x => x) (l.take (i + 1)) = sumL (fun x => x) (l.take i) + l.getD i 0 := by
        rw [← take_snoc l i 0 hi, sumL_append]
        show _ + (l.getD i 0 + 0) = _
        omega
      unfold giroref1_Sum_L0b
      simp only [boundOk_nat, w64_succ hi (show l.length < 9223372036854775808 by omega), dec_lt, Int.toNat_natCast, decide_eq_true hi, cond_true]
      rw [hs]
      dsimp only
      rw [wide_add_eq k (by omega) (by omega) (hr _ (getD_mem hi))]
      rw [e]
      have e2 : sumL (fun x => x) (l.take i) / 4294967296 * 4294967296 + sumL (fun x => x) (l.take i) % 4294967296 = sumL (fun x => x) (l.take i) := by omega
      rw [e2]
      rfl) (s := (0, 0)) hk rfl
  rw [List.take_of_length_le (Nat.le_refl _)] at h2
  unfold giroref1_Sum
  rw [h1, h2]
  simp only [Option.bind_some]
  unfold sumW
  generalize sumL (fun x => x) l = S
  by_cases c1 : S / 4294967296 < -2147483648
  · rw [decide_eq_true c1, if_pos (.inl c1)]; rfl
  · rw [decide_eq_false c1]
    by_cases c2 : S / 4294967296 ≥ 2147483648
    · rw [decide_eq_true c2, if_pos (.inr c2)]; rfl
    · rw [decide_eq_false c2, if_neg (by omega), shl_32, w64_id (x := S / 4294967296 * 4294967296) (by omega) (by omega), w64_id (by omega) (by omega)]
      simp only [cond_false]
      congr 2
      omega
end Go.Ab.Gi
