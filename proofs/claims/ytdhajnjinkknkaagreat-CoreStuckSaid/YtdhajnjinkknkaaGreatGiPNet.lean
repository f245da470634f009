/- part 10 -/
import Derived.Test.YtdhajnjinkknkaaGreatGiPCopy
set_option linter.unusedVariables false
set_option linter.unusedSimpArgs false
namespace Go.Ab.Gi
open Go.Ab
theorem giroref10_Net_eq {k n i : Nat} {p : List (List Int)} (hk : n < k) (hn : n ≤ 100) (hi : i < n) (hp : p.length = n) (hr : (p.getD i []).length = n) (hb : ∀ j, -72057594037927936 ≤ cell p i j ∧ cell p i j ≤ 72057594037927936) (a : List Acc) (b : List (List Int)) (m : List Int) :
  giroref10_Net k a b m p i = some (sumN (cell p i) n) := by
 obtain ⟨s, h1, h2⟩ := carryE0 (L := fun c j (s : Int) => giroref10_Net_L0 k c i s j a b m p) (N := n) (fun s => s) (fun j s => s = sumN (cell p i) j) (fun c s hs => by
   show giroref10_Net_L0b k _ i s n a b m p = _
   unfold giroref10_Net_L0b
   simp only [boundOk_nat, dec_lt, Int.toNat_natCast, hp, hr, decide_eq_true hi, decide_eq_false (Nat.lt_irrefl _), cond_false, cond_true]) (fun c j s hj hs => by
   refine ⟨sumN (cell p i) (j + 1), ?_, rfl⟩
   show giroref10_Net_L0b k _ i s j a b m p = _
   have h1 := sumN_le hb j
   have h2 := hb j
   have h3 : (j : Int) * 72057594037927936 ≤ 100 * 72057594037927936 := by omega
   unfold giroref10_Net_L0b
   simp only [boundOk_nat, w64_succ hj (show n < 9223372036854775808 by omega), dec_lt, Int.toNat_natCast, hp, hr, decide_eq_true hi, decide_eq_true hj, cond_true]
   show giroref10_Net_L0 k c i (w64 (s + cell p i j)) _ a b m p = _
   rw [hs, w64_id (by omega) (by omega)]
   rfl) (s := 0) hk rfl
 unfold giroref10_Net
 rw [h1, h2]
 rfl
theorem net_le {a : List Acc} {b : List (List Int)} {m : List Int} {p : List (List Int)} (hb : Books a b m p) {i : Nat} (hi : i < a.length) (j : Nat) : -72057594037927936 ≤ cell p i j ∧ cell p i j ≤ 72057594037927936 := by
 by_cases hj : j < a.length
 ·have := hb.net i hi j hj
  simp only [netB, Bool.and_eq_true, decide_eq_true_eq] at this
  omega
 ·have : cell p i j = 0 := by
   unfold cell
   rw [List.getD_eq_getElem?_getD, List.getElem?_eq_none]
   ·rfl
   ·rw [hb.pr i hi]; omega
  omega
end Go.Ab.Gi
