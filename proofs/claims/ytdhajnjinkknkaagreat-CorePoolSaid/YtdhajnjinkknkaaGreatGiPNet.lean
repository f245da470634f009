/- part 10 -/
import Derived.Test.YtdhajnjinkknkaaGreatGiPCopy
set_option linter.unusedVariables false
set_option linter.unusedSimpArgs false
namespace Go.Ab.Gi
open Go.Ab
theorem net_le {a : List Acc} {b : List (List Int)} {m : List Int} {p : List (List Int)} (hb : Books a b m p) {i : Nat} (hi : i < a.length) (j : Nat) : -72057594037927936 ≤ cell p i j ∧ cell p i j ≤ 72057594037927936 := by
 by_cases hj : j < a.length
 ·have := hb.net i hi j hj
  simp only [netB, Bool.and_eq_true, decide_eq_true_eq] at this
  omega
 ·have : cell p i j = 0 := by
   unfold cell
   rw [List.getD_eq_getElem?_getD, List.getElem?_eq_none]
   ·rfl
   ·rw [hb.pr i hi]; omega
  omega
end Go.Ab.Gi
