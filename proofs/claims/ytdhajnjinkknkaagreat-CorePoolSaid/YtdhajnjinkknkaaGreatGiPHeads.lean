/- part 24 -/
import Derived.Test.YtdhajnjinkknkaaGreatGiPGoes
set_option linter.unusedVariables false
set_option linter.unusedSimpArgs false
namespace Go.Ab.Gi
open Go.Ab
def cnt (l : List PayT) (f : Int) : Nat := (l.filter (fromB f)).length
def headAt (l : List PayT) (many : List Int) (i : Nat) : Bool :=
 (decide ((l.getD i pd).2.1 ≥ 0) && decide ((l.getD i pd).2.1 < (many.length : Int))) && decide (((cnt (l.take i) (l.getD i pd).2.1 : Nat) : Int) < many.getD (l.getD i pd).2.1.toNat 0)
def headsN (l : List PayT) (many : List Int) : Nat → List PayT
 | 0 => []
 | i + 1 => headsN l many i ++ (bif headAt l many i then [l.getD i pd] else [])
def headsL (l : List PayT) (many : List Int) : List PayT := headsN l many l.length
theorem headsN_sub (l : List PayT) (many : List Int) : ∀ N, N ≤ l.length → List.Sublist (headsN l many N) (l.take N)
 | 0, _ => by simp [headsN]
 | N + 1, h => by
  rw [← take_snoc l N pd h]
  unfold headsN
  apply List.Sublist.append (headsN_sub l many N (by omega))
  cases headAt l many N <;> simp
theorem headsL_sub (l : List PayT) (many : List Int) : List.Sublist (headsL l many) l := by
 have := headsN_sub l many l.length (Nat.le_refl _)
 rwa [List.take_length] at this
def LeM (v w : List Int) : Prop := v.length = w.length ∧ ∀ i, i < w.length → v.getD i 0 ≤ w.getD i 0
end Go.Ab.Gi
