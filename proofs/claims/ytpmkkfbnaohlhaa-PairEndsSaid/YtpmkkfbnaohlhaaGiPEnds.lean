/- What goes fits; rows from one place on. -/
import Derived.Test.YtpmkkfbnaohlhaaGiPFree
set_option linter.unusedVariables false
set_option linter.unusedSimpArgs false
namespace Go.Ab.Gi
open Go.Ab

theorem goes_fits {k : Nat} {B C : BT} {l : List PayT} (h : goes k B l = some C) : fitsT B l = true ∧ ∃ r, post_Post k B.1 B.2.1 B.2.2.1 B.2.2.2 l = some r ∧ r.2.2.2.2 = 0 ∧ C = (r.1, r.2.1, r.2.2.1, r.2.2.2.1) := by
  unfold goes at h
  cases hp : post_Post k B.1 B.2.1 B.2.2.1 B.2.2.2 l with
  | none => rw [hp] at h; cases h
  | some r =>
    rw [hp] at h
    simp only at h
    cases h1 : decide (r.2.2.2.2 = 0) with
    | false => rw [h1] at h; cases h
    | true =>
      cases h2 : fitsT B l with
      | false => rw [h1, h2] at h; cases h
      | true =>
        rw [h1, h2] at h
        cases h
        exact ⟨rfl, r, rfl, by simpa using h1, rfl⟩

theorem drop_cons {α : Type} {l m : List α} {p d : α} {i : Nat} (h : l.drop i = p :: m) : i < l.length ∧ l.getD i d = p ∧ l.drop (i + 1) = m := by
  have hi : i < l.length := by
    by_cases c : i < l.length
    · exact c
    · rw [List.drop_eq_nil_iff.2 (by omega)] at h
      cases h
  rw [List.drop_eq_getElem_cons hi] at h
  injection h with h1 h2
  refine ⟨hi, ?_, h2⟩
  rw [List.getD_eq_getElem?_getD, List.getElem?_eq_getElem hi]
  exact h1
end Go.Ab.Gi
