/- PostTells. -/
import Derived.Test.YtlanbiabbhehaaaGiPKnown16
set_option linter.unusedVariables false
namespace Go.Ab.Gi
open Go.Ab

/-- What comes of posting has the books' sizes. -/
theorem PostIs.sized {a : List Acc} {b : List (List Int)} {m : List Int} {p : List (List Int)} {l : List PayT} {r : List Acc × List (List Int) × List Int × List (List Int) × Int} (hb : Books a b m p) (h : PostIs a b m p l r) :
    Sized r.1 r.2.1 r.2.2.1 r.2.2.2.1 ∧ r.1.length = a.length := by
  by_cases c : Row a.length l
  · obtain ⟨a', p', x, e⟩ := h.1 c
    cases hi : isB a' b m p' with
    | true =>
      rw [hi] at e
      subst e
      exact ⟨(isB_iff.1 hi).toSized, x.al⟩
    | false =>
      rw [hi] at e
      subst e
      exact ⟨hb.toSized, rfl⟩
  · have e := h.2 c
    subst e
    exact ⟨hb.toSized, rfl⟩

theorem same_refl {k : Nat} (hk : 10 < k) {a : List Acc} {b : List (List Int)} {m : List Int} {p : List (List Int)} (h : Sized a b m p) : giroref10_Same k a b m p a b m p = some true := by
  rw [giroref10_Same_eq hk h]
  simp

theorem postTells (a : List Acc) (b : List (List Int)) (m : List Int) (p : List (List Int)) (l : List PayT) : girolaw16_PostTells 200 a b m p l = some true := by
  unfold girolaw16_PostTells
  rw [giroref10_Is_eq (by omega)]
  simp only [Option.bind_some]
  cases hB : isB a b m p with
  | false => rfl
  | true =>
    have hb := isB_iff.1 hB
    by_cases h70 : l.length > 70
    · have : decide (((l.length : Nat) : Int) > 70) = true := decide_eq_true (by omega)
      rw [this]; rfl
    · have : decide (((l.length : Nat) : Int) > 70) = false := decide_eq_false (by omega)
      rw [this]
      obtain ⟨r, h1, h2⟩ := post_Post_eq (k := 200) (by omega) hb (l := l) (by omega)
      obtain ⟨r', h3, h4⟩ := giroref16_Post_eq (k := 200) (by omega) hb (l := l) (by omega)
      have e := h2.same h4
      subst e
      simp only [Bool.not_true, cond_false, giroref10_Copy_eq (show 10 < 200 by omega) hb.toSized, Option.bind_some, h1, h3, same_refl (show 10 < 200 by omega) (h2.sized hb).1, same_refl (show 10 < 200 by omega) hb.toSized, cond_true, girolaw16_known_eq]
      simp
end Go.Ab.Gi
