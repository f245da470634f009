/- part 6 -/
import Derived.Test.YtjjglblggikmeaaGreatGiAbC
set_option linter.unusedVariables false
set_option linter.unusedSimpArgs false
namespace Go.Ab
theorem w64_id {x : Int} (h1 : -9223372036854775808 ≤ x) (h2 : x < 9223372036854775808) : w64 x = x := by
 unfold w64 IntKind.wrap
 simp only [IntKind.bits, IntKind.signed, Bool.true_and]
 by_cases h : x % 2 ^ 64 ≥ 2 ^ (64 - 1)
 ·rw [if_pos (by simpa using h)]; omega
 ·rw [if_neg (by simpa using h)]; omega
theorem w64_succ {i N : Nat} (h : i < N) (hN : N < 9223372036854775808) : w64 ((i : Int) + 1) = ((i + 1 : Nat) : Int) := by
 rw [w64_id (by omega) (by omega)]; rfl
theorem boundOk_true {i : Int} {n : Nat} (h0 : 0 ≤ i) (h1 : i < n) : boundOk i n = true := by
 unfold boundOk
 simp; omega
theorem roomB_true {n b : Nat} (h : n * b ≤ 140737488355328) (h' : n ≤ 140737488355328) : roomB n b = true := by
 unfold roomB
 rw [Nat.ble_eq_true_of_le h, Nat.ble_eq_true_of_le h']; rfl
theorem carryE {S X : Type} {L : Nat → Int → S → Option X} {N : Nat} (e : S → X) (inv : Nat → S → Prop) (hend : ∀ n s, inv N s → L (n + 1) (N : Int) s = some (e s))
  (hstep : ∀ n i s, i < N → inv i s → ∃ s', L (n + 1) (i : Int) s = L n ((i + 1 : Nat) : Int) s' ∧ inv (i + 1) s') :
  ∀ c i n s, i + c = N → c < n → inv i s → ∃ s', L n (i : Int) s = some (e s') ∧ inv N s'
 | 0, i, n, s, h, hn, hs => by
  obtain ⟨n, rfl⟩ : ∃ m, n = m + 1 := ⟨n - 1, by omega⟩
  have : i = N := by omega
  subst this
  exact ⟨s, hend n s hs, hs⟩
 | c + 1, i, n, s, h, hn, hs => by
  obtain ⟨n, rfl⟩ : ∃ m, n = m + 1 := ⟨n - 1, by omega⟩
  obtain ⟨s', h1, h2⟩ := hstep n i s (by omega) hs
  rw [h1]
  exact carryE e inv hend hstep c (i + 1) n s' (by omega) (by omega) h2
theorem carryE0 {S X : Type} {L : Nat → Int → S → Option X} {N : Nat} (e : S → X) (inv : Nat → S → Prop) (hend : ∀ n s, inv N s → L (n + 1) (N : Int) s = some (e s))
  (hstep : ∀ n i s, i < N → inv i s → ∃ s', L (n + 1) (i : Int) s = L n ((i + 1 : Nat) : Int) s' ∧ inv (i + 1) s') {n : Nat} {s : S} (hn : N < n) (hs : inv 0 s) :
  ∃ s', L n 0 s = some (e s') ∧ inv N s' := carryE e inv hend hstep N 0 n s (by omega) hn hs
theorem take_snoc {α : Type} (l : List α) (i : Nat) (d : α) (h : i < l.length) : l.take i ++ [l.getD i d] = l.take (i + 1) := by
 rw [List.take_add_one, List.getD_eq_getElem?_getD, List.getElem?_eq_getElem h]
 rfl
end Go.Ab
