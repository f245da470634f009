/- part 11 -/
import Derived.Test.YtdhajnjinkknkaaGreatGiPPost
import Derived.Test.YtdhajnjinkknkaaGreatGiPNet
set_option linter.unusedVariables false
set_option linter.unusedSimpArgs false
namespace Go.Ab.Gi
open Go.Ab
theorem scanC {S X : Type} {L : Nat → Int → S → Option X} {N : Nat} (ok : Nat → Bool) (e : S → X) (b : X) (inv : Nat → S → Prop) (hend : ∀ n s, inv N s → L (n + 1) (N : Int) s = some (e s))
  (hstep : ∀ n i s, i < N → inv i s → (ok i = true → ∃ s', L (n + 1) (i : Int) s = L n ((i + 1 : Nat) : Int) s' ∧ inv (i + 1) s') ∧ (ok i = false → L (n + 1) (i : Int) s = some b)) :
  ∀ c i n s, i + c = N → c < n → inv i s → (allF ok c i = true ∧ ∃ s', L n (i : Int) s = some (e s') ∧ inv N s') ∨ (allF ok c i = false ∧ L n (i : Int) s = some b)
 | 0, i, n, s, h, hn, hs => by
  obtain ⟨n, rfl⟩ : ∃ m, n = m + 1 := ⟨n - 1, by omega⟩
  have : i = N := by omega
  subst this
  exact .inl ⟨rfl, s, hend n s hs, hs⟩
 | c + 1, i, n, s, h, hn, hs => by
  obtain ⟨n, rfl⟩ : ∃ m, n = m + 1 := ⟨n - 1, by omega⟩
  obtain ⟨h1, h2⟩ := hstep n i s (by omega) hs
  unfold allF
  cases ho : ok i with
  | true =>
   obtain ⟨s', h3, h4⟩ := h1 ho
   rw [h3]
   simp only [Bool.true_and]
   exact scanC ok e b inv hend hstep c (i + 1) n s' (by omega) (by omega) h4
  | false => exact .inr ⟨rfl, h2 ho⟩
def dS (l : List PayT) (i j : Nat) : Int := sumL (gS i j) l - sumL (gS j i) l
def bilOk (b p : List (List Int)) (l : List PayT) (i j : Nat) : Bool := !(decide (sumL (gS i j) l > 0) && (!decide (cell b i j = -1) && decide (cell p i j + dS l i j > cell b i j)))
def shortB (a : List Acc) (b : List (List Int)) (m : List Int) (p : List (List Int)) (l : List PayT) (i : Nat) : Bool :=
 !decide (sumL (gN i) l + sumL (gR i) l = 0) && (!allF (bilOk b p l i) a.length 0 || (decide ((a.getD i ad).1 + (a.getD i ad).2.1 + sumL (gB i) l < 0) ||
  ((decide (sumL (gN i) l > 0) && decide ((a.getD i ad).1 + (a.getD i ad).2.1 + sumL (gB i) l < keptZ (a.getD i ad).2.2 (sumL (gR i) l))) ||
   (!decide (m.getD i 0 = -1) && decide (sumN (cell p i) a.length - sumL (gB i) l > m.getD i 0)))))
theorem dS_le {n : Nat} {l : List PayT} (hl : Row n l) (i j : Nat) : -70368744177664 ≤ dS l i j ∧ dS l i j ≤ 70368744177664 := by
 have h1 := sum_gS hl i j
 have h2 := sum_gS hl j i
 unfold dS
 omega
theorem sum_dS {n : Nat} {l : List PayT} (hl : ∀ p ∈ l, May n p) (i : Nat) (hi : i < n) : sumN (dS l i) n = - sumL (gB i) l := sum_row hl i hi
def fitsB (a : List Acc) (b : List (List Int)) (m : List Int) (p : List (List Int)) (l : List PayT) : Bool := (allMay a.length l && decide (l.length ≤ 64)) && allF (fun i => !shortB a b m p l i) a.length 0
end Go.Ab.Gi
