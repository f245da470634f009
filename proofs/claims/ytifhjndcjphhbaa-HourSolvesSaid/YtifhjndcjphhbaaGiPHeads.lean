/- The first ones of each; who falls short with less. -/
import Derived.Test.YtifhjndcjphhbaaGiPGoes
set_option linter.unusedVariables false
set_option linter.unusedSimpArgs false
namespace Go.Ab.Gi
open Go.Ab

/-- How many are of one. -/
def cnt (l : List PayT) (f : Int) : Nat := (l.filter (fromB f)).length

/-- Is it one of the first so many? -/
def headAt (l : List PayT) (many : List Int) (i : Nat) : Bool :=
  (decide ((l.getD i pd).2.1 ≥ 0) && decide ((l.getD i pd).2.1 < (many.length : Int))) && decide (((cnt (l.take i) (l.getD i pd).2.1 : Nat) : Int) < many.getD (l.getD i pd).2.1.toNat 0)

def headsN (l : List PayT) (many : List Int) : Nat → List PayT
  | 0 => []
  | i + 1 => headsN l many i ++ (bif headAt l many i then [l.getD i pd] else [])

def headsL (l : List PayT) (many : List Int) : List PayT := headsN l many l.length

theorem headsN_sub (l : List PayT) (many : List Int) : ∀ N, N ≤ l.length → List.Sublist (headsN l many N) (l.take N)
  | 0, _ => by simp [headsN]
  | N + 1, h => by
    rw [← take_snoc l N pd h]
    unfold headsN
    apply List.Sublist.append (headsN_sub l many N (by omega))
    cases headAt l many N <;> simp

theorem headsL_sub (l : List PayT) (many : List Int) : List.Sublist (headsL l many) l := by
  have := headsN_sub l many l.length (Nat.le_refl _)
  rwa [List.take_length] at this

theorem sum_headsN (g : PayT → Int) (l : List PayT) (many : List Int) (i : Nat) : sumL g (headsN l many (i + 1)) = sumL g (headsN l many i) + (bif headAt l many i then g (l.getD i pd) else 0) := by
  show sumL g (headsN l many i ++ _) = _
  rw [sumL_append]
  cases headAt l many i with
  | true => show _ + (g _ + 0) = _; simp
  | false => rfl

/-- Fewer of each. -/
def LeM (v w : List Int) : Prop := v.length = w.length ∧ ∀ i, i < w.length → v.getD i 0 ≤ w.getD i 0

theorem headAt_mono {l : List PayT} {v w : List Int} (h : LeM v w) {i : Nat} (hv : headAt l v i = true) : headAt l w i = true := by
  unfold headAt at *
  rw [Bool.and_eq_true, Bool.and_eq_true, decide_eq_true_eq, decide_eq_true_eq, decide_eq_true_eq] at *
  obtain ⟨⟨h1, h2⟩, h3⟩ := hv
  have := h.2 (l.getD i pd).2.1.toNat (by have := h.1; omega)
  have := h.1
  exact ⟨⟨h1, by omega⟩, by omega⟩

theorem sum_mono {l : List PayT} {v w : List Int} (h : LeM v w) {g : PayT → Int} (hg : ∀ p ∈ l, 0 ≤ g p) : ∀ N, N ≤ l.length → sumL g (headsN l v N) ≤ sumL g (headsN l w N)
  | 0, _ => Int.le_refl _
  | N + 1, hN => by
    rw [sum_headsN, sum_headsN]
    have ih := sum_mono h hg N (by omega)
    have := hg _ (getD_mem (d := pd) (show N < l.length by omega))
    cases hv : headAt l v N with
    | true =>
      rw [headAt_mono h hv]
      simp only [cond_true]
      omega
    | false =>
      cases headAt l w N
      · simp only [cond_false]; omega
      · simp only [cond_false, cond_true]; omega

theorem sum_eq {l : List PayT} {v w : List Int} (h : LeM v w) {x : Nat} (hx : v.getD x 0 = w.getD x 0) {g : PayT → Int} (hg : ∀ p : PayT, p.2.1 ≠ (x : Int) → g p = 0) : ∀ N, sumL g (headsN l v N) = sumL g (headsN l w N)
  | 0 => rfl
  | N + 1 => by
    rw [sum_headsN, sum_headsN, sum_eq h hx hg N]
    by_cases c : (l.getD N pd).2.1 = (x : Int)
    · have e : headAt l v N = headAt l w N := by
        unfold headAt
        rw [c, Int.toNat_natCast, hx, h.1]
      rw [e]
    · rw [hg _ c]
      cases headAt l v N <;> cases headAt l w N <;> rfl

/-- What all have is what they had. -/
theorem short_mono {a : List Acc} {b : List (List Int)} {m : List Int} {p : List (List Int)} {l : List PayT} (hm : ∀ q ∈ l, May a.length q) {v w : List Int} (h : LeM v w) {x : Nat} (hx : v.getD x 0 = w.getD x 0)
    (hs : shortB a b m p (headsL l w) x = true) : shortB a b m p (headsL l v) x = true := by
  have hpos : ∀ q ∈ l, 0 ≤ q.2.2.2.1 := fun q hq => by have := (hm q hq).a1; omega
  have eN : sumL (gN x) (headsL l v) = sumL (gN x) (headsL l w) := sum_eq h hx (fun q hq => by unfold gN; rw [if_neg (by intro e; exact hq e.1)]) _
  have eR : sumL (gR x) (headsL l v) = sumL (gR x) (headsL l w) := sum_eq h hx (fun q hq => by unfold gR; rw [if_neg (by intro e; exact hq e.1)]) _
  have eS : ∀ j, sumL (gS x j) (headsL l v) = sumL (gS x j) (headsL l w) := fun j => sum_eq h hx (fun q hq => by unfold gS; rw [if_neg (by intro e; exact hq e.1)]) _
  have lS : ∀ j, sumL (gS j x) (headsL l v) ≤ sumL (gS j x) (headsL l w) := fun j => sum_mono h (fun q hq => by unfold gS; have := hpos q hq; split <;> omega) _ (Nat.le_refl _)
  have lB : sumL (gB x) (headsL l v) ≤ sumL (gB x) (headsL l w) := by
    have e : ∀ k : List PayT, sumL (gB x) k = sumL (fun q => if q.2.2.1 = (x : Int) then q.2.2.2.1 else 0) k - sumL (fun q => if q.2.1 = (x : Int) then q.2.2.2.1 else 0) k := fun k => by
      rw [← sumL_sub]; rfl
    rw [e, e]
    have h1 : sumL (fun q : PayT => if q.2.1 = (x : Int) then q.2.2.2.1 else 0) (headsL l v) = sumL (fun q => if q.2.1 = (x : Int) then q.2.2.2.1 else 0) (headsL l w) := sum_eq h hx (fun q hq => by rw [if_neg hq]) _
    have h2 : sumL (fun q : PayT => if q.2.2.1 = (x : Int) then q.2.2.2.1 else 0) (headsL l v) ≤ sumL (fun q => if q.2.2.1 = (x : Int) then q.2.2.2.1 else 0) (headsL l w) := sum_mono h (fun q hq => by have := hpos q hq; split <;> omega) _ (Nat.le_refl _)
    rw [h1]
    omega
  unfold shortB at *
  rw [eN, eR]
  rw [Bool.and_eq_true] at hs ⊢
  refine ⟨hs.1, ?_⟩
  have h2 := hs.2
  simp only [Bool.or_eq_true, Bool.and_eq_true, decide_eq_true_eq, Bool.not_eq_true'] at h2 ⊢
  rcases h2 with h2 | h2 | h2 | h2
  · left
    obtain ⟨j, hj, hb⟩ := any_all.1 h2
    refine any_all.2 ⟨j, hj, ?_⟩
    unfold bilOk dS at *
    rw [eS j]
    have := lS j
    simp only [Bool.not_eq_false', Bool.and_eq_true, decide_eq_true_eq, Bool.not_eq_true'] at hb ⊢
    exact ⟨hb.1, hb.2.1, by omega⟩
  · right; left; omega
  · right; right; left
    exact ⟨h2.1, by omega⟩
  · right; right; right
    exact ⟨h2.1, by omega⟩
end Go.Ab.Gi
