/- What fits, all of each, small books. -/
import Derived.Test.YtdlamiafpciphaaGiPKnotP
import Derived.Test.YtdlamiafpciphaaGiPHeadsR
import Derived.Test.YtdlamiafpciphaaGiPPairG
import Derived.Test.YtdlamiafpciphaaGiPSame11
import Derived.Test.YtdlamiafpciphaaGiPRowedM20
import Derived.Test.YtdlamiafpciphaaGiPSome20
set_option linter.unusedVariables false
set_option linter.unusedSimpArgs false
namespace Go.Ab.Gi
open Go.Ab

theorem known20' : girolaw20_known 200 = some true := by kernel_rfl

theorem fitsT_iff {B : BT} {l : List PayT} : fitsT B l = true ↔ (∀ p ∈ l, May B.1.length p) ∧ l.length ≤ 64 ∧ shortT B l = [] := by
  unfold fitsT fitsB
  rw [Bool.and_eq_true, Bool.and_eq_true, allMay_iff, decide_eq_true_eq, shortT_nil, allF_zero]
  constructor
  · rintro ⟨⟨h1, h2⟩, h3⟩
    exact ⟨h1, h2, fun j hj => by have := h3 j hj; simpa [shortF] using this⟩
  · rintro ⟨h1, h2, h3⟩
    exact ⟨⟨h1, h2⟩, fun j hj => by have := h3 j hj; simpa [shortF] using this⟩

theorem cnt_lt {l : List PayT} {i : Nat} (hi : i < l.length) : cnt (l.take i) (l.getD i pd).2.1 < cnt l (l.getD i pd).2.1 := by
  have h1 := cnt_snoc l i hi (l.getD i pd).2.1
  rw [if_pos rfl] at h1
  have h2 : cnt (l.take (i + 1)) (l.getD i pd).2.1 ≤ cnt l (l.getD i pd).2.1 := by
    unfold cnt
    exact ((List.take_sublist (i + 1) l).filter _).length_le
  omega

/-- All of each are all. -/
theorem heads_all {n : Nat} {l : List PayT} (hl : ∀ q ∈ l, May n q) : headsL l (manyL l n) = l := by
  have hat : ∀ i, i < l.length → headAt l (manyL l n) i = true := by
    intro i hi
    have hm := hl _ (getD_mem (d := pd) hi)
    unfold headAt
    rw [Bool.and_eq_true, Bool.and_eq_true, decide_eq_true_eq, decide_eq_true_eq, decide_eq_true_eq, manyL_length]
    refine ⟨⟨hm.f0, hm.f1⟩, ?_⟩
    have hf1 := hm.f1
    have hf0 := hm.f0
    rw [manyL_get, if_pos (by omega)]
    have := cnt_lt hi
    have e : (((l.getD i pd).2.1.toNat : Nat) : Int) = (l.getD i pd).2.1 := by omega
    rw [e]
    omega
  have : ∀ N, N ≤ l.length → headsN l (manyL l n) N = l.take N := by
    intro N
    induction N with
    | zero => intro _; rfl
    | succ N ih =>
      intro h
      show headsN l (manyL l n) N ++ _ = _
      rw [ih (by omega), hat N (by omega), ← take_snoc l N pd (by omega)]
      rfl
  have h := this l.length (Nat.le_refl _)
  rw [List.take_length] at h
  exact h

theorem drops_length : ∀ (hs l : List PayT), Dist l → Dist hs → (∀ q ∈ hs, q ∈ l) → (dropsL l hs).length + hs.length = l.length
  | [], l, _, _, _ => by simp [dropsL]
  | p :: hs, l, hd, hh, hin => by
    obtain ⟨h1, h2⟩ := dropL_of (hin p (List.mem_cons_self ..))
    have hc := List.pairwise_cons.1 hh
    have := drops_length hs (dropL l p.1) (List.Pairwise.sublist h2 hd) hc.2 (fun q hq => mem_dropL (hin p (List.mem_cons_self ..)) (hin q (List.mem_cons_of_mem _ hq)) (fun e => hc.1 q hq e.symm))
    show (dropsL (dropL l p.1) hs).length + (hs.length + 1) = _
    omega

/-- On small books whatever may be posted is posted. -/
theorem small_post {k : Nat} (hk : 100 < k) {B : BT} (hB : BooksT B) (hs : ∀ i, i < B.1.length → -1000 ≤ (B.1.getD i ad).1 ∧ (B.1.getD i ad).1 ≤ 1000) (hc : ∀ i, i < B.1.length → ∀ j, j < B.1.length → -1000 ≤ cell B.2.2.2 i j ∧ cell B.2.2.2 i j ≤ 1000)
    {l : List PayT} (hrow : Row B.1.length l) : ∃ r, post_Post k B.1 B.2.1 B.2.2.1 B.2.2.2 l = some r ∧ giroref16_Post k B.1 B.2.1 B.2.2.1 B.2.2.2 l = some r ∧ r.2.2.2.2 = 0 ∧ BooksT (r.1, r.2.1, r.2.2.1, r.2.2.2.1) := by
  obtain ⟨r, h1, h2, h3⟩ := giroref16_is hk hB (l := l) (by have := hrow.2; omega)
  obtain ⟨a', p', h4, h5⟩ := h3.1 hrow
  have hbk := posted_books hB hrow h4 (fun i hi => by
    have h6 := hs i hi
    have h7 := sum_gB hrow i
    omega) (fun i hi j hj => by
    have h6 := hc i hi j hj
    have h7 := sum_gS hrow i j
    have h8 := sum_gS hrow j i
    omega)
  have hI : isB a' B.2.1 B.2.2.1 p' = true := isB_iff.2 hbk
  rw [hI] at h5
  subst h5
  exact ⟨_, h1, h2, rfl, hbk⟩

theorem sA_small (s : List Int) (w : Int) : ∀ i, i < (sA s w).length → -1000 ≤ ((sA s w).getD i ad).1 ∧ ((sA s w).getD i ad).1 ≤ 1000 := by
  intro i hi
  have h0 := hv_range s 0
  have h1 := hv_range s 1
  have h2 := hv_range s 2
  have : i = 0 ∨ i = 1 ∨ i = 2 := by have : i < 3 := hi; omega
  rcases this with rfl | rfl | rfl
  · show -1000 ≤ hv s 0 ∧ hv s 0 ≤ 1000; omega
  · show -1000 ≤ hv s 1 ∧ hv s 1 ≤ 1000; omega
  · show -1000 ≤ hv s 2 ∧ hv s 2 ≤ 1000; omega

theorem sP_small (w : Int) : ∀ i, i < 3 → ∀ j, j < 3 → -1000 ≤ cell (sP w) i j ∧ cell (sP w) i j ≤ 1000 := by
  intro i hi j hj
  have ei : i = 0 ∨ i = 1 ∨ i = 2 := by omega
  have ej : j = 0 ∨ j = 1 ∨ j = 2 := by omega
  unfold sP
  cases decide (band .i64 w 4 = 4) <;> rcases ei with rfl | rfl | rfl <;> rcases ej with rfl | rfl | rfl <;> decide
end Go.Ab.Gi
