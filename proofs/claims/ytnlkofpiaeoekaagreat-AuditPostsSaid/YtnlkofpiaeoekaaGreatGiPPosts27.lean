/- AuditPosts. -/
import Derived.Test.YtnlkofpiaeoekaaGreatGiPAuditZ
import Derived.Test.YtnlkofpiaeoekaaGreatGiPFitsP
import Derived.Test.YtnlkofpiaeoekaaGreatGiPGoes
import Derived.Test.YtnlkofpiaeoekaaGreatGiPRowedM27
import Derived.Test.YtnlkofpiaeoekaaGreatGiPSome27
set_option linter.unusedVariables false
set_option linter.unusedSimpArgs false
namespace Go.Ab.Gi
open Go.Ab

theorem known27p : girolaw27_known 500 = some true := by kernel_rfl

/-- On small books whatever may be posted is posted. -/
theorem small27 {k : Nat} (hk : 100 < k) {B : BT} (hB : BooksT B) (hs : ∀ i, i < B.1.length → -1000 ≤ (B.1.getD i ad).1 ∧ (B.1.getD i ad).1 ≤ 1000) (hc : ∀ i, i < B.1.length → ∀ j, j < B.1.length → -1000 ≤ cell B.2.2.2 i j ∧ cell B.2.2.2 i j ≤ 1000)
    {l : List PayT} (hrow : Row B.1.length l) : ∃ r, giroref16_Post k B.1 B.2.1 B.2.2.1 B.2.2.2 l = some r ∧ r.2.2.2.2 = 0 ∧ BooksT (r.1, r.2.1, r.2.2.1, r.2.2.2.1) := by
  obtain ⟨r, h1, h2, h3⟩ := giroref16_is hk hB (l := l) (by have := hrow.2; omega)
  obtain ⟨a', p', h4, h5⟩ := h3.1 hrow
  have hbk := posted_books hB hrow h4 (fun i hi => by
    have h6 := hs i hi
    have h7 := sum_gB hrow i
    omega) (fun i hi j hj => by
    have h6 := hc i hi j hj
    have h7 := sum_gS hrow i j
    have h8 := sum_gS hrow j i
    omega)
  have hI : isB a' B.2.1 B.2.2.1 p' = true := isB_iff.2 hbk
  rw [hI] at h5
  subst h5
  exact ⟨_, h2, rfl, hbk⟩

theorem sA_small27 (s : List Int) (w : Int) : ∀ i, i < (sA s w).length → -1000 ≤ ((sA s w).getD i ad).1 ∧ ((sA s w).getD i ad).1 ≤ 1000 := by
  intro i hi
  have h0 := hv_range s 0
  have h1 := hv_range s 1
  have h2 := hv_range s 2
  have : i = 0 ∨ i = 1 ∨ i = 2 := by have : i < 3 := hi; omega
  rcases this with rfl | rfl | rfl
  · show -1000 ≤ hv s 0 ∧ hv s 0 ≤ 1000; omega
  · show -1000 ≤ hv s 1 ∧ hv s 1 ≤ 1000; omega
  · show -1000 ≤ hv s 2 ∧ hv s 2 ≤ 1000; omega

theorem sP_small27 (w : Int) : ∀ i, i < 3 → ∀ j, j < 3 → -1000 ≤ cell (sP w) i j ∧ cell (sP w) i j ≤ 1000 := by
  intro i hi j hj
  have ei : i = 0 ∨ i = 1 ∨ i = 2 := by omega
  have ej : j = 0 ∨ j = 1 ∨ j = 2 := by omega
  unfold sP
  cases decide (band .i64 w 4 = 4) <;> rcases ei with rfl | rfl | rfl <;> rcases ej with rfl | rfl | rfl <;> decide

theorem books64 {a : List Acc} {b : List (List Int)} {m : List Int} {p : List (List Int)} (h : Books a b m p) : Acc64 a := by
  intro i hi
  have := h.acct i hi
  simp only [acctB, Bool.and_eq_true, decide_eq_true_eq] at this
  omega

theorem books_wide {a : List Acc} {b : List (List Int)} {m : List Int} {p : List (List Int)} (h : Books a b m p) : Wide p ∧ squB p = true ∧ antB p = true := by
  have hpl := h.pl
  have hn := h.n6
  have hat : ∀ i, i < p.length → ∀ j, j < p.length → at2 p j i = - at2 p i j ∧ -72057594037927936 < at2 p i j ∧ at2 p i j < 72057594037927936 := by
    intro i hi j hj
    have h1 := h.net i (by omega) j (by omega)
    have h2 := h.turn j (by omega) i (by omega)
    have e : ∀ i j, at2 p i j = cell p i j := fun _ _ => rfl
    rw [e, e]
    simp only [netB, Bool.and_eq_true, decide_eq_true_eq] at h1
    rw [w64_id (by omega) (by omega)] at h2
    omega
  refine ⟨⟨by omega, fun i hi j hj _ => by have := hat i hi j hj; omega⟩, squB_iff.2 fun i hi => ?_, ?_⟩
  · have := h.pr i (by omega)
    omega
  · unfold antB
    rw [allF_zero]
    intro i hi
    rw [allF_zero]
    intro j hj
    exact decide_eq_true (hat i hi j hj).1

theorem auditPosts (have' : List Int) (way : Int) (l : List PayT) (who : Int) : girolaw27_AuditPosts 500 have' way l who = some true := by
  unfold girolaw27_AuditPosts
  cases h30 : decide (((l.length : Nat) : Int) > 30) with
  | true => rfl
  | false =>
  cases hw0 : decide (who < 0) with
  | true => rfl
  | false =>
  cases hw1 : decide (who > 2) with
  | true => rfl
  | false =>
    have hl : l.length ≤ 30 := by simp at h30; omega
    rw [decide_eq_false_iff_not] at hw0 hw1
    simp only [cond_false, some27_eq (k := 500) (by omega)]
    obtain ⟨r, h1, h2, h3, h4⟩ := rowedM27 (k := 500) (l := l) (by omega) (by omega)
    rw [h1]
    simp only [Option.bind_some]
    have hB : BooksT (sA have' way, sB way, sM way, sP way) := some_books have' way
    obtain ⟨P, p1, p2, p3⟩ := small27 (k := 500) (by omega) hB (sA_small27 have' way) (sP_small27 way) (l := r) ⟨fun p hp => (h4 p hp).1, by omega⟩
    have p1' : giroref16_Post 500 (sA have' way) (sB way) (sM way) (sP way) r = some P := p1
    have hC := giroref10_Copy_eq (k := 500) (by omega) hB.toSized
    have hC' : giroref10_Copy 500 (sA have' way) (sB way) (sM way) (sP way) = some (sA have' way, sB way, sM way, sP way) := hC
    rw [p1']
    simp only [Option.bind_some, decide_eq_true p2, Bool.not_true, cond_false]
    rw [hC']
    simp only [Option.bind_some]
    obtain ⟨w, rfl⟩ : ∃ w : Nat, who = w := ⟨who.toNat, by omega⟩
    have hwl : w < (sA have' way).length := by show w < 3; omega
    simp only [boundOk_nat, decide_eq_true hwl, cond_true, Int.toNat_natCast]
    have hw := books_wide p3
    have hb64 := books64 p3
    have hn := p3.n6
    obtain ⟨x, hx⟩ : ∃ x, (sA have' way).getD w (0, 0, 0) = x := ⟨_, rfl⟩
    have hac := hB.acct w hwl
    have hac' : acctB ((sA have' way).getD w (0, 0, 0)) = true := hac
    rw [hx] at hac' ⊢
    have hbal : 0 ≤ x.1 := by
      have h0 := hv_range have' 0
      have h1 := hv_range have' 1
      have h2 := hv_range have' 2
      rw [← hx]
      have : w = 0 ∨ w = 1 ∨ w = 2 := by omega
      rcases this with rfl | rfl | rfl
      · exact h0.1
      · exact h1.1
      · exact h2.1
    simp only [acctB, Bool.and_eq_true, decide_eq_true_eq] at hac'
    have e1 : w64 (0 - x.2.1) = - x.2.1 := by rw [w64_id (by omega) (by omega)]; omega
    have e2 : w64 (- x.2.1 - 1) = - x.2.1 - 1 := w64_id (by omega) (by omega)
    rw [e1, e2]
    have hset64 : Acc64 ((sA have' way).set w (- x.2.1 - 1, x.2)) := by
      intro i hi
      rw [List.length_set] at hi
      have hb := books64 hB i hi
      rw [List.getD_eq_getElem?_getD, List.getElem?_set]
      by_cases c : w = i
      · rw [if_pos c, if_pos hwl]
        show (_ ≤ - x.2.1 - 1 ∧ - x.2.1 - 1 < _) ∧ (_ ≤ x.2.1 ∧ x.2.1 < _)
        omega
      · rw [if_neg c, ← List.getD_eq_getElem?_getD]
        exact hb
    have hlow : floB (sA have' way) ((sA have' way).set w (- x.2.1 - 1, x.2)) = false := by
      unfold floB
      rw [Bool.and_eq_false_iff]
      refine .inr ?_
      rw [List.length_set]
      cases hf : allF (fun i => !(decide ((((sA have' way).set w (- x.2.1 - 1, x.2)).getD i (0, 0, 0)).1 < ((sA have' way).getD i (0, 0, 0)).1) && belowB (((sA have' way).set w (- x.2.1 - 1, x.2)).getD i (0, 0, 0)))) (sA have' way).length 0 with
      | false => rfl
      | true =>
        have := allF_zero.1 hf w hwl
        have e : ((sA have' way).set w (- x.2.1 - 1, x.2)).getD w (0, 0, 0) = (- x.2.1 - 1, x.2) := by
          rw [List.getD_eq_getElem?_getD, List.getElem?_set, if_pos rfl, if_pos hwl]
          rfl
        rw [e, hx] at this
        unfold belowB at this
        rw [decide_eq_true (show (- x.2.1 - 1, x.2).1 < x.1 by show - x.2.1 - 1 < x.1; omega), decide_eq_true (show (- x.2.1 - 1, x.2).1 + (- x.2.1 - 1, x.2).2.1 < 0 by show - x.2.1 - 1 + x.2.1 < 0; omega)] at this
        cases this
    rw [audit_Floors_eq (by have : P.1.length ≤ 6 := hn; omega) (by have : P.1.length ≤ 6 := hn; omega) hb64, ref_Floors_eq (by have : P.1.length ≤ 6 := hn; omega) (by have : P.1.length ≤ 6 := hn; omega) hb64, audit_Floors_eq (by rw [List.length_set]; show 3 < 500; omega) (by rw [List.length_set]; show 3 ≤ 1000000; omega) hset64, audit_Zero_eq (Nat.le_refl 500) hw.1, known27p, hlow, hw.2.1, hw.2.2]
    simp only [Option.bind_some]
    cases floB (sA have' way) P.1 <;> rfl
end Go.Ab.Gi
