/- PostFits. -/
import Derived.Test.YtlanbiabbhehaaaGiPFits
import Derived.Test.YtlanbiabbhehaaaGiPOrder
set_option linter.unusedVariables false
set_option linter.unusedSimpArgs false
namespace Go.Ab.Gi
open Go.Ab

theorem sumL_mem {α : Type} {g : α → Int} : ∀ {l : List α} {p : α}, (∀ q ∈ l, 0 ≤ g q) → p ∈ l → g p ≤ sumL g l
  | q :: l, p, h, hp => by
    have h1 := h q (List.mem_cons_self ..)
    have h2 := sumL_nonneg (l := l) fun x hx => h x (List.mem_cons_of_mem _ hx)
    show g p ≤ g q + sumL g l
    rcases List.mem_cons.1 hp with rfl | hp
    · omega
    · have := sumL_mem (l := l) (fun x hx => h x (List.mem_cons_of_mem _ hx)) hp
      omega

/-- What one that sends has, if all fits. -/
theorem fits_sender {a : List Acc} {b : List (List Int)} {m : List Int} {p : List (List Int)} {l : List PayT} (hl : Row a.length l) (hf : fitsB a b m p l = true) {q : PayT} (hq : q ∈ l) {i j : Nat} (hi : q.2.1 = i) (hj : q.2.2.1 = j) :
    0 ≤ (a.getD i ad).1 + (a.getD i ad).2.1 + sumL (gB i) l ∧ (q.2.2.2.2.1 = 3 → keptZ (a.getD i ad).2.2 (sumL (gR i) l) ≤ (a.getD i ad).1 + (a.getD i ad).2.1 + sumL (gB i) l) ∧
      (cell b i j ≠ -1 → cell p i j + dS l i j ≤ cell b i j) ∧ (m.getD i 0 ≠ -1 → sumN (cell p i) a.length - sumL (gB i) l ≤ m.getD i 0) := by
  have hm := hl.1 q hq
  have hin : i < a.length := by have := hm.f1; omega
  have hjn : j < a.length := by have := hm.t1; omega
  unfold fitsB at hf
  rw [Bool.and_eq_true, allF_zero] at hf
  have hs := hf.2 i hin
  have ha := hm.a1
  have hN := sum_gN hl i
  have hR := sum_gR hl i
  have hsum : sumL (gN i) l + sumL (gR i) l ≠ 0 := by
    by_cases c : q.2.2.2.2.1 = 3
    · have h1 := sumL_mem (g := gN i) (fun x hx => (gN_le (hl.1 x hx) i).1) hq
      have h2 : gN i q = q.2.2.2.1 := by unfold gN; rw [if_pos ⟨hi, c⟩]
      omega
    · have h1 := sumL_mem (g := gR i) (fun x hx => (gR_le (hl.1 x hx) i).1) hq
      have h2 : gR i q = q.2.2.2.1 := by unfold gR; rw [if_pos ⟨hi, c⟩]
      omega
  unfold shortB at hs
  rw [decide_eq_false hsum] at hs
  simp only [Bool.not_false, Bool.true_and, Bool.not_eq_true', Bool.or_eq_false_iff, Bool.and_eq_false_imp, decide_eq_false_iff_not, decide_eq_true_eq, Bool.not_eq_false', Bool.not_eq_true', allF_zero] at hs
  obtain ⟨h1, h2, h3, h4⟩ := hs
  refine ⟨by omega, fun c => ?_, fun c => ?_, fun c => ?_⟩
  · have h5 := sumL_mem (g := gN i) (fun x hx => (gN_le (hl.1 x hx) i).1) hq
    have h6 : gN i q = q.2.2.2.1 := by unfold gN; rw [if_pos ⟨hi, c⟩]
    have := h3 (by omega)
    omega
  · have h5 := h1 j hjn
    unfold bilOk at h5
    have h6 := sumL_mem (g := gS i j) (fun x hx => (gS_le (hl.1 x hx) i j).1) hq
    have h7 : gS i j q = q.2.2.2.1 := by unfold gS; rw [if_pos ⟨hi, hj⟩]
    rw [decide_eq_true (show sumL (gS i j) l > 0 by omega), decide_eq_false c] at h5
    simp only [Bool.not_false, Bool.true_and, Bool.not_eq_true', decide_eq_false_iff_not] at h5
    omega
  · have := h4 c
    omega

theorem fits_loop {k : Nat} {a : List Acc} {b : List (List Int)} {m : List Int} {p : List (List Int)} {l : List PayT} {a' : List Acc} {p' : List (List Int)} (hk : 100 < k) (h3 : a.length = 3) (hb : Books a b m p) (hl : Row a.length l) (hf : fitsB a b m p l = true) (x : Posted a.length a p l a' p') (hb' : Books a' b m p') :
    girolaw16_PostFits_L0 k k l 0 a b m p a' b m p' = some (.inl ()) := by
  have hl64 := hl.2
  have := scan0 (L := fun c i => girolaw16_PostFits_L0 k c l i a b m p a' b m p') (N := l.length) (fun _ => true) (.inl ()) (.inr false) (fun c => by
    show girolaw16_PostFits_L0b k _ l l.length a b m p a' b m p' = _
    unfold girolaw16_PostFits_L0b
    simp only [dec_lt, decide_eq_false (Nat.lt_irrefl _), cond_false]) (fun c i hi => by
    show girolaw16_PostFits_L0b k _ l i a b m p a' b m p' = _
    have hmem : l.getD i pd ∈ l := getD_mem hi
    have hmay := hl.1 _ hmem
    obtain ⟨f0, f1, t0, t1, ne, a1, a2, c1, c3⟩ := hmay
    obtain ⟨f, hf'⟩ : ∃ f : Nat, (l.getD i pd).2.1 = f := ⟨(l.getD i pd).2.1.toNat, by omega⟩
    obtain ⟨t, ht'⟩ : ∃ t : Nat, (l.getD i pd).2.2.1 = t := ⟨(l.getD i pd).2.2.1.toNat, by omega⟩
    have hfn : f < 3 := by omega
    have htn : t < 3 := by omega
    obtain ⟨g1, g2, g3, g4⟩ := fits_sender hl hf hmem hf' ht'
    have hal : a'.length = 3 := by rw [x.al, h3]
    have hx := hb.acct f (by omega)
    simp only [acctB, Bool.and_eq_true, decide_eq_true_eq] at hx
    have hbal : -4611686018427387904 < (a.getD f ad).1 ∧ (a.getD f ad).1 < 4611686018427387904 ∧ 0 ≤ (a.getD f ad).2.1 ∧ (a.getD f ad).2.1 ≤ 2305843009213693952 := ⟨hx.1, hx.2.1, hx.2.2.1, hx.2.2.2.1⟩
    have hB := sum_gB hl f
    have eA : a'.getD f (0, (0, 0)) = ((a.getD f ad).1 + sumL (gB f) l, (a.getD f ad).2.1, keptZ (a.getD f ad).2.2 (sumL (gR f) l)) := x.acct f (by omega)
    have eP : (p'.getD f []).getD t 0 = cell p f t + dS l f t := by
      have := x.cell f (by omega) t (by omega)
      show cell p' f t = _
      rw [this]; unfold dS; omega
    have hnet : giroref10_Net k a' b m p' f = some (sumN (cell p f) a.length - sumL (gB f) l) := by
      rw [giroref10_Net_eq (n := a'.length) (by omega) (by omega) (by omega) hb'.pl (hb'.pr f (by omega)) (net_le hb' (by omega))]
      congr 1
      rw [x.al]
      have e1 : sumN (cell p' f) a.length = sumN (fun j => cell p f j + dS l f j) a.length := sumN_congr fun j hj => by
        rw [x.cell f (by omega) j hj]; unfold dS; omega
      rw [e1, sumN_add]
      have := sum_dS hl.1 f (by omega)
      rw [this]
      omega
    have w := w64_id (x := (a.getD f ad).1 + sumL (gB f) l + (a.getD f ad).2.1) (by omega) (by omega)
    have d1 : decide ((a.getD f ad).1 + sumL (gB f) l + (a.getD f ad).2.1 < 0) = false := decide_eq_false (by omega)
    unfold girolaw16_PostFits_L0b
    simp only [boundOk_nat, w64_succ hi (show l.length < 9223372036854775808 by omega), dec_lt, Int.toNat_natCast, decide_eq_true hi, cond_true, hf', ht', hal, hb'.pl, hb'.pr f (by omega), hb.bl, hb.br f (by omega), hb.ml, h3, decide_eq_true hfn, decide_eq_true htn, eA, eP, hnet, w, d1, Option.bind_some, cond_false]
    have d0 : decide (((3 : Nat) : Int) = 3) = true := rfl
    rw [d0]
    simp only [Bool.not_true, cond_false]
    have d2 : (l.getD i pd).2.2.2.2.1 = 3 → decide ((a.getD f ad).1 + sumL (gB f) l + (a.getD f ad).2.1 < keptZ (a.getD f ad).2.2 (sumL (gR f) l)) = false := fun c => decide_eq_false (by have := g2 c; omega)
    have d3 : cell b f t ≠ -1 → decide (cell p f t + dS l f t > cell b f t) = false := fun c => decide_eq_false (by have := g3 c; omega)
    have d4 : m.getD f 0 ≠ -1 → decide (sumN (cell p f) 3 - sumL (gB f) l > m.getD f 0) = false := fun c => decide_eq_false (by have := g4 c; rw [h3] at this; omega)
    show (bif decide ((l.getD i pd).2.2.2.2.1 = 3) then (bif _ then _ else bif !decide (cell b f t = -1) then (bif decide (cell p f t + dS l f t > cell b f t) then _ else bif !decide (m.getD f 0 = -1) then (bif decide (sumN (cell p f) 3 - sumL (gB f) l > m.getD f 0) then _ else _) else _) else bif !decide (m.getD f 0 = -1) then (bif decide (sumN (cell p f) 3 - sumL (gB f) l > m.getD f 0) then _ else _) else _) else bif !decide (cell b f t = -1) then (bif decide (cell p f t + dS l f t > cell b f t) then _ else bif !decide (m.getD f 0 = -1) then (bif decide (sumN (cell p f) 3 - sumL (gB f) l > m.getD f 0) then _ else _) else _) else bif !decide (m.getD f 0 = -1) then (bif decide (sumN (cell p f) 3 - sumL (gB f) l > m.getD f 0) then _ else _) else _) = _
    by_cases k1 : (l.getD i pd).2.2.2.2.1 = 3 <;> by_cases k2 : cell b f t = -1 <;> by_cases k3 : m.getD f 0 = -1 <;>
      simp only [decide_eq_true, decide_eq_false, k1, k2, k3, d2, d3, d4, ne_eq, not_false_eq_true, not_true_eq_false, decide_true, decide_false, Bool.not_true, Bool.not_false, cond_true, cond_false]) (n := k) (by omega)
  rw [this]
  have : allF (fun _ => true) l.length 0 = true := allF_zero.2 fun _ _ => rfl
  rw [this]
  rfl

theorem postFits (s : List Int) (w : Int) (l : List PayT) : girolaw16_PostFits 200 s w l = some true := by
  unfold girolaw16_PostFits
  by_cases c : l.length > 30
  · have : decide (((l.length : Nat) : Int) > 30) = true := decide_eq_true (by omega)
    rw [this]; rfl
  have : decide (((l.length : Nat) : Int) > 30) = false := decide_eq_false (by omega)
  rw [this]
  obtain ⟨r, hr, hm, hlen⟩ := rowed_some (k := 200) (l := l) (by omega) (by omega)
  rw [some_eq (by omega), hr]
  simp only [cond_false, Option.bind_some]
  have hb := some_books s w
  have hs := some_small s w
  have hrow : Row (sA s w).length r := ⟨hm, by omega⟩
  rw [giroref15_Fits_eq (by omega) hb (by omega)]
  simp only [Option.bind_some]
  cases hf : fitsB (sA s w) (sB w) (sM w) (sP w) r with
  | false => rfl
  | true =>
    obtain ⟨a1, p1, e1, x1, b1⟩ := post_small (k := 200) (by omega) hb hrow hs
    have hl1 : a1.length = 3 := x1.al
    have hp1 : p1.length = 3 := x1.pl
    simp only [Bool.not_true, cond_false, e1, Option.bind_some, hl1, hp1]
    rw [fits_loop (by omega) rfl hb hrow hf x1 b1]
    have d0 : decide (((3 : Nat) : Int) = 3) = true := rfl
    simp only [d0, decide_true, Bool.not_true, cond_false, Option.bind_some, girolaw16_known_eq]
end Go.Ab.Gi
