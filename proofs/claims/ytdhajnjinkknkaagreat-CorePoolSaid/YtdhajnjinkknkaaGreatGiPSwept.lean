/- part 25 -/
import Derived.Test.YtdhajnjinkknkaaGreatGiPHeads
set_option linter.unusedVariables false
set_option linter.unusedSimpArgs false
namespace Go.Ab.Gi
open Go.Ab
def shortT (B : BT) (l : List PayT) : List Int := shortL B.1 B.2.1 B.2.2.1 B.2.2.2 l
def decM (s : List Int) (m : List Int) : List Int := s.foldl (fun m i => m.set i.toNat (m.getD i.toNat 0 - 1)) m
theorem decM_length : ∀ (s m : List Int), (decM s m).length = m.length
 | [], _ => rfl
 | i :: s, m => by
  show (decM s (m.set i.toNat (m.getD i.toNat 0 - 1))).length = _
  rw [decM_length s, List.length_set]
theorem decM_get : ∀ (s : List Nat) (m : List Int), s.Nodup → (∀ i ∈ s, i < m.length) → ∀ j, (decM (s.map fun (x : Nat) => (x : Int)) m).getD j 0 = m.getD j 0 - (if j ∈ s then 1 else 0)
 | [], m, _, _, j => by simp [decM]
 | i :: s, m, hs, hi, j => by
  show (decM (s.map fun (x : Nat) => (x : Int)) (m.set ((i : Int)).toNat (m.getD ((i : Int)).toNat 0 - 1))).getD j 0 = _
  rw [Int.toNat_natCast, decM_get s _ (List.nodup_cons.1 hs).2 (fun x hx => by rw [List.length_set]; exact hi x (List.mem_cons_of_mem _ hx)), getD_set]
  have h1 := hi i (List.mem_cons_self ..)
  have h2 := (List.nodup_cons.1 hs).1
  by_cases c : i = j
  ·subst c
   rw [if_pos ⟨rfl, h1⟩, if_neg h2, if_pos (List.mem_cons_self ..)]
   omega
  ·rw [if_neg (fun e => c e.1)]
   by_cases d : j ∈ s
   ·rw [if_pos d, if_pos (List.mem_cons_of_mem _ d)]
   ·rw [if_neg d, if_neg (fun e => by rcases List.mem_cons.1 e with e | e; exact c e.symm; exact d e)]
def shortF (B : BT) (l : List PayT) (i : Nat) : Bool := shortB B.1 B.2.1 B.2.2.1 B.2.2.2 l i
theorem dec_short (B : BT) (l : List PayT) {m : List Int} (hm : m.length = B.1.length) (j : Nat) : (decM (shortT B l) m).getD j 0 = m.getD j 0 - (if j < B.1.length ∧ shortF B l j = true then 1 else 0) := by
 have := decM_get ((List.range B.1.length).filter fun i => shortF B l i) m (List.Nodup.sublist List.filter_sublist List.nodup_range) (fun i hi => by have := (List.mem_filter.1 hi).1; rw [List.mem_range] at this; omega) j
 unfold shortT shortL
 rw [show (fun i => shortB B.1 B.2.1 B.2.2.1 B.2.2.2 l i) = fun i => shortF B l i from rfl, this]
 congr 1
 by_cases c : j < B.1.length ∧ shortF B l j = true
 ·rw [if_pos c, if_pos (List.mem_filter.2 ⟨List.mem_range.2 c.1, c.2⟩)]
 ·rw [if_neg c, if_neg (fun e => c ⟨List.mem_range.1 (List.mem_filter.1 e).1, (List.mem_filter.1 e).2⟩)]
theorem headsN_mem {l : List PayT} {many : List Int} {p : PayT} : ∀ {N : Nat}, p ∈ headsN l many N → ∃ i, i < N ∧ l.getD i pd = p ∧ headAt l many i = true
 | 0, h => by cases h
 | N + 1, h => by
  unfold headsN at h
  rw [List.mem_append] at h
  rcases h with h | h
  ·obtain ⟨i, h1, h2⟩ := headsN_mem h
   exact ⟨i, by omega, h2⟩
  ·cases hh : headAt l many N with
   | true =>
    rw [hh] at h
    simp only [cond_true, List.mem_singleton] at h
    exact ⟨N, by omega, h.symm, hh⟩
   | false =>
    rw [hh] at h
    cases h
theorem short_pos {B : BT} {l : List PayT} (hl : ∀ q ∈ l, May B.1.length q) {m : List Int} {j : Nat} (h : shortF B (headsL l m) j = true) : 1 ≤ m.getD j 0 := by
 unfold shortF shortB at h
 rw [Bool.and_eq_true, Bool.not_eq_true'] at h
 have hn := from_none (n := B.1.length) (l := headsL l m) (fun q hq => hl q ((headsL_sub l m).subset hq)) j
 rw [h.1] at hn
 obtain ⟨x, hx, he⟩ := any_all.1 hn
 have hf : ((headsL l m).getD x pd).2.1 = (j : Int) := by simpa using he
 obtain ⟨i, h1, h2, h3⟩ := headsN_mem (getD_mem (d := pd) hx)
 unfold headAt at h3
 have h2' : (l.getD i pd) = (headsL l m).getD x pd := h2
 rw [h2', hf, Int.toNat_natCast] at h3
 rw [Bool.and_eq_true, decide_eq_true_eq] at h3
 omega
inductive Swept (B : BT) (l : List PayT) : List Int → List Int → Nat → Prop
 | stop {m : List Int} (h : shortT B (headsL l m) = []) : Swept B l m m 0
 | step {m f : List Int} {n : Nat} (h : shortT B (headsL l m) ≠ []) (h' : Swept B l (decM (shortT B (headsL l m)) m) f n) : Swept B l m f (n + 1)
theorem dec_le {B : BT} {l : List PayT} {m : List Int} (hm : m.length = B.1.length) : LeM (decM (shortT B l) m) m := by
 refine ⟨decM_length _ _, fun i hi => ?_⟩
 rw [dec_short B l hm]
 split <;> omega
theorem LeM.trans {u v w : List Int} (h : LeM u v) (h' : LeM v w) : LeM u w := ⟨h.1.trans h'.1, fun i hi => Int.le_trans (h.2 i (by have := h'.1; omega)) (h'.2 i hi)⟩
theorem LeM.refl (v : List Int) : LeM v v := ⟨rfl, fun _ _ => Int.le_refl _⟩
theorem Swept.le {B : BT} {l : List PayT} {m f : List Int} {n : Nat} (h : Swept B l m f n) (hm : m.length = B.1.length) : LeM f m := by
 induction h with
 | stop _ => exact LeM.refl _
 | step _ _ ih => exact (ih ((decM_length _ _).trans hm)).trans (dec_le hm)
theorem Swept.final {B : BT} {l : List PayT} {m f : List Int} {n : Nat} (h : Swept B l m f n) : shortT B (headsL l f) = [] := by
 induction h with
 | stop h => exact h
 | step _ _ ih => exact ih
def Some0 (m : List Int) : Prop := ∀ i, 0 ≤ m.getD i 0
theorem dec_nonneg {B : BT} {l : List PayT} (hl : ∀ q ∈ l, May B.1.length q) {m : List Int} (hm : m.length = B.1.length) (h0 : Some0 m) : Some0 (decM (shortT B (headsL l m)) m) := by
 intro i
 rw [dec_short B _ hm]
 have := h0 i
 split
 ·rename_i c
  have := short_pos hl c.2
  omega
 ·omega
theorem Swept.nonneg {B : BT} {l : List PayT} (hl : ∀ q ∈ l, May B.1.length q) {m f : List Int} {n : Nat} (h : Swept B l m f n) (hm : m.length = B.1.length) (h0 : Some0 m) : Some0 f := by
 induction h with
 | stop _ => exact h0
 | step _ _ ih => exact ih ((decM_length _ _).trans hm) (dec_nonneg hl hm h0)
def total (m : List Int) : Int := sumL (fun x => x) m
theorem total_set : ∀ (m : List Int) (i : Nat) (x : Int), i < m.length → total (m.set i x) = total m - m.getD i 0 + x
 | [], i, x, h => absurd h (Nat.not_lt_zero _)
 | y :: m, 0, x, _ => by
  show x + total m = y + total m - y + x
  omega
 | y :: m, i + 1, x, h => by
  show y + total (m.set i x) = y + total m - m.getD i 0 + x
  rw [total_set m i x (by simpa using h)]
  omega
theorem total_dec : ∀ (s m : List Int), (∀ i ∈ s, 0 ≤ i ∧ i < (m.length : Int)) → total (decM s m) = total m - s.length
 | [], m, _ => by simp [decM]
 | i :: s, m, h => by
  have hi := h i (List.mem_cons_self ..)
  show total (decM s (m.set i.toNat (m.getD i.toNat 0 - 1))) = _
  rw [total_dec s _ (fun x hx => by rw [List.length_set]; exact h x (List.mem_cons_of_mem _ hx)), total_set _ _ _ (by omega)]
  simp only [List.length_cons]
  omega
theorem shortT_mem {B : BT} {l : List PayT} : ∀ i ∈ shortT B l, 0 ≤ i ∧ i < (B.1.length : Int) := by
 intro i hi
 obtain ⟨x, hx, rfl⟩ := List.mem_map.1 hi
 have := List.mem_range.1 (List.mem_filter.1 hx).1
 omega
theorem total_nonneg : ∀ {m : List Int}, Some0 m → 0 ≤ total m
 | [], _ => Int.le_refl 0
 | x :: m, h => by
  have h1 : 0 ≤ x := h 0
  have h2 := total_nonneg (m := m) (fun i => h (i + 1))
  show 0 ≤ x + total m
  omega
theorem swept {B : BT} {l : List PayT} (hl : ∀ q ∈ l, May B.1.length q) : ∀ (N : Nat) (m : List Int), m.length = B.1.length → Some0 m → total m ≤ N → ∃ f n, Swept B l m f n ∧ n ≤ N
 | N, m, hm, h0, hN => by
  by_cases c : shortT B (headsL l m) = []
  ·exact ⟨m, 0, .stop c, Nat.zero_le _⟩
  ·have ht := total_dec (shortT B (headsL l m)) m (by rw [hm]; exact shortT_mem)
   have hp : 0 < (shortT B (headsL l m)).length := List.length_pos_iff.2 c
   have h1 := dec_nonneg hl hm h0
   have h2 := total_nonneg h1
   obtain ⟨N, rfl⟩ : ∃ x, N = x + 1 := ⟨N - 1, by omega⟩
   obtain ⟨f, n, h3, h4⟩ := swept hl N _ ((decM_length _ _).trans hm) h1 (by omega)
   exact ⟨f, n + 1, .step c h3, by omega⟩
end Go.Ab.Gi
