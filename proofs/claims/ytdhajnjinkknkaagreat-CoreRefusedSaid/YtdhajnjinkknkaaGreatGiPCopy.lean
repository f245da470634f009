/- part 8 -/
import Derived.Test.YtdhajnjinkknkaaGreatGiPLim
set_option linter.unusedVariables false
set_option linter.unusedSimpArgs false
set_option linter.unusedSectionVars false
namespace Go.Ab.Gi
open Go.Ab
theorem giroref10_rows_L0_eq {k N : Nat} {s : List (List Int)} (hN : s.length = N) (hl : N ≤ 1000) (hr : ∀ i, i < N → (s.getD i []).length ≤ 1000) : ∀ (c i n : Nat), i + c = N → c < n → giroref10_rows_L0 k n s i (s.take i) = some s
  | 0, i, n, h, hn => by
    obtain ⟨n, rfl⟩ : ∃ m, n = m + 1 := ⟨n - 1, by omega⟩
    show giroref10_rows_L0b k _ s i (s.take i) = _
    unfold giroref10_rows_L0b
    have : ¬ i < s.length := by omega
    simp only [dec_lt, decide_eq_false this, cond_false]
    rw [List.take_of_length_le (by omega)]
  | c + 1, i, n, h, hn => by
    obtain ⟨n, rfl⟩ : ∃ m, n = m + 1 := ⟨n - 1, by omega⟩
    show giroref10_rows_L0b k _ s i (s.take i) = _
    unfold giroref10_rows_L0b
    have hi : i < s.length := by omega
    have h1 := hr i (by omega)
    have e1 : roomB (0 + (s.getD i []).length) 8 = true := roomB_true (by omega) (by omega)
    have e2 : roomB ((s.take i).length + 1) 24 = true := roomB_true (by rw [List.length_take]; omega) (by rw [List.length_take]; omega)
    simp only [boundOk_nat, w64_succ hi (show s.length < 9223372036854775808 by omega), dec_lt, Int.toNat_natCast, decide_eq_true hi, cond_true, e1, e2]
    rw [take_snoc s i [] hi]
    exact giroref10_rows_L0_eq hN hl hr c (i + 1) n (by omega) (by omega)
theorem giroref10_rows_eq {k : Nat} {s : List (List Int)} (hl : s.length ≤ 1000) (hk : s.length < k) (hr : ∀ i, i < s.length → (s.getD i []).length ≤ 1000) : giroref10_rows k s = some s := by
  unfold giroref10_rows
  have := giroref10_rows_L0_eq (k := k) rfl hl hr s.length 0 k (by omega) hk
  rw [List.take_zero] at this
  have e : ((0 : Nat) : Int) = 0 := rfl
  rw [e] at this
  rw [this]
  rfl
theorem lim_copied_L0_eq {k N : Nat} {s : List (List Int)} (hN : s.length = N) (hl : N ≤ 1000) (hr : ∀ i, i < N → (s.getD i []).length ≤ 1000) : ∀ (c i n : Nat), i + c = N → c < n → lim_copied_L0 k n s N i (s.take i) N = some (s, N)
  | 0, i, n, h, hn => by
    obtain ⟨n, rfl⟩ : ∃ m, n = m + 1 := ⟨n - 1, by omega⟩
    show lim_copied_L0b k _ s N i (s.take i) N = _
    unfold lim_copied_L0b
    have : ¬ i < N := by omega
    simp only [dec_lt, decide_eq_false this, cond_false]
    rw [List.take_of_length_le (by omega)]
  | c + 1, i, n, h, hn => by
    obtain ⟨n, rfl⟩ : ∃ m, n = m + 1 := ⟨n - 1, by omega⟩
    show lim_copied_L0b k _ s N i (s.take i) N = _
    unfold lim_copied_L0b slices_Clone_int64
    have hi : i < N := by omega
    have h1 := hr i (by omega)
    have e1 : roomB (0 + (s.getD i []).length) 8 = true := roomB_true (by omega) (by omega)
    have e2 : Nat.beq i (s.take i).length = true := by rw [List.length_take, Nat.min_eq_left (by omega)]; simp
    simp only [boundOk_nat, w64_succ hi (show N < 9223372036854775808 by omega), dec_lt, Int.toNat_natCast, decide_eq_true hi, cond_true, e1, e2, hN, Option.bind_some]
    rw [take_snoc s i [] (by omega)]
    exact lim_copied_L0_eq hN hl hr c (i + 1) n (by omega) (by omega)
theorem lim_copied_eq {k : Nat} {s : List (List Int)} (hl : s.length ≤ 1000) (hk : s.length < k) (hr : ∀ i, i < s.length → (s.getD i []).length ≤ 1000) : lim_copied k s = some s := by
  unfold lim_copied slices_Clone_Rowint64
  have := lim_copied_L0_eq (k := k) rfl hl hr s.length 0 k (by omega) hk
  rw [List.take_zero] at this
  have e : ((0 : Nat) : Int) = 0 := rfl
  rw [e] at this
  have e1 : roomB (0 + s.length) 24 = true := roomB_true (by omega) (by omega)
  simp only [e1, cond_true, Option.bind_some]
  rw [this]
  simp only [Option.bind_some, pmatEnd_eq]
  simp
structure Sized (a : List Acc) (b : List (List Int)) (m : List Int) (p : List (List Int)) : Prop where
  n1 : 1 ≤ a.length
  n6 : a.length ≤ 6
  bl : b.length = a.length
  br : ∀ i, i < a.length → (b.getD i []).length = a.length
  ml : m.length = a.length
  pl : p.length = a.length
  pr : ∀ i, i < a.length → (p.getD i []).length = a.length
structure Books (a : List Acc) (b : List (List Int)) (m : List Int) (p : List (List Int)) : Prop extends Sized a b m p where
  acct : ∀ i, i < a.length → acctB (a.getD i (0, 0, 0)) = true
  mul : ∀ i, i < a.length → limB (m.getD i 0) = true
  bil : ∀ i, i < a.length → ∀ j, j < a.length → limB (cell b i j) = true
  net : ∀ i, i < a.length → ∀ j, j < a.length → netB (cell p i j) = true
  turn : ∀ i, i < a.length → ∀ j, j < a.length → cell p i j = w64 (0 - cell p j i)
theorem isB_iff {a : List Acc} {b : List (List Int)} {m : List Int} {p : List (List Int)} : isB a b m p = true ↔ Books a b m p := by
  unfold isB
  simp only [Bool.and_eq_true, decide_eq_true_eq, sqL, cellsB, turnB, allF_zero]
  constructor
  · rintro ⟨h1, h2, ⟨h3, h4⟩, ⟨h5, h6⟩, h7, h8, h9, h10, h11, h12⟩
    exact { n1 := h1, n6 := h2, bl := h3, br := h4, ml := h7, pl := h5, pr := h6, acct := h8, mul := h9, bil := h10, net := h11, turn := h12 }
  · intro h
    exact ⟨h.n1, h.n6, ⟨h.bl, h.br⟩, ⟨h.pl, h.pr⟩, h.ml, h.acct, h.mul, h.bil, h.net, h.turn⟩
theorem giroref10_Copy_eq {k : Nat} (hk : 10 < k) {a : List Acc} {b : List (List Int)} {m : List Int} {p : List (List Int)} (h : Sized a b m p) : giroref10_Copy k a b m p = some (a, b, m, p) := by
  obtain ⟨h1, h2, h3, h4, h5, h6, h7⟩ := h
  unfold giroref10_Copy
  have e1 : roomB (0 + a.length) 24 = true := roomB_true (by omega) (by omega)
  have e2 : roomB (0 + m.length) 8 = true := roomB_true (by omega) (by omega)
  rw [giroref10_rows_eq (s := b) (by omega) (by omega) (fun i hi => by rw [h4 i (by omega)]; omega), giroref10_rows_eq (s := p) (by omega) (by omega) (fun i hi => by rw [h7 i (by omega)]; omega)]
  simp only [e1, e2, cond_true, Option.bind_some]
theorem lim_Copy_eq {k : Nat} (hk : 10 < k) {a : List Acc} {b : List (List Int)} {m : List Int} {p : List (List Int)} (h : Sized a b m p) : lim_Copy k a b m p = some (a, b, m, p) := by
  obtain ⟨h1, h2, h3, h4, h5, h6, h7⟩ := h
  unfold lim_Copy slices_Clone_Acct slices_Clone_int64
  have e1 : roomB (0 + a.length) 24 = true := roomB_true (by omega) (by omega)
  have e2 : roomB (0 + m.length) 8 = true := roomB_true (by omega) (by omega)
  rw [lim_copied_eq (s := b) (by omega) (by omega) (fun i hi => by rw [h4 i (by omega)]; omega), lim_copied_eq (s := p) (by omega) (by omega) (fun i hi => by rw [h7 i (by omega)]; omega)]
  simp only [e1, e2, cond_true, Option.bind_some]
theorem allF_eq {α : Type} (d : α) [DecidableEq α] {a b : List α} (h : a.length = b.length) : allF (fun i => decide (a.getD i d = b.getD i d)) a.length 0 = decide (a = b) := by
  rw [Bool.eq_iff_iff, allF_zero]
  simp only [decide_eq_true_eq]
  exact ⟨fun h' => ext_getD d h h', fun h' => by subst h'; exact fun i hi => rfl⟩
theorem giroref2_Same_eq {k : Nat} {a b : List Int} (hk : a.length < k) (hl : a.length < 9223372036854775808) : giroref2_Same k a b = some (decide (a = b)) := by
  unfold giroref2_Same
  simp only [dec_eq]
  by_cases h : a.length = b.length
  · have := scan0 (L := fun c i => giroref2_Same_L0 k c a b i) (N := a.length) (fun i => decide (a.getD i 0 = b.getD i 0)) (.inl ()) (.inr false) (fun c => by
        show giroref2_Same_L0b k _ a b a.length = _
        unfold giroref2_Same_L0b
        simp only [dec_lt, decide_eq_false (Nat.lt_irrefl _), cond_false]) (fun c i hi => by
        show giroref2_Same_L0b k _ a b i = _
        unfold giroref2_Same_L0b
        simp only [boundOk_nat, w64_succ hi hl, dec_lt, Int.toNat_natCast, ← h, decide_eq_true hi, cond_true]
        cases decide (a.getD i 0 = b.getD i 0) <;> rfl) hk
    rw [allF_eq 0 h] at this
    simp only [h, decide_true, Bool.not_true, cond_false]
    rw [this]
    cases decide (a = b) <;> rfl
  · simp only [decide_eq_false h, Bool.not_false, cond_true]
    rw [decide_eq_false fun e => h (by rw [e])]
theorem giroref10_Rows_eq {k : Nat} {a b : List (List Int)} (hk : a.length < k) (hl : a.length < 9223372036854775808) (hr : ∀ i, i < a.length → (a.getD i []).length < k ∧ (a.getD i []).length < 9223372036854775808) : giroref10_Rows k a b = some (decide (a = b)) := by
  unfold giroref10_Rows
  simp only [dec_eq]
  by_cases h : a.length = b.length
  · have := scan0 (L := fun c i => giroref10_Rows_L0 k c a b i) (N := a.length) (fun i => decide (a.getD i [] = b.getD i [])) (.inl ()) (.inr false) (fun c => by
        show giroref10_Rows_L0b k _ a b a.length = _
        unfold giroref10_Rows_L0b
        simp only [dec_lt, decide_eq_false (Nat.lt_irrefl _), cond_false]) (fun c i hi => by
        show giroref10_Rows_L0b k _ a b i = _
        unfold giroref10_Rows_L0b
        simp only [boundOk_nat, w64_succ hi hl, dec_lt, Int.toNat_natCast, ← h, decide_eq_true hi, cond_true, giroref2_Same_eq (hr i hi).1 (hr i hi).2, Option.bind_some]
        cases decide (a.getD i [] = b.getD i []) <;> rfl) hk
    rw [allF_eq [] h] at this
    simp only [h, decide_true, Bool.not_true, cond_false]
    rw [this]
    cases decide (a = b) <;> rfl
  · simp only [decide_eq_false h, Bool.not_false, cond_true]
    rw [decide_eq_false fun e => h (by rw [e])]
theorem giroref10_Same_eq {k : Nat} (hk : 10 < k) {a : List Acc} {b : List (List Int)} {m : List Int} {p : List (List Int)} (h : Sized a b m p) (a' : List Acc) (b' : List (List Int)) (m' : List Int) (p' : List (List Int)) :
    giroref10_Same k a b m p a' b' m' p' = some (decide (a = a') && (decide (b = b') && (decide (p = p') && decide (m = m')))) := by
  obtain ⟨h1, h2, h3, h4, h5, h6, h7⟩ := h
  unfold giroref10_Same
  simp only [dec_eq]
  by_cases hl : a.length = a'.length
  · rw [giroref10_Rows_eq (a := b) (by omega) (by omega) (fun i hi => by rw [h4 i (by omega)]; omega), giroref10_Rows_eq (a := p) (by omega) (by omega) (fun i hi => by rw [h7 i (by omega)]; omega), giroref2_Same_eq (by omega) (by omega)]
    have := scan0 (L := fun c i => giroref10_Same_L0 k c i a b m p a' b' m' p') (N := a.length) (fun i => decide (a.getD i (0, 0, 0) = a'.getD i (0, 0, 0))) (.inl ()) (.inr false) (fun c => by
        show giroref10_Same_L0b k _ a.length a b m p a' b' m' p' = _
        unfold giroref10_Same_L0b
        simp only [dec_lt, decide_eq_false (Nat.lt_irrefl _), cond_false]) (fun c i hi => by
        show giroref10_Same_L0b k _ i a b m p a' b' m' p' = _
        unfold giroref10_Same_L0b
        simp only [boundOk_nat, w64_succ hi (show a.length < 9223372036854775808 by omega), dec_lt, Int.toNat_natCast, ← hl, decide_eq_true hi, cond_true]
        have e : decide (a.getD i (0, 0, 0) = a'.getD i (0, 0, 0)) = (decide ((a.getD i (0, 0, 0)).1 = (a'.getD i (0, 0, 0)).1) && (decide ((a.getD i (0, 0, 0)).2.1 = (a'.getD i (0, 0, 0)).2.1) && decide ((a.getD i (0, 0, 0)).2.2 = (a'.getD i (0, 0, 0)).2.2))) := by
          rw [Bool.eq_iff_iff]
          simp only [Bool.and_eq_true, decide_eq_true_eq]
          exact ⟨fun h => by rw [h]; exact ⟨rfl, rfl, rfl⟩, fun h => Prod.ext h.1 (Prod.ext h.2.1 h.2.2)⟩
        rw [e]
        generalize (decide ((a.getD i (0, 0, 0)).1 = (a'.getD i (0, 0, 0)).1) && _) = r
        cases r <;> rfl) (show a.length < k by omega)
    rw [allF_eq (0, 0, 0) hl] at this
    simp only [hl, decide_true, Bool.not_true, cond_false, Option.bind_some]
    have e0 : ((0 : Nat) : Int) = 0 := rfl
    rw [this]
    cases decide (b = b') <;> cases decide (p = p') <;> cases decide (m = m') <;> cases decide (a = a') <;> rfl
  · simp only [decide_eq_false hl, Bool.not_false, cond_true]
    rw [decide_eq_false fun e => hl (by rw [e])]
    rfl
end Go.Ab.Gi
