/- part 8 -/
import Derived.Test.YtdhajnjinkknkaaGreatGiPLim
set_option linter.unusedVariables false
set_option linter.unusedSimpArgs false
set_option linter.unusedSectionVars false
namespace Go.Ab.Gi
open Go.Ab
theorem giroref10_rows_L0_eq {k N : Nat} {s : List (List Int)} (hN : s.length = N) (hl : N ≤ 1000) (hr : ∀ i, i < N → (s.getD i []).length ≤ 1000) : ∀ (c i n : Nat), i + c = N → c < n → giroref10_rows_L0 k n s i (s.take i) = some s
 | 0, i, n, h, hn => by
  obtain ⟨n, rfl⟩ : ∃ m, n = m + 1 := ⟨n - 1, by omega⟩
  show giroref10_rows_L0b k _ s i (s.take i) = _
  unfold giroref10_rows_L0b
  have : ¬ i < s.length := by omega
  simp only [dec_lt, decide_eq_false this, cond_false]
  rw [List.take_of_length_le (by omega)]
 | c + 1, i, n, h, hn => by
  obtain ⟨n, rfl⟩ : ∃ m, n = m + 1 := ⟨n - 1, by omega⟩
  show giroref10_rows_L0b k _ s i (s.take i) = _
  unfold giroref10_rows_L0b
  have hi : i < s.length := by omega
  have h1 := hr i (by omega)
  have e1 : roomB (0 + (s.getD i []).length) 8 = true := roomB_true (by omega) (by omega)
  have e2 : roomB ((s.take i).length + 1) 24 = true := roomB_true (by rw [List.length_take]; omega) (by rw [List.length_take]; omega)
  simp only [boundOk_nat, w64_succ hi (show s.length < 9223372036854775808 by omega), dec_lt, Int.toNat_natCast, decide_eq_true hi, cond_true, e1, e2]
  rw [take_snoc s i [] hi]
  exact giroref10_rows_L0_eq hN hl hr c (i + 1) n (by omega) (by omega)
theorem giroref10_rows_eq {k : Nat} {s : List (List Int)} (hl : s.length ≤ 1000) (hk : s.length < k) (hr : ∀ i, i < s.length → (s.getD i []).length ≤ 1000) : giroref10_rows k s = some s := by
 unfold giroref10_rows
 have := giroref10_rows_L0_eq (k := k) rfl hl hr s.length 0 k (by omega) hk
 rw [List.take_zero] at this
 have e : ((0 : Nat) : Int) = 0 := rfl
 rw [e] at this
 rw [this]
 rfl
theorem lim_copied_L0_eq {k N : Nat} {s : List (List Int)} (hN : s.length = N) (hl : N ≤ 1000) (hr : ∀ i, i < N → (s.getD i []).length ≤ 1000) : ∀ (c i n : Nat), i + c = N → c < n → lim_copied_L0 k n s N i (s.take i) N = some (s, N)
 | 0, i, n, h, hn => by
  obtain ⟨n, rfl⟩ : ∃ m, n = m + 1 := ⟨n - 1, by omega⟩
  show lim_copied_L0b k _ s N i (s.take i) N = _
  unfold lim_copied_L0b
  have : ¬ i < N := by omega
  simp only [dec_lt, decide_eq_false this, cond_false]
  rw [List.take_of_length_le (by omega)]
 | c + 1, i, n, h, hn => by
  obtain ⟨n, rfl⟩ : ∃ m, n = m + 1 := ⟨n - 1, by omega⟩
  show lim_copied_L0b k _ s N i (s.take i) N = _
  unfold lim_copied_L0b slices_Clone_int64
  have hi : i < N := by omega
  have h1 := hr i (by omega)
  have e1 : roomB (0 + (s.getD i []).length) 8 = true := roomB_true (by omega) (by omega)
  have e2 : Nat.beq i (s.take i).length = true := by rw [List.length_take, Nat.min_eq_left (by omega)]; simp
  simp only [boundOk_nat, w64_succ hi (show N < 9223372036854775808 by omega), dec_lt, Int.toNat_natCast, decide_eq_true hi, cond_true, e1, e2, hN, Option.bind_some]
  rw [take_snoc s i [] (by omega)]
  exact lim_copied_L0_eq hN hl hr c (i + 1) n (by omega) (by omega)
theorem lim_copied_eq {k : Nat} {s : List (List Int)} (hl : s.length ≤ 1000) (hk : s.length < k) (hr : ∀ i, i < s.length → (s.getD i []).length ≤ 1000) : lim_copied k s = some s := by
 unfold lim_copied slices_Clone_Rowint64
 have := lim_copied_L0_eq (k := k) rfl hl hr s.length 0 k (by omega) hk
 rw [List.take_zero] at this
 have e : ((0 : Nat) : Int) = 0 := rfl
 rw [e] at this
 have e1 : roomB (0 + s.length) 24 = true := roomB_true (by omega) (by omega)
 simp only [e1, cond_true, Option.bind_some]
 rw [this]
 simp only [Option.bind_some, pmatEnd_eq]
 simp
structure Sized (a : List Acc) (b : List (List Int)) (m : List Int) (p : List (List Int)) : Prop where
 n1 : 1 ≤ a.length
 n6 : a.length ≤ 6
 bl : b.length = a.length
 br : ∀ i, i < a.length → (b.getD i []).length = a.length
 ml : m.length = a.length
 pl : p.length = a.length
 pr : ∀ i, i < a.length → (p.getD i []).length = a.length
structure Books (a : List Acc) (b : List (List Int)) (m : List Int) (p : List (List Int)) : Prop extends Sized a b m p where
 acct : ∀ i, i < a.length → acctB (a.getD i (0, 0, 0)) = true
 mul : ∀ i, i < a.length → limB (m.getD i 0) = true
 bil : ∀ i, i < a.length → ∀ j, j < a.length → limB (cell b i j) = true
 net : ∀ i, i < a.length → ∀ j, j < a.length → netB (cell p i j) = true
 turn : ∀ i, i < a.length → ∀ j, j < a.length → cell p i j = w64 (0 - cell p j i)
theorem isB_iff {a : List Acc} {b : List (List Int)} {m : List Int} {p : List (List Int)} : isB a b m p = true ↔ Books a b m p := by
 unfold isB
 simp only [Bool.and_eq_true, decide_eq_true_eq, sqL, cellsB, turnB, allF_zero]
 constructor
 ·rintro ⟨h1, h2, ⟨h3, h4⟩, ⟨h5, h6⟩, h7, h8, h9, h10, h11, h12⟩
  exact { n1 := h1, n6 := h2, bl := h3, br := h4, ml := h7, pl := h5, pr := h6, acct := h8, mul := h9, bil := h10, net := h11, turn := h12 }
 ·intro h
  exact ⟨h.n1, h.n6, ⟨h.bl, h.br⟩, ⟨h.pl, h.pr⟩, h.ml, h.acct, h.mul, h.bil, h.net, h.turn⟩
theorem giroref10_Copy_eq {k : Nat} (hk : 10 < k) {a : List Acc} {b : List (List Int)} {m : List Int} {p : List (List Int)} (h : Sized a b m p) : giroref10_Copy k a b m p = some (a, b, m, p) := by
 obtain ⟨h1, h2, h3, h4, h5, h6, h7⟩ := h
 unfold giroref10_Copy
 have e1 : roomB (0 + a.length) 24 = true := roomB_true (by omega) (by omega)
 have e2 : roomB (0 + m.length) 8 = true := roomB_true (by omega) (by omega)
 rw [giroref10_rows_eq (s := b) (by omega) (by omega) (fun i hi => by rw [h4 i (by omega)]; omega), giroref10_rows_eq (s := p) (by omega) (by omega) (fun i hi => by rw [h7 i (by omega)]; omega)]
 simp only [e1, e2, cond_true, Option.bind_some]
theorem lim_Copy_eq {k : Nat} (hk : 10 < k) {a : List Acc} {b : List (List Int)} {m : List Int} {p : List (List Int)} (h : Sized a b m p) : lim_Copy k a b m p = some (a, b, m, p) := by
 obtain ⟨h1, h2, h3, h4, h5, h6, h7⟩ := h
 unfold lim_Copy slices_Clone_Acct slices_Clone_int64
 have e1 : roomB (0 + a.length) 24 = true := roomB_true (by omega) (by omega)
 have e2 : roomB (0 + m.length) 8 = true := roomB_true (by omega) (by omega)
 rw [lim_copied_eq (s := b) (by omega) (by omega) (fun i hi => by rw [h4 i (by omega)]; omega), lim_copied_eq (s := p) (by omega) (by omega) (fun i hi => by rw [h7 i (by omega)]; omega)]
 simp only [e1, e2, cond_true, Option.bind_some]
end Go.Ab.Gi
