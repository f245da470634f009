/- giroref13.Is: of distinct numbers. -/
import Derived.Test.YtdlamiafpciphaaGiPRow
set_option linter.unusedVariables false
set_option linter.unusedSimpArgs false
namespace Go.Ab.Gi
open Go.Ab

theorem is13_some {k : Nat} {l : List PayT} (hk : l.length < k) (hl : l.length < 9223372036854775808) : ∃ x, giroref13_Is k l = some x ∧ (x = true → Dist l) := by
  obtain ⟨x, h1, h2⟩ : ∃ x, giroref13_Is_L0 k k l 0 = some x ∧ ((∃ z, x = .inl z) → (∀ i, i < l.length → posI l (l.getD i pd).1 = (i : Int))) ∧ (∀ y, x = .inr y → y = false) := by
    have hA : ∀ a b c d e f g a' b' c' d' e' f' g', ∃ y, giroref13_ahead k a b c d e f g a' b' c' d' e' f' g' = some y := by
      intros
      unfold giroref13_ahead
      rename_i a b c d e f g a' b' c' d' e' f' g'
      cases decide (b < b') <;> cases decide (b = b') <;> exact ⟨_, rfl⟩
    have hL : ∀ c i n, i + c = l.length → c < n → ∃ x, giroref13_Is_L0 k n l i = some x ∧ ((∃ z, x = .inl z) → (∀ j, i ≤ j → j < l.length → posI l (l.getD j pd).1 = (j : Int))) ∧ (∀ y, x = .inr y → y = false) := by
      intro c
      induction c with
      | zero =>
        intro i n e hn
        obtain ⟨n, rfl⟩ : ∃ x, n = x + 1 := ⟨n - 1, by omega⟩
        have : i = l.length := by omega
        subst this
        refine ⟨.inl l, ?_, fun _ j h1 h2 => absurd h1 (by omega), fun y h => by cases h⟩
        show giroref13_Is_L0b k _ l l.length = _
        unfold giroref13_Is_L0b
        simp only [dec_lt, decide_eq_false (Nat.lt_irrefl _), cond_false]
      | succ c ih =>
        intro i n e hn
        obtain ⟨n, rfl⟩ : ∃ x, n = x + 1 := ⟨n - 1, by omega⟩
        have hi : i < l.length := by omega
        obtain ⟨x, h1, h2, h3⟩ := ih (i + 1) n (by omega) (by omega)
        show ∃ x, giroref13_Is_L0b k _ l i = some x ∧ _
        unfold giroref13_Is_L0b
        have hF := giroref13_Find_eq hk hl (l.getD i pd).1
        simp only [pd] at hF
        simp only [boundOk_nat, w64_succ hi hl, dec_lt, Int.toNat_natCast, decide_eq_true hi, cond_true, hF, Option.bind_some]
        cases hp : decide (posI l (l.getD i pd).1 = (i : Int)) with
        | false =>
          exact ⟨.inr false, rfl, (fun ⟨z, h⟩ => by cases h), (fun y h => by cases h; rfl)⟩
        | true =>
          have hp' : posI l (l.getD i pd).1 = (i : Int) := by simpa using hp
          simp only [Bool.not_true, cond_false]
          have hfin : ∃ x, giroref13_Is_L0 k n l ((i + 1 : Nat) : Int) = some x ∧ ((∃ z, x = .inl z) → (∀ j, i ≤ j → j < l.length → posI l (l.getD j pd).1 = (j : Int))) ∧ (∀ y, x = .inr y → y = false) := by
            refine ⟨x, h1, fun hz j j1 j2 => ?_, h3⟩
            by_cases c : j = i
            · subst c; exact hp'
            · exact h2 hz j (by omega) j2
          cases i with
          | zero =>
            have : decide (((0 : Nat) : Int) > 0) = false := rfl
            rw [this]
            exact hfin
          | succ i =>
            have c1 : decide (((i + 1 : Nat) : Int) > 0) = true := decide_eq_true (by omega)
            have c2 : w64 (((i + 1 : Nat) : Int) - 1) = (i : Int) := by rw [w64_id (by omega) (by omega)]; omega
            have c3 : decide (i < l.length) = true := decide_eq_true (by omega)
            simp only [c1, c2, c3, boundOk_nat, cond_true, Int.toNat_natCast]
            obtain ⟨y, hy⟩ := hA (l.getD i pd).1 (l.getD i pd).2.1 (l.getD i pd).2.2.1 (l.getD i pd).2.2.2.1 (l.getD i pd).2.2.2.2.1 (l.getD i pd).2.2.2.2.2.1 (l.getD i pd).2.2.2.2.2.2 (l.getD (i + 1) pd).1 (l.getD (i + 1) pd).2.1 (l.getD (i + 1) pd).2.2.1 (l.getD (i + 1) pd).2.2.2.1 (l.getD (i + 1) pd).2.2.2.2.1 (l.getD (i + 1) pd).2.2.2.2.2.1 (l.getD (i + 1) pd).2.2.2.2.2.2
            simp only [pd] at hy
            rw [hy]
            simp only [Option.bind_some]
            cases y with
            | false => exact ⟨.inr false, rfl, (fun ⟨z, h⟩ => by cases h), (fun y h => by cases h; rfl)⟩
            | true => exact hfin
    obtain ⟨x, h1, h2, h3⟩ := hL l.length 0 k (by omega) hk
    exact ⟨x, h1, fun hz i hi => h2 hz i (Nat.zero_le _) hi, h3⟩
  unfold giroref13_Is
  rw [h1]
  cases x with
  | inr y =>
    refine ⟨y, rfl, fun e => ?_⟩
    have := h2.2 y rfl
    rw [this] at e
    cases e
  | inl z =>
    refine ⟨_, rfl, fun _ => ?_⟩
    have hall := h2.1 ⟨z, rfl⟩
    unfold Dist
    rw [List.pairwise_iff_getElem]
    intro i j hi hj hij e
    have e1 := hall i hi
    have e2 := hall j hj
    have g1 : l.getD i pd = l[i] := by rw [List.getD_eq_getElem?_getD, List.getElem?_eq_getElem hi]; rfl
    have g2 : l.getD j pd = l[j] := by rw [List.getD_eq_getElem?_getD, List.getElem?_eq_getElem hj]; rfl
    rw [g1] at e1
    rw [g2, ← e] at e2
    omega
end Go.Ab.Gi
