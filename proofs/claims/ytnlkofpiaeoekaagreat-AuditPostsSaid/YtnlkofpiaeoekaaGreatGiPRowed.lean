/- Rows put together, of distinct numbers. -/
import Derived.Test.YtnlkofpiaeoekaaGreatGiPRow
set_option linter.unusedVariables false
set_option linter.unusedSimpArgs false
namespace Go.Ab.Gi
open Go.Ab

theorem behind_loop (k : Nat) (l : List PayT) (hl : l.length ≤ 1000) (a b c d e f g : Int) : ∀ cc i n, i + cc = l.length → cc < n → ∃ x : Nat, x ≤ l.length ∧ giroref13_behind_L0 k n l i a b c d e f g = some (x : Int)
  | 0, i, n, h, hn => by
    obtain ⟨n, rfl⟩ : ∃ x, n = x + 1 := ⟨n - 1, by omega⟩
    have : i = l.length := by omega
    subst this
    refine ⟨l.length, Nat.le_refl _, ?_⟩
    show giroref13_behind_L0b k _ l l.length a b c d e f g = _
    unfold giroref13_behind_L0b
    simp only [dec_lt, decide_eq_false (Nat.lt_irrefl _), cond_false]
  | cc + 1, i, n, h, hn => by
    obtain ⟨n, rfl⟩ : ∃ x, n = x + 1 := ⟨n - 1, by omega⟩
    have hi : i < l.length := by omega
    obtain ⟨x, h1, h2⟩ := behind_loop k l hl a b c d e f g cc (i + 1) n (by omega) (by omega)
    have hA : ∀ a b c d e f g a' b' c' d' e' f' g', ∃ y, giroref13_ahead k a b c d e f g a' b' c' d' e' f' g' = some y := by
      intros
      unfold giroref13_ahead
      rename_i a b c d e f g a' b' c' d' e' f' g'
      cases decide (b < b') <;> cases decide (b = b') <;> exact ⟨_, rfl⟩
    obtain ⟨y, hy⟩ := hA (l.getD i pd).1 (l.getD i pd).2.1 (l.getD i pd).2.2.1 (l.getD i pd).2.2.2.1 (l.getD i pd).2.2.2.2.1 (l.getD i pd).2.2.2.2.2.1 (l.getD i pd).2.2.2.2.2.2 a b c d e f g
    simp only [pd] at hy
    show ∃ x : Nat, x ≤ l.length ∧ giroref13_behind_L0b k _ l i a b c d e f g = _
    unfold giroref13_behind_L0b
    simp only [boundOk_nat, w64_succ hi (show l.length < 9223372036854775808 by omega), dec_lt, Int.toNat_natCast, decide_eq_true hi, cond_true, hy, Option.bind_some]
    cases y with
    | true => exact ⟨x, h1, h2⟩
    | false => exact ⟨i, by omega, rfl⟩

theorem Dist.insert {l : List PayT} (h : Dist l) (p : PayT) (hp : ∀ q ∈ l, q.1 ≠ p.1) (x : Nat) : Dist ((l.take x ++ [p]) ++ l.drop x) := by
  have hs := List.pairwise_append.1 (by rw [List.take_append_drop]; exact h : Dist (l.take x ++ l.drop x))
  apply List.pairwise_append.2
  refine ⟨List.pairwise_append.2 ⟨hs.1, List.pairwise_singleton _ _, ?_⟩, hs.2.1, ?_⟩
  · intro q hq r hr
    rw [List.mem_singleton] at hr
    subst hr
    exact hp q (List.mem_of_mem_take hq)
  · intro q hq r hr
    rw [List.mem_append, List.mem_singleton] at hq
    rcases hq with hq | rfl
    · exact hs.2.2 q hq r hr
    · exact fun e => hp r (List.mem_of_mem_drop hr) e.symm

theorem giroref13_Put_eq {k : Nat} {l : List PayT} (hk : l.length < k) (hl : Small l) (hd : Dist l) (p : PayT) :
    ∃ r, giroref13_Put k l p.1 p.2.1 p.2.2.1 p.2.2.2.1 p.2.2.2.2.1 p.2.2.2.2.2.1 p.2.2.2.2.2.2 = some r ∧ (r.2 = 0 → Dist r.1 ∧ r.1.length = l.length + 1 ∧ ∃ x, r.1 = (l.take x ++ [p]) ++ l.drop x) := by
  unfold Small at hl
  unfold giroref13_Put
  rw [giroref13_Find_eq hk (by omega)]
  simp only [Option.bind_some]
  unfold posI
  cases hp : posL l p.1 with
  | some x =>
    have : decide ((x : Int) ≥ 0) = true := by simp
    simp only [this, cond_true]
    exact ⟨_, rfl, fun e => by simp at e⟩
  | none =>
    have : decide ((-1 : Int) ≥ 0) = false := rfl
    simp only [this, cond_false]
    cases h40 : decide (((l.length : Nat) : Int) ≥ 40) with
    | true => exact ⟨_, rfl, fun e => by simp at e⟩
    | false =>
      simp only [cond_false]
      obtain ⟨x, h1, h2⟩ := behind_loop k l hl p.1 p.2.1 p.2.2.1 p.2.2.2.1 p.2.2.2.2.1 p.2.2.2.2.2.1 p.2.2.2.2.2.2 l.length 0 k (by omega) (by omega)
      have h2' : giroref13_behind_L0 k k l 0 p.1 p.2.1 p.2.2.1 p.2.2.2.1 p.2.2.2.2.1 p.2.2.2.2.2.1 p.2.2.2.2.2.2 = some (x : Int) := h2
      unfold giroref13_behind
      rw [h2']
      unfold giroref13_insert
      have l1 := List.length_take_le x l
      have l2 : (l.drop x).length ≤ l.length := by rw [List.length_drop]; omega
      have e1 : decide ((0 : Int) ≤ (x : Int)) = true := by simp
      have e2 : decide ((x : Int) ≤ (l.length : Int)) = true := decide_eq_true (by omega)
      have e6 : roomB (0 + (l.take x).length) 56 = true := roomB_true (by omega) (by omega)
      have e7 : roomB ((l.take x).length + 1) 56 = true := roomB_true (by omega) (by omega)
      have e8 : roomB ((l.take x ++ [p]).length + (l.drop x).length) 56 = true := roomB_true (by rw [List.length_append]; simp; omega) (by rw [List.length_append]; simp; omega)
      have e8' : roomB ((l.take x ++ [(p.1, p.2.1, p.2.2.1, p.2.2.2.1, p.2.2.2.2.1, p.2.2.2.2.2.1, p.2.2.2.2.2.2)]).length + (l.drop x).length) 56 = true := e8
      simp only [Option.bind_some, e1, e2, Bool.and_true, cond_true, Int.toNat_natCast, e6, e7, e8']
      refine ⟨_, rfl, fun _ => ⟨hd.insert p (posL_none hp) x, ?_, x, rfl⟩⟩
      show ((l.take x ++ [p]) ++ l.drop x).length = _
      rw [List.length_append, List.length_append, List.length_take, List.length_drop]
      simp
      omega
end Go.Ab.Gi
