/- What giroref19.Next says. -/
import Derived.Test.YtdlamiafpciphaaGreatGiPPairG
import Derived.Test.YtdlamiafpciphaaGreatGiPFreeR
set_option linter.unusedVariables false
set_option linter.unusedSimpArgs false
namespace Go.Ab.Gi
open Go.Ab

def nextS' (x : Option (PayT × PayT × BT)) : Int × Int × Int × Int × Int × Int × Int × Int × Int × Int × Int × Int × Int × Int × Bool := match x with
  | some (p, q, C) => (p.1, p.2.1, p.2.2.1, p.2.2.2.1, p.2.2.2.2.1, p.2.2.2.2.2.1, p.2.2.2.2.2.2, q.1, q.2.1, q.2.2.1, q.2.2.2.1, q.2.2.2.2.1, q.2.2.2.2.2.1, q.2.2.2.2.2.2, true)
  | none => (0, 0, 0, 0, 0, 0, 0, 0, 0, 0, 0, 0, 0, 0, false)

theorem ref_in {k : Nat} (hk : 100 < k) {B : BT} (h : BooksT B) (m : List PayT) (hm : m.length ≤ 1000) {j : Nat} (hj : j < m.length) : ∀ c i n, i + c = m.length → c < n →
    giroref19_Next_L1 k n j i B.1 B.2.1 B.2.2.1 B.2.2.2 0 0 0 0 0 0 0 0 0 0 0 0 0 0 m = some (match nextQ k B (m.getD j pd) (m.drop i) with
      | some (q, C) => .inr (true, (m.getD j pd).1, (m.getD j pd).2.1, (m.getD j pd).2.2.1, (m.getD j pd).2.2.2.1, (m.getD j pd).2.2.2.2.1, (m.getD j pd).2.2.2.2.2.1, (m.getD j pd).2.2.2.2.2.2, q.1, q.2.1, q.2.2.1, q.2.2.2.1, q.2.2.2.2.1, q.2.2.2.2.2.1, q.2.2.2.2.2.2)
      | none => .inl ((j : Int), B.1, B.2.1, B.2.2.1, B.2.2.2, 0, 0, 0, 0, 0, 0, 0, 0, 0, 0, 0, 0, 0, 0, m))
  | 0, i, n, e, hn => by
    obtain ⟨n, rfl⟩ : ∃ x, n = x + 1 := ⟨n - 1, by omega⟩
    have : i = m.length := by omega
    subst this
    show giroref19_Next_L1b k _ j m.length B.1 B.2.1 B.2.2.1 B.2.2.2 0 0 0 0 0 0 0 0 0 0 0 0 0 0 m = _
    unfold giroref19_Next_L1b
    simp only [dec_lt, decide_eq_false (Nat.lt_irrefl _), cond_false, List.drop_length]
    rfl
  | c + 1, i, n, e, hn => by
    obtain ⟨n, rfl⟩ : ∃ x, n = x + 1 := ⟨n - 1, by omega⟩
    have hi : i < m.length := by omega
    have ih := ref_in hk h m hm hj c (i + 1) n (by omega) (by omega)
    show giroref19_Next_L1b k _ j i B.1 B.2.1 B.2.2.1 B.2.2.2 0 0 0 0 0 0 0 0 0 0 0 0 0 0 m = _
    unfold giroref19_Next_L1b
    obtain ⟨C, h1, h2⟩ := giroref18_Goes_eq hk h (l := [m.getD j pd, m.getD i pd]) (by simp)
    simp only [pd] at h1
    simp only [boundOk_nat, w64_succ hi (show m.length < 9223372036854775808 by omega), dec_lt, Int.toNat_natCast, decide_eq_true hi, decide_eq_true hj, cond_true, h1, Option.bind_some]
    rw [nextQ_drop k B _ hi]
    unfold duo
    cases decide ((m.getD i pd).2.1 = (m.getD j pd).2.2.1) with
    | false => exact ih
    | true =>
      cases decide ((m.getD i pd).2.2.1 = (m.getD j pd).2.1) with
      | false => exact ih
      | true =>
        cases decide ((m.getD j pd).2.1 ≥ (m.getD i pd).2.1) with
        | true => exact ih
        | false =>
          simp only [Bool.not_true, Bool.not_false, Bool.and_true, cond_true, cond_false]
          simp only [pd]
          cases hg : goes k B [m.getD j (0, (0, (0, (0, (0, (0, 0)))))), m.getD i (0, (0, (0, (0, (0, (0, 0))))))] with
          | none => exact ih
          | some D => rfl

theorem ref_out {k : Nat} (hk : 100 < k) {B : BT} (h : BooksT B) (m : List PayT) (hm : m.length ≤ 1000) (hmk : m.length < k) : ∀ c i n, i + c = m.length → c < n →
    giroref19_Next_L0 k n i B.1 B.2.1 B.2.2.1 B.2.2.2 0 0 0 0 0 0 0 0 0 0 0 0 0 0 m = some (match nextP k B m (m.drop i) with
      | some (p, q, C) => .inr (true, p.1, p.2.1, p.2.2.1, p.2.2.2.1, p.2.2.2.2.1, p.2.2.2.2.2.1, p.2.2.2.2.2.2, q.1, q.2.1, q.2.2.1, q.2.2.2.1, q.2.2.2.2.1, q.2.2.2.2.2.1, q.2.2.2.2.2.2)
      | none => .inl (0, 0, 0, 0, 0, 0, 0, 0, 0, 0, 0, 0, 0, 0))
  | 0, i, n, e, hn => by
    obtain ⟨n, rfl⟩ : ∃ x, n = x + 1 := ⟨n - 1, by omega⟩
    have : i = m.length := by omega
    subst this
    show giroref19_Next_L0b k _ m.length B.1 B.2.1 B.2.2.1 B.2.2.2 0 0 0 0 0 0 0 0 0 0 0 0 0 0 m = _
    unfold giroref19_Next_L0b
    simp only [dec_lt, decide_eq_false (Nat.lt_irrefl _), cond_false, List.drop_length]
    rfl
  | c + 1, i, n, e, hn => by
    obtain ⟨n, rfl⟩ : ∃ x, n = x + 1 := ⟨n - 1, by omega⟩
    have hi : i < m.length := by omega
    have ih := ref_out hk h m hm hmk c (i + 1) n (by omega) (by omega)
    show giroref19_Next_L0b k _ i B.1 B.2.1 B.2.2.1 B.2.2.2 0 0 0 0 0 0 0 0 0 0 0 0 0 0 m = _
    unfold giroref19_Next_L0b
    have hin := ref_in hk h m hm hi m.length 0 k (by omega) hmk
    have e0 : ((0 : Nat) : Int) = 0 := rfl
    rw [e0, List.drop_zero] at hin
    simp only [dec_lt, decide_eq_true hi, cond_true]
    rw [hin]
    rw [nextP_drop k B m hi]
    cases nextQ k B (m.getD i pd) m with
    | none =>
      simp only [Option.bind_some, w64_succ hi (show m.length < 9223372036854775808 by omega)]
      exact ih
    | some x => rfl

theorem giroref19_Next_eq {k : Nat} (hk : 100 < k) {B : BT} (h : BooksT B) {l : List PayT} (hkl : l.length < k) (hl : Small l) (t : Int) : giroref19_Next k B.1 B.2.1 B.2.2.1 B.2.2.2 l t = some (nextS' (pairs k B l t)) := by
  unfold giroref19_Next pairs
  rw [giroref14_May_eq hkl hl]
  have hml := mayL_length l t
  unfold Small at hl
  have := ref_out hk h (mayL l t) (by omega) (by omega) (mayL l t).length 0 k (by omega) (by omega)
  have e : ((0 : Nat) : Int) = 0 := rfl
  rw [e, List.drop_zero] at this
  simp only [Option.bind_some]
  rw [this]
  cases nextP k B (mayL l t) (mayL l t) with
  | none => rfl
  | some x => rfl
end Go.Ab.Gi
