/- What goes two by two: pair.Run is giroref19.Run. -/
import Derived.Test.YtpmkkfbnaohlhaaGiPFree
set_option linter.unusedVariables false
set_option linter.unusedSimpArgs false
namespace Go.Ab.Gi
open Go.Ab

/-- Do they owe each other? -/
def duo (p q : PayT) : Bool := decide (q.2.1 = p.2.2.1) && (decide (q.2.2.1 = p.2.1) && !decide (p.2.1 ≥ q.2.1))

/-- The first that goes with it. -/
def nextQ (k : Nat) (B : BT) (p : PayT) : List PayT → Option (PayT × BT)
  | [] => none
  | q :: l => match (bif duo p q then goes k B [p, q] else none) with
    | some C => some (q, C)
    | none => nextQ k B p l

/-- The first two that go. -/
def nextP (k : Nat) (B : BT) (m : List PayT) : List PayT → Option (PayT × PayT × BT)
  | [] => none
  | p :: l => match nextQ k B p m with
    | some (q, C) => some (p, q, C)
    | none => nextP k B m l

theorem nextQ_some {k : Nat} {B C : BT} {p q : PayT} : ∀ {l : List PayT}, nextQ k B p l = some (q, C) → q ∈ l ∧ duo p q = true ∧ goes k B [p, q] = some C
  | [], h => by cases h
  | r :: l, h => by
    unfold nextQ at h
    cases hd : duo p r with
    | false =>
      rw [hd] at h
      have := nextQ_some (l := l) h
      exact ⟨List.mem_cons_of_mem _ this.1, this.2⟩
    | true =>
      rw [hd] at h
      simp only [cond_true] at h
      cases hg : goes k B [p, r] with
      | some D =>
        rw [hg] at h
        cases h
        exact ⟨List.mem_cons_self .., hd, hg⟩
      | none =>
        rw [hg] at h
        have := nextQ_some (l := l) h
        exact ⟨List.mem_cons_of_mem _ this.1, this.2⟩

theorem nextP_some {k : Nat} {B C : BT} {p q : PayT} {m : List PayT} : ∀ {l : List PayT}, nextP k B m l = some (p, q, C) → p ∈ l ∧ q ∈ m ∧ duo p q = true ∧ goes k B [p, q] = some C
  | [], h => by cases h
  | r :: l, h => by
    unfold nextP at h
    cases hq : nextQ k B r m with
    | some x =>
      obtain ⟨y, D⟩ := x
      rw [hq] at h
      cases h
      exact ⟨List.mem_cons_self .., nextQ_some hq⟩
    | none =>
      rw [hq] at h
      have := nextP_some (l := l) h
      exact ⟨List.mem_cons_of_mem _ this.1, this.2⟩

theorem getD_get {α : Type} {l : List α} {i : Nat} (h : i < l.length) (d : α) : l.getD i d = l[i] := by
  rw [List.getD_eq_getElem?_getD, List.getElem?_eq_getElem h]; rfl

theorem nextQ_drop (k : Nat) (B : BT) (p : PayT) {m : List PayT} {i : Nat} (hi : i < m.length) : nextQ k B p (m.drop i) = match (bif duo p (m.getD i pd) then goes k B [p, m.getD i pd] else none) with
    | some C => some (m.getD i pd, C)
    | none => nextQ k B p (m.drop (i + 1)) := by
  rw [List.drop_eq_getElem_cons hi, getD_get hi]
  rfl

theorem nextP_drop (k : Nat) (B : BT) (r : List PayT) {m : List PayT} {i : Nat} (hi : i < m.length) : nextP k B r (m.drop i) = match nextQ k B (m.getD i pd) r with
    | some (q, C) => some (m.getD i pd, q, C)
    | none => nextP k B r (m.drop (i + 1)) := by
  rw [List.drop_eq_getElem_cons hi, getD_get hi]
  rfl

theorem pair_in {k : Nat} (hk : 100 < k) {B : BT} (h : BooksT B) (m : List PayT) (hm : m.length ≤ 1000) (p : PayT) (s19 s20 : Int) : ∀ c i n, i + c = m.length → c < n →
    pair_next_L1 k n s19 s20 m.length i B.1 B.2.1 B.2.2.1 B.2.2.2 0 0 0 0 0 0 0 0 0 0 0 0 0 0 m p.1 p.2.1 p.2.2.1 p.2.2.2.1 p.2.2.2.2.1 p.2.2.2.2.2.1 p.2.2.2.2.2.2 = some (match nextQ k B p (m.drop i) with
      | some (q, C) => .inr (true, p.1, p.2.1, p.2.2.1, p.2.2.2.1, p.2.2.2.2.1, p.2.2.2.2.2.1, p.2.2.2.2.2.2, q.1, q.2.1, q.2.2.1, q.2.2.2.1, q.2.2.2.2.1, q.2.2.2.2.2.1, q.2.2.2.2.2.2, C.1, C.2.1, C.2.2.1, C.2.2.2)
      | none => .inl (s19, s20, B.1, B.2.1, B.2.2.1, B.2.2.2, 0, 0, 0, 0, 0, 0, 0, 0, 0, 0, 0, 0, 0, 0, m))
  | 0, i, n, e, hn => by
    obtain ⟨n, rfl⟩ : ∃ x, n = x + 1 := ⟨n - 1, by omega⟩
    have : i = m.length := by omega
    subst this
    show pair_next_L1b k _ s19 s20 m.length m.length B.1 B.2.1 B.2.2.1 B.2.2.2 0 0 0 0 0 0 0 0 0 0 0 0 0 0 m p.1 p.2.1 p.2.2.1 p.2.2.2.1 p.2.2.2.2.1 p.2.2.2.2.2.1 p.2.2.2.2.2.2 = _
    unfold pair_next_L1b
    simp only [dec_lt, decide_eq_false (Nat.lt_irrefl _), cond_false, List.drop_length]
    rfl
  | c + 1, i, n, e, hn => by
    obtain ⟨n, rfl⟩ : ∃ x, n = x + 1 := ⟨n - 1, by omega⟩
    have hi : i < m.length := by omega
    have ih := pair_in hk h m hm p s19 s20 c (i + 1) n (by omega) (by omega)
    show pair_next_L1b k _ s19 s20 m.length i B.1 B.2.1 B.2.2.1 B.2.2.2 0 0 0 0 0 0 0 0 0 0 0 0 0 0 m p.1 p.2.1 p.2.2.1 p.2.2.2.1 p.2.2.2.2.1 p.2.2.2.2.2.1 p.2.2.2.2.2.2 = _
    unfold pair_next_L1b
    obtain ⟨r, h1, h2, h3⟩ := giroref16_is hk h (l := [p, m.getD i pd]) (by simp)
    have hf := fits_T hk h (l := [p, m.getD i pd]) (by simp)
    have h1' : post_Post k B.1 B.2.1 B.2.2.1 B.2.2.2 [(p.1, p.2.1, p.2.2.1, p.2.2.2.1, p.2.2.2.2.1, p.2.2.2.2.2.1, p.2.2.2.2.2.2), m.getD i (0, (0, (0, (0, (0, (0, 0))))))] = some r := h1
    have hf' : fits_Fits k B.1 B.2.1 B.2.2.1 B.2.2.2 [(p.1, p.2.1, p.2.2.1, p.2.2.2.1, p.2.2.2.2.1, p.2.2.2.2.2.1, p.2.2.2.2.2.2), m.getD i (0, (0, (0, (0, (0, (0, 0))))))] = some (fitsT B [p, m.getD i pd]) := hf
    simp only [boundOk_nat, w64_succ hi (show m.length < 9223372036854775808 by omega), dec_lt, Int.toNat_natCast, decide_eq_true hi, cond_true, hf', h1', Option.bind_some]
    rw [nextQ_drop k B p hi]
    unfold duo
    cases decide ((m.getD i pd).2.1 = p.2.2.1) with
    | false => exact ih
    | true =>
      cases decide ((m.getD i pd).2.2.1 = p.2.1) with
      | false => exact ih
      | true =>
        cases decide (p.2.1 ≥ (m.getD i pd).2.1) with
        | true => exact ih
        | false =>
          unfold goes
          rw [h1]
          simp only [Bool.not_true, Bool.not_false, Bool.and_true, cond_true, cond_false]
          cases fitsT B [p, m.getD i pd] with
          | false =>
            simp only [Bool.not_false, cond_true, Bool.and_false, cond_false]
            exact ih
          | true =>
            simp only [Bool.not_true, cond_false, Bool.and_true]
            cases decide (r.2.2.2.2 = 0) with
            | false => exact ih
            | true => rfl

theorem pair_out {k : Nat} (hk : 100 < k) {B : BT} (h : BooksT B) (m : List PayT) (hm : m.length ≤ 1000) (hmk : m.length < k) : ∀ c i n, i + c = m.length → c < n →
    pair_next_L0 k n m.length i B.1 B.2.1 B.2.2.1 B.2.2.2 0 0 0 0 0 0 0 0 0 0 0 0 0 0 m = some (match nextP k B m (m.drop i) with
      | some (p, q, C) => .inr (true, p.1, p.2.1, p.2.2.1, p.2.2.2.1, p.2.2.2.2.1, p.2.2.2.2.2.1, p.2.2.2.2.2.2, q.1, q.2.1, q.2.2.1, q.2.2.2.1, q.2.2.2.2.1, q.2.2.2.2.2.1, q.2.2.2.2.2.2, C.1, C.2.1, C.2.2.1, C.2.2.2)
      | none => .inl (0, 0, 0, 0, 0, 0, 0, 0, 0, 0, 0, 0, 0, 0))
  | 0, i, n, e, hn => by
    obtain ⟨n, rfl⟩ : ∃ x, n = x + 1 := ⟨n - 1, by omega⟩
    have : i = m.length := by omega
    subst this
    show pair_next_L0b k _ m.length m.length B.1 B.2.1 B.2.2.1 B.2.2.2 0 0 0 0 0 0 0 0 0 0 0 0 0 0 m = _
    unfold pair_next_L0b
    simp only [dec_lt, decide_eq_false (Nat.lt_irrefl _), cond_false, List.drop_length]
    rfl
  | c + 1, i, n, e, hn => by
    obtain ⟨n, rfl⟩ : ∃ x, n = x + 1 := ⟨n - 1, by omega⟩
    have hi : i < m.length := by omega
    have ih := pair_out hk h m hm hmk c (i + 1) n (by omega) (by omega)
    show pair_next_L0b k _ m.length i B.1 B.2.1 B.2.2.1 B.2.2.2 0 0 0 0 0 0 0 0 0 0 0 0 0 0 m = _
    unfold pair_next_L0b
    have hin := pair_in hk h m hm (m.getD i pd) m.length i m.length 0 k (by omega) hmk
    have e0 : ((0 : Nat) : Int) = 0 := rfl
    rw [e0, List.drop_zero] at hin
    simp only [pd] at hin
    simp only [boundOk_nat, dec_lt, Int.toNat_natCast, decide_eq_true hi, cond_true]
    rw [hin]
    rw [nextP_drop k B m hi]
    simp only [pd]
    cases nextQ k B (m.getD i (0, (0, (0, (0, (0, (0, 0))))))) m with
    | none =>
      simp only [Option.bind_some, w64_succ hi (show m.length < 9223372036854775808 by omega)]
      exact ih
    | some x => rfl

/-- What both next two say. -/
def nextS (x : Option (PayT × PayT × BT)) : Int × Int × Int × Int × Int × Int × Int × Int × Int × Int × Int × Int × Int × Int × (List (Int × Int × Int)) × (List (List Int)) × (List Int) × (List (List Int)) × Bool := match x with
  | some (p, q, C) => (p.1, p.2.1, p.2.2.1, p.2.2.2.1, p.2.2.2.2.1, p.2.2.2.2.2.1, p.2.2.2.2.2.2, q.1, q.2.1, q.2.2.1, q.2.2.2.1, q.2.2.2.2.1, q.2.2.2.2.2.1, q.2.2.2.2.2.2, C.1, C.2.1, C.2.2.1, C.2.2.2, true)
  | none => (0, 0, 0, 0, 0, 0, 0, 0, 0, 0, 0, 0, 0, 0, [], [], [], [], false)

def nextS' (x : Option (PayT × PayT × BT)) : Int × Int × Int × Int × Int × Int × Int × Int × Int × Int × Int × Int × Int × Int × Bool := match x with
  | some (p, q, C) => (p.1, p.2.1, p.2.2.1, p.2.2.2.1, p.2.2.2.2.1, p.2.2.2.2.2.1, p.2.2.2.2.2.2, q.1, q.2.1, q.2.2.1, q.2.2.2.1, q.2.2.2.2.1, q.2.2.2.2.2.1, q.2.2.2.2.2.2, true)
  | none => (0, 0, 0, 0, 0, 0, 0, 0, 0, 0, 0, 0, 0, 0, false)

def pairs (k : Nat) (B : BT) (l : List PayT) (t : Int) : Option (PayT × PayT × BT) := nextP k B (mayL l t) (mayL l t)

theorem pair_next_eq {k : Nat} (hk : 100 < k) {B : BT} (h : BooksT B) {l : List PayT} (hkl : l.length < k) (hl : Small l) (hd : Dist l) (t : Int) : pair_next k B.1 B.2.1 B.2.2.1 B.2.2.2 l t = some (nextS (pairs k B l t)) := by
  unfold pair_next pairs
  rw [view_May_eq hkl hl hd]
  have hml := mayL_length l t
  unfold Small at hl
  have := pair_out hk h (mayL l t) (by omega) (by omega) (mayL l t).length 0 k (by omega) (by omega)
  have e : ((0 : Nat) : Int) = 0 := rfl
  rw [e, List.drop_zero] at this
  simp only [Option.bind_some]
  rw [this]
  cases nextP k B (mayL l t) (mayL l t) with
  | none => rfl
  | some x => rfl

theorem ref_in {k : Nat} (hk : 100 < k) {B : BT} (h : BooksT B) (m : List PayT) (hm : m.length ≤ 1000) {j : Nat} (hj : j < m.length) : ∀ c i n, i + c = m.length → c < n →
    giroref19_Next_L1 k n j i B.1 B.2.1 B.2.2.1 B.2.2.2 0 0 0 0 0 0 0 0 0 0 0 0 0 0 m = some (match nextQ k B (m.getD j pd) (m.drop i) with
      | some (q, C) => .inr (true, (m.getD j pd).1, (m.getD j pd).2.1, (m.getD j pd).2.2.1, (m.getD j pd).2.2.2.1, (m.getD j pd).2.2.2.2.1, (m.getD j pd).2.2.2.2.2.1, (m.getD j pd).2.2.2.2.2.2, q.1, q.2.1, q.2.2.1, q.2.2.2.1, q.2.2.2.2.1, q.2.2.2.2.2.1, q.2.2.2.2.2.2)
      | none => .inl ((j : Int), B.1, B.2.1, B.2.2.1, B.2.2.2, 0, 0, 0, 0, 0, 0, 0, 0, 0, 0, 0, 0, 0, 0, m))
  | 0, i, n, e, hn => by
    obtain ⟨n, rfl⟩ : ∃ x, n = x + 1 := ⟨n - 1, by omega⟩
    have : i = m.length := by omega
    subst this
    show giroref19_Next_L1b k _ j m.length B.1 B.2.1 B.2.2.1 B.2.2.2 0 0 0 0 0 0 0 0 0 0 0 0 0 0 m = _
    unfold giroref19_Next_L1b
    simp only [dec_lt, decide_eq_false (Nat.lt_irrefl _), cond_false, List.drop_length]
    rfl
  | c + 1, i, n, e, hn => by
    obtain ⟨n, rfl⟩ : ∃ x, n = x + 1 := ⟨n - 1, by omega⟩
    have hi : i < m.length := by omega
    have ih := ref_in hk h m hm hj c (i + 1) n (by omega) (by omega)
    show giroref19_Next_L1b k _ j i B.1 B.2.1 B.2.2.1 B.2.2.2 0 0 0 0 0 0 0 0 0 0 0 0 0 0 m = _
    unfold giroref19_Next_L1b
    obtain ⟨C, h1, h2⟩ := giroref18_Goes_eq hk h (l := [m.getD j pd, m.getD i pd]) (by simp)
    simp only [pd] at h1
    simp only [boundOk_nat, w64_succ hi (show m.length < 9223372036854775808 by omega), dec_lt, Int.toNat_natCast, decide_eq_true hi, decide_eq_true hj, cond_true, h1, Option.bind_some]
    rw [nextQ_drop k B _ hi]
    unfold duo
    cases decide ((m.getD i pd).2.1 = (m.getD j pd).2.2.1) with
    | false => exact ih
    | true =>
      cases decide ((m.getD i pd).2.2.1 = (m.getD j pd).2.1) with
      | false => exact ih
      | true =>
        cases decide ((m.getD j pd).2.1 ≥ (m.getD i pd).2.1) with
        | true => exact ih
        | false =>
          simp only [Bool.not_true, Bool.not_false, Bool.and_true, cond_true, cond_false]
          simp only [pd]
          cases hg : goes k B [m.getD j (0, (0, (0, (0, (0, (0, 0)))))), m.getD i (0, (0, (0, (0, (0, (0, 0))))))] with
          | none => exact ih
          | some D => rfl

theorem ref_out {k : Nat} (hk : 100 < k) {B : BT} (h : BooksT B) (m : List PayT) (hm : m.length ≤ 1000) (hmk : m.length < k) : ∀ c i n, i + c = m.length → c < n →
    giroref19_Next_L0 k n i B.1 B.2.1 B.2.2.1 B.2.2.2 0 0 0 0 0 0 0 0 0 0 0 0 0 0 m = some (match nextP k B m (m.drop i) with
      | some (p, q, C) => .inr (true, p.1, p.2.1, p.2.2.1, p.2.2.2.1, p.2.2.2.2.1, p.2.2.2.2.2.1, p.2.2.2.2.2.2, q.1, q.2.1, q.2.2.1, q.2.2.2.1, q.2.2.2.2.1, q.2.2.2.2.2.1, q.2.2.2.2.2.2)
      | none => .inl (0, 0, 0, 0, 0, 0, 0, 0, 0, 0, 0, 0, 0, 0))
  | 0, i, n, e, hn => by
    obtain ⟨n, rfl⟩ : ∃ x, n = x + 1 := ⟨n - 1, by omega⟩
    have : i = m.length := by omega
    subst this
    show giroref19_Next_L0b k _ m.length B.1 B.2.1 B.2.2.1 B.2.2.2 0 0 0 0 0 0 0 0 0 0 0 0 0 0 m = _
    unfold giroref19_Next_L0b
    simp only [dec_lt, decide_eq_false (Nat.lt_irrefl _), cond_false, List.drop_length]
    rfl
  | c + 1, i, n, e, hn => by
    obtain ⟨n, rfl⟩ : ∃ x, n = x + 1 := ⟨n - 1, by omega⟩
    have hi : i < m.length := by omega
    have ih := ref_out hk h m hm hmk c (i + 1) n (by omega) (by omega)
    show giroref19_Next_L0b k _ i B.1 B.2.1 B.2.2.1 B.2.2.2 0 0 0 0 0 0 0 0 0 0 0 0 0 0 m = _
    unfold giroref19_Next_L0b
    have hin := ref_in hk h m hm hi m.length 0 k (by omega) hmk
    have e0 : ((0 : Nat) : Int) = 0 := rfl
    rw [e0, List.drop_zero] at hin
    simp only [dec_lt, decide_eq_true hi, cond_true]
    rw [hin]
    rw [nextP_drop k B m hi]
    cases nextQ k B (m.getD i pd) m with
    | none =>
      simp only [Option.bind_some, w64_succ hi (show m.length < 9223372036854775808 by omega)]
      exact ih
    | some x => rfl

theorem giroref19_Next_eq {k : Nat} (hk : 100 < k) {B : BT} (h : BooksT B) {l : List PayT} (hkl : l.length < k) (hl : Small l) (t : Int) : giroref19_Next k B.1 B.2.1 B.2.2.1 B.2.2.2 l t = some (nextS' (pairs k B l t)) := by
  unfold giroref19_Next pairs
  rw [giroref14_May_eq hkl hl]
  have hml := mayL_length l t
  unfold Small at hl
  have := ref_out hk h (mayL l t) (by omega) (by omega) (mayL l t).length 0 k (by omega) (by omega)
  have e : ((0 : Nat) : Int) = 0 := rfl
  rw [e, List.drop_zero] at this
  simp only [Option.bind_some]
  rw [this]
  cases nextP k B (mayL l t) (mayL l t) with
  | none => rfl
  | some x => rfl
end Go.Ab.Gi
