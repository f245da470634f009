/- What goes alone: free.Run is giroref18.Run. -/
import Derived.Test.YtpmkkfbnaohlhaaGiPRow
import Derived.Test.YtpmkkfbnaohlhaaGiPBooks
set_option linter.unusedVariables false
set_option linter.unusedSimpArgs false
namespace Go.Ab.Gi
open Go.Ab

abbrev BT := List Acc × List (List Int) × List Int × List (List Int)
def BooksT (B : BT) : Prop := Books B.1 B.2.1 B.2.2.1 B.2.2.2

/-- What both posts come to. -/
theorem giroref16_is {k : Nat} (hk : 100 < k) {B : BT} (h : BooksT B) {l : List PayT} (hl : l.length ≤ 80) :
    ∃ r, post_Post k B.1 B.2.1 B.2.2.1 B.2.2.2 l = some r ∧ giroref16_Post k B.1 B.2.1 B.2.2.1 B.2.2.2 l = some r ∧ PostIs B.1 B.2.1 B.2.2.1 B.2.2.2 l r := by
  obtain ⟨r, h1, h2⟩ := post_Post_eq hk h hl
  obtain ⟨r', h3, h4⟩ := giroref16_Post_eq hk h hl
  have := h2.same h4
  subst this
  exact ⟨r, h1, h3, h2⟩

def fitsT (B : BT) (l : List PayT) : Bool := fitsB B.1 B.2.1 B.2.2.1 B.2.2.2 l

/-- What they come to if all of them go. -/
def goes (k : Nat) (B : BT) (l : List PayT) : Option BT := match post_Post k B.1 B.2.1 B.2.2.1 B.2.2.2 l with
  | some r => bif decide (r.2.2.2.2 = 0) && fitsT B l then some (r.1, r.2.1, r.2.2.1, r.2.2.2.1) else none
  | none => none

theorem goes_books {k : Nat} (hk : 100 < k) {B C : BT} (h : BooksT B) {l : List PayT} (hl : l.length ≤ 80) (hg : goes k B l = some C) : BooksT C ∧ C.1.length = B.1.length := by
  obtain ⟨r, h1, h2, h3⟩ := giroref16_is hk h hl
  unfold goes at hg
  rw [h1] at hg
  simp only at hg
  cases hc : decide (r.2.2.2.2 = 0) && fitsT B l with
  | false =>
    rw [hc] at hg
    cases hg
  | true =>
    rw [hc] at hg
    simp only [cond_true, Option.some.injEq] at hg
    subst hg
    refine ⟨(stays h h3).2.1, ?_⟩
    have := stays h h3
    by_cases c : Row B.1.length l
    · obtain ⟨a', p', x, e⟩ := h3.1 c
      cases hi : isB a' B.2.1 B.2.2.1 p' with
      | false => rw [hi] at e; subst e; rfl
      | true => rw [hi] at e; subst e; exact x.al
    · rw [h3.2 c]

/-- The first that goes alone. -/
def nextL (k : Nat) (B : BT) : List PayT → Option (PayT × BT)
  | [] => none
  | p :: l => match goes k B [p] with
    | some C => some (p, C)
    | none => nextL k B l

theorem nextL_some {k : Nat} {B C : BT} {p : PayT} : ∀ {l : List PayT}, nextL k B l = some (p, C) → p ∈ l ∧ goes k B [p] = some C
  | [], h => by cases h
  | q :: l, h => by
    unfold nextL at h
    cases hg : goes k B [q] with
    | some D =>
      rw [hg] at h
      cases h
      exact ⟨List.mem_cons_self .., hg⟩
    | none =>
      rw [hg] at h
      have := nextL_some h
      exact ⟨List.mem_cons_of_mem _ this.1, this.2⟩

theorem nextL_drop (k : Nat) (B : BT) {m : List PayT} {i : Nat} (hi : i < m.length) : nextL k B (m.drop i) = match goes k B [m.getD i pd] with
    | some C => some (m.getD i pd, C)
    | none => nextL k B (m.drop (i + 1)) := by
  rw [List.drop_eq_getElem_cons hi]
  have e : m.getD i pd = m[i] := by rw [List.getD_eq_getElem?_getD, List.getElem?_eq_getElem hi]; rfl
  rw [e]
  rfl

theorem fits_T {k : Nat} (hk : 100 < k) {B : BT} (h : BooksT B) {l : List PayT} (hl : l.length ≤ 80) : fits_Fits k B.1 B.2.1 B.2.2.1 B.2.2.2 l = some (fitsT B l) := fits_Fits_eq hk h hl
theorem ref_fits_T {k : Nat} (hk : 100 < k) {B : BT} (h : BooksT B) {l : List PayT} (hl : l.length ≤ 80) : giroref15_Fits k B.1 B.2.1 B.2.2.1 B.2.2.2 l = some (fitsT B l) := giroref15_Fits_eq hk h hl

theorem free_next_loop {k : Nat} (hk : 100 < k) {B : BT} (h : BooksT B) (m : List PayT) (hm : m.length ≤ 1000) : ∀ c i n, i + c = m.length → c < n →
    free_next_L0 k n m.length i B.1 B.2.1 B.2.2.1 B.2.2.2 0 0 0 0 0 0 0 m = some (match nextL k B (m.drop i) with
      | some (p, C) => .inr (true, p.1, p.2.1, p.2.2.1, p.2.2.2.1, p.2.2.2.2.1, p.2.2.2.2.2.1, p.2.2.2.2.2.2, C.1, C.2.1, C.2.2.1, C.2.2.2)
      | none => .inl (B.1, B.2.1, B.2.2.1, B.2.2.2, 0, 0, 0, 0, 0, 0, 0))
  | 0, i, n, e, hn => by
    obtain ⟨n, rfl⟩ : ∃ x, n = x + 1 := ⟨n - 1, by omega⟩
    have : i = m.length := by omega
    subst this
    show free_next_L0b k _ m.length m.length B.1 B.2.1 B.2.2.1 B.2.2.2 0 0 0 0 0 0 0 m = _
    unfold free_next_L0b
    simp only [dec_lt, decide_eq_false (Nat.lt_irrefl _), cond_false, List.drop_length]
    rfl
  | c + 1, i, n, e, hn => by
    obtain ⟨n, rfl⟩ : ∃ x, n = x + 1 := ⟨n - 1, by omega⟩
    have hi : i < m.length := by omega
    have ih := free_next_loop hk h m hm c (i + 1) n (by omega) (by omega)
    show free_next_L0b k _ m.length i B.1 B.2.1 B.2.2.1 B.2.2.2 0 0 0 0 0 0 0 m = _
    unfold free_next_L0b
    obtain ⟨r, h1, h2, h3⟩ := giroref16_is hk h (l := [m.getD i pd]) (by simp)
    have hf := fits_T hk h (l := [m.getD i pd]) (by simp)
    simp only [pd] at h1 hf
    simp only [boundOk_nat, w64_succ hi (show m.length < 9223372036854775808 by omega), dec_lt, Int.toNat_natCast, decide_eq_true hi, cond_true, hf, h1, Option.bind_some]
    rw [nextL_drop k B hi]
    unfold goes
    simp only [pd, h1]
    cases fitsT B [m.getD i (0, (0, (0, (0, (0, (0, 0))))))] with
    | false =>
      simp only [Bool.not_false, cond_true, Bool.and_false, cond_false]
      exact ih
    | true =>
      simp only [Bool.not_true, cond_false, Bool.and_true]
      cases decide (r.2.2.2.2 = 0) with
      | false => exact ih
      | true => rfl

/-- What both next ones say. -/
def nextR (B : BT) (x : Option (PayT × BT)) : Int × Int × Int × Int × Int × Int × Int × (List (Int × Int × Int)) × (List (List Int)) × (List Int) × (List (List Int)) × Bool := match x with
  | some (p, C) => (p.1, p.2.1, p.2.2.1, p.2.2.2.1, p.2.2.2.2.1, p.2.2.2.2.2.1, p.2.2.2.2.2.2, C.1, C.2.1, C.2.2.1, C.2.2.2, true)
  | none => (0, 0, 0, 0, 0, 0, 0, B.1, B.2.1, B.2.2.1, B.2.2.2, false)

theorem mayL_length (l : List PayT) (t : Int) : (mayL l t).length ≤ l.length := Nat.le_trans (List.length_filter_le _ _) (List.length_filter_le _ _)

theorem free_next_eq {k : Nat} (hk : 100 < k) {B : BT} (h : BooksT B) {l : List PayT} (hkl : l.length < k) (hl : Small l) (hd : Dist l) (t : Int) : free_next k B.1 B.2.1 B.2.2.1 B.2.2.2 l t = some (nextR B (nextL k B (mayL l t))) := by
  unfold free_next
  rw [view_May_eq hkl hl hd]
  have hml := mayL_length l t
  unfold Small at hl
  have := free_next_loop hk h (mayL l t) (by omega) (mayL l t).length 0 k (by omega) (by omega)
  have e : ((0 : Nat) : Int) = 0 := rfl
  rw [e, List.drop_zero] at this
  simp only [Option.bind_some]
  rw [this]
  cases nextL k B (mayL l t) with
  | none => rfl
  | some x => rfl

theorem slc_one (m : List PayT) (i : Nat) (hi : i < m.length) : slc m (0 + i) (i + 1 - i) = [m.getD i pd] := by
  unfold slc
  rw [Nat.zero_add, show i + 1 - i = 1 by omega, List.drop_eq_getElem_cons hi, List.getD_eq_getElem?_getD, List.getElem?_eq_getElem hi]
  rfl

theorem giroref18_Goes_eq {k : Nat} (hk : 100 < k) {B : BT} (h : BooksT B) {l : List PayT} (hl : l.length ≤ 80) :
    ∃ C : BT, giroref18_Goes k B.1 B.2.1 B.2.2.1 B.2.2.2 l = some (C.1, C.2.1, C.2.2.1, C.2.2.2, (goes k B l).isSome) ∧ (∀ D, goes k B l = some D → D = C) := by
  obtain ⟨r, h1, h2, h3⟩ := giroref16_is hk h hl
  unfold giroref18_Goes goes
  rw [h2, h1, ref_fits_T hk h hl]
  refine ⟨(r.1, r.2.1, r.2.2.1, r.2.2.2.1), ?_, ?_⟩
  · simp only [Option.bind_some]
    cases decide (r.2.2.2.2 = 0) <;> cases fitsT B l <;> rfl
  · intro D
    simp only
    cases decide (r.2.2.2.2 = 0) <;> cases fitsT B l <;> intro e <;> cases e
    rfl

theorem giroref18_Next_loop {k : Nat} (hk : 100 < k) {B : BT} (h : BooksT B) (m : List PayT) (hm : m.length ≤ 1000) : ∀ c i n, i + c = m.length → c < n →
    giroref18_Next_L0 k n i B.1 B.2.1 B.2.2.1 B.2.2.2 0 0 0 0 0 0 0 m = some (match nextL k B (m.drop i) with
      | some (p, C) => .inr (true, p.1, p.2.1, p.2.2.1, p.2.2.2.1, p.2.2.2.2.1, p.2.2.2.2.2.1, p.2.2.2.2.2.2)
      | none => .inl (0, 0, 0, 0, 0, 0, 0))
  | 0, i, n, e, hn => by
    obtain ⟨n, rfl⟩ : ∃ x, n = x + 1 := ⟨n - 1, by omega⟩
    have : i = m.length := by omega
    subst this
    show giroref18_Next_L0b k _ m.length B.1 B.2.1 B.2.2.1 B.2.2.2 0 0 0 0 0 0 0 m = _
    unfold giroref18_Next_L0b
    simp only [dec_lt, decide_eq_false (Nat.lt_irrefl _), cond_false, List.drop_length]
    rfl
  | c + 1, i, n, e, hn => by
    obtain ⟨n, rfl⟩ : ∃ x, n = x + 1 := ⟨n - 1, by omega⟩
    have hi : i < m.length := by omega
    have ih := giroref18_Next_loop hk h m hm c (i + 1) n (by omega) (by omega)
    show giroref18_Next_L0b k _ i B.1 B.2.1 B.2.2.1 B.2.2.2 0 0 0 0 0 0 0 m = _
    unfold giroref18_Next_L0b
    obtain ⟨C, h1, h2⟩ := giroref18_Goes_eq hk h (l := [m.getD i pd]) (by simp)
    have c1 : decide ((0 : Int) ≤ (i : Int)) = true := by simp
    have c2 : decide ((i : Int) ≤ ((i + 1 : Nat) : Int)) = true := decide_eq_true (by omega)
    have c3 : decide (((i + 1 : Nat) : Int) ≤ (m.length : Int)) = true := decide_eq_true (by omega)
    simp only [boundOk_nat, w64_succ hi (show m.length < 9223372036854775808 by omega), dec_lt, Int.toNat_natCast, decide_eq_true hi, cond_true, c1, c2, c3, Bool.and_true, slc_one m i hi, h1, Option.bind_some]
    rw [nextL_drop k B hi]
    cases goes k B [m.getD i pd] with
    | none => exact ih
    | some D => rfl

theorem giroref18_Next_eq {k : Nat} (hk : 100 < k) {B : BT} (h : BooksT B) {l : List PayT} (hkl : l.length < k) (hl : Small l) (t : Int) : giroref18_Next k B.1 B.2.1 B.2.2.1 B.2.2.2 l t = some (match nextL k B (mayL l t) with
      | some (p, C) => (p.1, p.2.1, p.2.2.1, p.2.2.2.1, p.2.2.2.2.1, p.2.2.2.2.2.1, p.2.2.2.2.2.2, true)
      | none => (0, 0, 0, 0, 0, 0, 0, false)) := by
  unfold giroref18_Next
  rw [giroref14_May_eq hkl hl]
  have hml := mayL_length l t
  unfold Small at hl
  have := giroref18_Next_loop hk h (mayL l t) (by omega) (mayL l t).length 0 k (by omega) (by omega)
  have e : ((0 : Nat) : Int) = 0 := rfl
  rw [e, List.drop_zero] at this
  simp only [Option.bind_some]
  rw [this]
  cases nextL k B (mayL l t) with
  | none => rfl
  | some x => rfl

/-- A row without one of it. -/
def dropL (l : List PayT) (id : Int) : List PayT := (dropR l id).1

theorem dropL_of {l : List PayT} {p : PayT} (h : p ∈ l) : (dropL l p.1).length + 1 = l.length ∧ List.Sublist (dropL l p.1) l := by
  obtain ⟨x, hx⟩ := posL_mem h
  unfold dropL dropR
  rw [hx]
  have := (posL_some hx).1
  refine ⟨?_, cutL_sub l x⟩
  show (cutL l x).length + 1 = l.length
  rw [cutL_length this]
  omega

theorem mayL_mem {l : List PayT} {t : Int} {p : PayT} (h : p ∈ mayL l t) : p ∈ l := (List.mem_filter.1 (List.mem_filter.1 h).1).1

/-- What goes alone, one by one. -/
inductive Ran (k : Nat) (t : Int) : BT → List PayT → List PayT → BT → List PayT → Prop
  | stop {B : BT} {l : List PayT} (h : nextL k B (mayL l t) = none) : Ran k t B l [] B l
  | step {B C D : BT} {l m done : List PayT} {p : PayT} (h : nextL k B (mayL l t) = some (p, C)) (h' : Ran k t C (dropL l p.1) done D m) : Ran k t B l (p :: done) D m

theorem run_lock {k : Nat} (hk : 100 < k) (t : Int) : ∀ (n : Nat) (B : BT) (l r : List PayT), BooksT B → Dist l → l.length ≤ 100 → l.length < n → r.length + l.length ≤ 1000 →
    ∃ (C : BT) (m done : List PayT), free_Run_L0 k n t l B.1 B.2.1 B.2.2.1 B.2.2.2 r = some (m, C.1, C.2.1, C.2.2.1, C.2.2.2, r ++ done) ∧ giroref18_Run_L0 k n l t B.1 B.2.1 B.2.2.1 B.2.2.2 r = some (m, C.1, C.2.1, C.2.2.1, C.2.2.2, r ++ done) ∧ Ran k t B l done C m ∧ BooksT C ∧ C.1.length = B.1.length ∧ List.Sublist m l
  | 0, _, _, _, _, _, _, h, _ => absurd h (Nat.not_lt_zero _)
  | n + 1, B, l, r, hb, hd, hl, hn, hr => by
    have h1 := free_next_eq hk hb (l := l) (by omega) (by show l.length ≤ 1000; omega) hd t
    have h2 := giroref18_Next_eq hk hb (l := l) (by omega) (by show l.length ≤ 1000; omega) t
    cases hx : nextL k B (mayL l t) with
    | none =>
      rw [hx] at h1 h2
      refine ⟨B, l, [], ?_, ?_, .stop hx, hb, rfl, List.Sublist.refl _⟩
      · show free_Run_L0b k _ t l B.1 B.2.1 B.2.2.1 B.2.2.2 r = _
        unfold free_Run_L0b
        rw [h1]
        simp only [Option.bind_some, nextR, Bool.not_false, cond_true, List.append_nil]
      · show giroref18_Run_L0b k _ l t B.1 B.2.1 B.2.2.1 B.2.2.2 r = _
        unfold giroref18_Run_L0b
        rw [h2]
        simp only [Option.bind_some, nextR, Bool.not_false, cond_true, List.append_nil]
    | some x =>
      obtain ⟨p, C⟩ := x
      rw [hx] at h1 h2
      obtain ⟨hp, hg⟩ := nextL_some hx
      have hpl := mayL_mem hp
      obtain ⟨hl1, hl2⟩ := dropL_of hpl
      obtain ⟨hc1, hc2⟩ := goes_books hk hb (by simp) hg
      obtain ⟨D, m, done, g1, g2, g3, g4, g5, g6⟩ := run_lock hk t n C (dropL l p.1) (r ++ [p]) hc1 (List.Pairwise.sublist hl2 hd) (by omega) (by omega) (by rw [List.length_append]; simp; omega)
      refine ⟨D, m, p :: done, ?_, ?_, .step hx g3, g4, g5.trans hc2, g6.trans hl2⟩
      · show free_Run_L0b k _ t l B.1 B.2.1 B.2.2.1 B.2.2.2 r = _
        unfold free_Run_L0b
        rw [h1]
        simp only [Option.bind_some, nextR, Bool.not_true, cond_false, row_Drop_eq (show l.length < k by omega) (show Small l by show l.length ≤ 1000; omega), room56 (show r.length ≤ 1000 by omega), cond_true]
        rw [List.append_cons r p done, ← g1]
        rfl
      · show giroref18_Run_L0b k _ l t B.1 B.2.1 B.2.2.1 B.2.2.2 r = _
        unfold giroref18_Run_L0b
        rw [h2]
        obtain ⟨C', e1, e2⟩ := giroref18_Goes_eq hk hb (l := [p]) (by simp)
        have := e2 C hg
        subst this
        simp only [Option.bind_some, Bool.not_true, cond_false, giroref13_Drop_eq (show l.length < k by omega) (show Small l by show l.length ≤ 1000; omega), room56 (show r.length ≤ 1000 by omega), cond_true]
        rw [List.append_cons r p done, ← g2]
        have e1' : giroref18_Goes k B.1 B.2.1 B.2.2.1 B.2.2.2 [(p.1, p.2.1, p.2.2.1, p.2.2.2.1, p.2.2.2.2.1, p.2.2.2.2.2.1, p.2.2.2.2.2.2)] = _ := e1
        rw [e1']
        rfl

/-- What both runs come to. -/
theorem run_both {k : Nat} (hk : 200 ≤ k) {B : BT} (hb : BooksT B) {l : List PayT} (hd : Dist l) (hl : l.length ≤ 100) (t : Int) :
    ∃ (C : BT) (m done : List PayT), free_Run k B.1 B.2.1 B.2.2.1 B.2.2.2 l t = some (C.1, C.2.1, C.2.2.1, C.2.2.2, m, done) ∧ giroref18_Run k B.1 B.2.1 B.2.2.1 B.2.2.2 l t = some (C.1, C.2.1, C.2.2.1, C.2.2.2, m, done) ∧ Ran k t B l done C m ∧ BooksT C ∧ C.1.length = B.1.length ∧ List.Sublist m l := by
  obtain ⟨C, m, done, h1, h2, h3⟩ := run_lock (show 100 < k by omega) t k B l [] hb hd hl (by omega) (by simp; omega)
  refine ⟨C, m, done, ?_, ?_, h3⟩
  · unfold free_Run
    rw [h1]
    rfl
  · unfold giroref18_Run
    rw [h2]
    rfl
end Go.Ab.Gi
