/- FreeBooks, FreeRuns, FreeEnds. -/
import Derived.Test.YtpmkkfbnaohlhaaGiPRowed
import Derived.Test.YtpmkkfbnaohlhaaGiPSome18
set_option linter.unusedVariables false
set_option linter.unusedSimpArgs false
namespace Go.Ab.Gi
open Go.Ab

theorem ex_cond {α β : Type} {z : Bool} {x y : β} {f : α → β} {Q : α → Prop} (h : ∃ s, x = f s ∧ Q s) (h' : ∃ s, y = f s ∧ Q s) : ∃ s, (bif z then x else y) = f s ∧ Q s := by
  cases z
  · exact h'
  · exact h

/-- Numbers are told apart, payments are drawn. -/
theorem rowed18 {k : Nat} {l : List PayT} (hk : l.length < k) (hl : l.length ≤ 100) : ∃ r, girolaw18_rowed k l = some r ∧ Dist r ∧ r.length ≤ l.length := by
  obtain ⟨r, h1, h2, h3⟩ := carryE0 (L := fun n i (s : List PayT) => girolaw18_rowed_L0 k n l s i) (N := l.length) (fun s => s) (fun i s => Dist s ∧ s.length ≤ i) (fun n s _ => by
    show girolaw18_rowed_L0b k _ l s l.length = _
    unfold girolaw18_rowed_L0b
    simp only [dec_lt, decide_eq_false (Nat.lt_irrefl _), cond_false]) (fun n i s hi hs => by
    show ∃ s', girolaw18_rowed_L0b k _ l s i = _ ∧ _
    unfold girolaw18_rowed_L0b
    simp only [boundOk_nat, w64_succ hi (show l.length < 9223372036854775808 by omega), dec_lt, Int.toNat_natCast, decide_eq_true hi, cond_true]
    have hP : ∀ (p : PayT), ∃ r, giroref13_Put k s p.1 p.2.1 p.2.2.1 p.2.2.2.1 p.2.2.2.2.1 p.2.2.2.2.2.1 p.2.2.2.2.2.2 = some r ∧ (r.2 = 0 → Dist r.1 ∧ r.1.length = s.length + 1) := fun p => by
      obtain ⟨r, h1, h2⟩ := giroref13_Put_eq (k := k) (l := s) (by omega) (by show s.length ≤ 1000; omega) hs.1 p
      exact ⟨r, h1, fun e => ⟨(h2 e).1, (h2 e).2.1⟩⟩
    have hQ : ∀ (a b c d e f g : Int), ∃ s', (giroref13_Put k s a b c d e f g).bind (fun x0 => bif decide (x0.2 = 0) then girolaw18_rowed_L0 k n l x0.1 ((i + 1 : Nat) : Int) else girolaw18_rowed_L0 k n l s ((i + 1 : Nat) : Int)) = girolaw18_rowed_L0 k n l s' ((i + 1 : Nat) : Int) ∧ (Dist s' ∧ s'.length ≤ i + 1) := by
      intro a b c d e f g
      obtain ⟨r, h1, h2⟩ := hP (a, b, c, d, e, f, g)
      simp only at h1
      rw [h1]
      simp only [Option.bind_some]
      cases hc : decide (r.2 = 0) with
      | true =>
        have := h2 (by simpa using hc)
        exact ⟨r.1, rfl, this.1, by omega⟩
      | false => exact ⟨s, rfl, hs.1, by omega⟩
    exact ex_cond (hQ _ _ _ _ _ _ _) (hQ _ _ _ _ _ _ _)) (s := []) hk ⟨List.Pairwise.nil, Nat.le_refl _⟩
  have h1' : girolaw18_rowed_L0 k k l [] 0 = some r := h1
  refine ⟨r, ?_, h2, h3⟩
  unfold girolaw18_rowed
  rw [h1']
  rfl

theorem same18 {k : Nat} (hk : 100 < k) {B : BT} (h : BooksT B) {l m : List PayT} (hl : l.length ≤ 100) (hm : m.length ≤ 100) (hl' : l.length < k) (hm' : m.length < k) :
    girolaw18_same k B.1 B.2.1 B.2.2.1 B.2.2.2 l m B.1 B.2.1 B.2.2.1 B.2.2.2 l m = some true := by
  unfold girolaw18_same
  rw [giroref10_Same_eq (by omega) h.toSized, giroref11_Same_eq hl' (by omega), giroref11_Same_eq hm' (by omega)]
  simp

theorem known18 : girolaw18_known 200 = some true := by kernel_rfl

theorem Ran.length {k : Nat} {t : Int} {B C : BT} {l done m : List PayT} (h : Ran k t B l done C m) : done.length + m.length = l.length := by
  induction h with
  | stop _ => simp
  | step h _ ih =>
    have := (dropL_of (mayL_mem (nextL_some h).1)).1
    simp only [List.length_cons]
    omega

theorem freeRuns (have' : List Int) (way : Int) (l : List PayT) (t : Int) : girolaw18_FreeRuns 200 have' way l t = some true := by
  unfold girolaw18_FreeRuns
  cases h30 : decide (((l.length : Nat) : Int) > 30) with
  | true => rfl
  | false =>
    have hl : l.length ≤ 30 := by simp at h30; omega
    simp only [cond_false, some18_eq (k := 200) (by omega)]
    obtain ⟨r, h1, h2, h3⟩ := rowed18 (k := 200) (l := l) (by omega) (by omega)
    rw [h1]
    simp only [Option.bind_some]
    have hB : BooksT (sA have' way, sB way, sM way, sP way) := some_books have' way
    have hN := free_next_eq (k := 200) (by omega) hB (l := r) (by omega) (by show r.length ≤ 1000; omega) h2 t
    have hM := giroref18_Next_eq (k := 200) (by omega) hB (l := r) (by omega) (by show r.length ≤ 1000; omega) t
    obtain ⟨C, m, done, g1, g2, g3, g4, g5, g6⟩ := run_both (k := 200) (by omega) hB h2 (by omega) t
    simp only at hN hM g1 g2
    unfold free_Next
    rw [hN, hM, g1, g2]
    have gl := g3.length
    have hS := same18 (k := 200) (by omega) g4 (l := m) (m := done) (by omega) (by omega) (by omega) (by omega)
    simp only [Option.bind_some, hS, known18]
    cases nextL 200 (sA have' way, sB way, sM way, sP way) (mayL r t) with
    | none => rfl
    | some x => simp [nextR, eqBool]

theorem is13_some {k : Nat} {l : List PayT} (hk : l.length < k) (hl : l.length < 9223372036854775808) : ∃ x, giroref13_Is k l = some x ∧ (x = true → Dist l) := by
  obtain ⟨x, h1, h2⟩ : ∃ x, giroref13_Is_L0 k k l 0 = some x ∧ ((∃ z, x = .inl z) → (∀ i, i < l.length → posI l (l.getD i pd).1 = (i : Int))) ∧ (∀ y, x = .inr y → y = false) := by
    have hA : ∀ a b c d e f g a' b' c' d' e' f' g', ∃ y, giroref13_ahead k a b c d e f g a' b' c' d' e' f' g' = some y := by
      intros
      unfold giroref13_ahead
      rename_i a b c d e f g a' b' c' d' e' f' g'
      cases decide (b < b') <;> cases decide (b = b') <;> exact ⟨_, rfl⟩
    have hL : ∀ c i n, i + c = l.length → c < n → ∃ x, giroref13_Is_L0 k n l i = some x ∧ ((∃ z, x = .inl z) → (∀ j, i ≤ j → j < l.length → posI l (l.getD j pd).1 = (j : Int))) ∧ (∀ y, x = .inr y → y = false) := by
      intro c
      induction c with
      | zero =>
        intro i n e hn
        obtain ⟨n, rfl⟩ : ∃ x, n = x + 1 := ⟨n - 1, by omega⟩
        have : i = l.length := by omega
        subst this
        refine ⟨.inl l, ?_, fun _ j h1 h2 => absurd h1 (by omega), fun y h => by cases h⟩
        show giroref13_Is_L0b k _ l l.length = _
        unfold giroref13_Is_L0b
        simp only [dec_lt, decide_eq_false (Nat.lt_irrefl _), cond_false]
      | succ c ih =>
        intro i n e hn
        obtain ⟨n, rfl⟩ : ∃ x, n = x + 1 := ⟨n - 1, by omega⟩
        have hi : i < l.length := by omega
        obtain ⟨x, h1, h2, h3⟩ := ih (i + 1) n (by omega) (by omega)
        show ∃ x, giroref13_Is_L0b k _ l i = some x ∧ _
        unfold giroref13_Is_L0b
        have hF := giroref13_Find_eq hk hl (l.getD i pd).1
        simp only [pd] at hF
        simp only [boundOk_nat, w64_succ hi hl, dec_lt, Int.toNat_natCast, decide_eq_true hi, cond_true, hF, Option.bind_some]
        cases hp : decide (posI l (l.getD i pd).1 = (i : Int)) with
        | false =>
          exact ⟨.inr false, rfl, (fun ⟨z, h⟩ => by cases h), (fun y h => by cases h; rfl)⟩
        | true =>
          have hp' : posI l (l.getD i pd).1 = (i : Int) := by simpa using hp
          simp only [Bool.not_true, cond_false]
          have hfin : ∃ x, giroref13_Is_L0 k n l ((i + 1 : Nat) : Int) = some x ∧ ((∃ z, x = .inl z) → (∀ j, i ≤ j → j < l.length → posI l (l.getD j pd).1 = (j : Int))) ∧ (∀ y, x = .inr y → y = false) := by
            refine ⟨x, h1, fun hz j j1 j2 => ?_, h3⟩
            by_cases c : j = i
            · subst c; exact hp'
            · exact h2 hz j (by omega) j2
          cases i with
          | zero =>
            have : decide (((0 : Nat) : Int) > 0) = false := rfl
            rw [this]
            exact hfin
          | succ i =>
            have c1 : decide (((i + 1 : Nat) : Int) > 0) = true := decide_eq_true (by omega)
            have c2 : w64 (((i + 1 : Nat) : Int) - 1) = (i : Int) := by rw [w64_id (by omega) (by omega)]; omega
            have c3 : decide (i < l.length) = true := decide_eq_true (by omega)
            simp only [c1, c2, c3, boundOk_nat, cond_true, Int.toNat_natCast]
            obtain ⟨y, hy⟩ := hA (l.getD i pd).1 (l.getD i pd).2.1 (l.getD i pd).2.2.1 (l.getD i pd).2.2.2.1 (l.getD i pd).2.2.2.2.1 (l.getD i pd).2.2.2.2.2.1 (l.getD i pd).2.2.2.2.2.2 (l.getD (i + 1) pd).1 (l.getD (i + 1) pd).2.1 (l.getD (i + 1) pd).2.2.1 (l.getD (i + 1) pd).2.2.2.1 (l.getD (i + 1) pd).2.2.2.2.1 (l.getD (i + 1) pd).2.2.2.2.2.1 (l.getD (i + 1) pd).2.2.2.2.2.2
            simp only [pd] at hy
            rw [hy]
            simp only [Option.bind_some]
            cases y with
            | false => exact ⟨.inr false, rfl, (fun ⟨z, h⟩ => by cases h), (fun y h => by cases h; rfl)⟩
            | true => exact hfin
    obtain ⟨x, h1, h2, h3⟩ := hL l.length 0 k (by omega) hk
    exact ⟨x, h1, fun hz i hi => h2 hz i (Nat.zero_le _) hi, h3⟩
  unfold giroref13_Is
  rw [h1]
  cases x with
  | inr y =>
    refine ⟨y, rfl, fun e => ?_⟩
    have := h2.2 y rfl
    rw [this] at e
    cases e
  | inl z =>
    refine ⟨_, rfl, fun _ => ?_⟩
    have hall := h2.1 ⟨z, rfl⟩
    unfold Dist
    rw [List.pairwise_iff_getElem]
    intro i j hi hj hij e
    have e1 := hall i hi
    have e2 := hall j hj
    have g1 : l.getD i pd = l[i] := by rw [List.getD_eq_getElem?_getD, List.getElem?_eq_getElem hi]; rfl
    have g2 : l.getD j pd = l[j] := by rw [List.getD_eq_getElem?_getD, List.getElem?_eq_getElem hj]; rfl
    rw [g1] at e1
    rw [g2, ← e] at e2
    omega

theorem freeBooks (a : List Acc) (b : List (List Int)) (m : List Int) (p : List (List Int)) (l : List PayT) (t : Int) (hlen : l.length < 9223372036854775808) : ∃ k, girolaw18_FreeBooks k a b m p l t = some true := by
  by_cases h30 : l.length ≤ 30
  case neg =>
    refine ⟨200 + l.length, ?_⟩
    unfold girolaw18_FreeBooks
    rw [giroref10_Is_eq (by omega)]
    simp only [Option.bind_some]
    cases isB a b m p with
    | false => rfl
    | true =>
      obtain ⟨x, h1, _⟩ := is13_some (k := 200 + l.length) (l := l) (by omega) hlen
      have e : decide (((l.length : Nat) : Int) > 30) = true := decide_eq_true (by omega)
      simp only [Bool.not_true, cond_false, h1, Option.bind_some, e, cond_true]
      cases x <;> rfl
  case pos =>
    refine ⟨200, ?_⟩
    unfold girolaw18_FreeBooks
    rw [giroref10_Is_eq (by omega)]
    simp only [Option.bind_some]
    cases hB : isB a b m p with
    | false => rfl
    | true =>
      have hB' : BooksT (a, b, m, p) := isB_iff.1 hB
      obtain ⟨x, h1, h2⟩ := is13_some (k := 200) (l := l) (by omega) hlen
      have e : decide (((l.length : Nat) : Int) > 30) = false := decide_eq_false (by omega)
      simp only [Bool.not_true, cond_false, h1, Option.bind_some, e]
      cases x with
      | false => rfl
      | true =>
        rw [giroref15_All_eq (by omega) hlen]
        simp only [Bool.not_true, cond_false, Option.bind_some]
        cases (allMay a.length l && decide (l.length ≤ 64)) with
        | false => rfl
        | true =>
          obtain ⟨C, m', done, g1, g2, g3, g4, g5, g6⟩ := run_both (k := 200) (by omega) hB' (h2 rfl) (by omega) t
          have gl := g3.length
          have hS := same18 (k := 200) (by omega) g4 (l := m') (m := done) (by omega) (by omega) (by omega) (by omega)
          simp only at g1 g2
          rw [g1, g2]
          simp only [Bool.not_true, cond_false, Option.bind_some, hS, known18]
          rfl

theorem goes_fits {k : Nat} {B C : BT} {l : List PayT} (h : goes k B l = some C) : fitsT B l = true ∧ ∃ r, post_Post k B.1 B.2.1 B.2.2.1 B.2.2.2 l = some r ∧ r.2.2.2.2 = 0 ∧ C = (r.1, r.2.1, r.2.2.1, r.2.2.2.1) := by
  unfold goes at h
  cases hp : post_Post k B.1 B.2.1 B.2.2.1 B.2.2.2 l with
  | none => rw [hp] at h; cases h
  | some r =>
    rw [hp] at h
    simp only at h
    cases h1 : decide (r.2.2.2.2 = 0) with
    | false => rw [h1] at h; cases h
    | true =>
      cases h2 : fitsT B l with
      | false => rw [h1, h2] at h; cases h
      | true =>
        rw [h1, h2] at h
        cases h
        exact ⟨rfl, r, rfl, by simpa using h1, rfl⟩

theorem drop_cons {α : Type} {l m : List α} {p d : α} {i : Nat} (h : l.drop i = p :: m) : i < l.length ∧ l.getD i d = p ∧ l.drop (i + 1) = m := by
  have hi : i < l.length := by
    by_cases c : i < l.length
    · exact c
    · rw [List.drop_eq_nil_iff.2 (by omega)] at h
      cases h
  rw [List.drop_eq_getElem_cons hi] at h
  injection h with h1 h2
  refine ⟨hi, ?_, h2⟩
  rw [List.getD_eq_getElem?_getD, List.getElem?_eq_getElem hi]
  exact h1

theorem posI_mem {l : List PayT} {p : PayT} (h : p ∈ l) : decide (posI l p.1 < 0) = false := by
  obtain ⟨x, hx⟩ := posL_mem h
  unfold posI
  rw [hx]
  exact decide_eq_false (by simp)

theorem dropR_mem {l : List PayT} {p : PayT} (h : p ∈ l) : (dropR l p.1).2.2.2.2.2.2.2.2 = 0 := by
  obtain ⟨x, hx⟩ := posL_mem h
  unfold dropR
  rw [hx]

/-- What the program settled, looked at one by one. -/
theorem ends_loop {k : Nat} (hk : 200 ≤ k) {t : Int} {C : BT} {m : List PayT} {done : List PayT} (hdl : done.length ≤ 1000) : ∀ {B : BT} {l todo : List PayT}, Ran k t B l todo C m → ∀ (X : BT) (Y : List PayT) (i n : Nat), done.drop i = todo → i ≤ done.length → done.length < i + n → BooksT B → Dist l → l.length ≤ 100 →
    girolaw18_FreeEnds_L0 k n t Y l i X.1 X.2.1 X.2.2.1 X.2.2.2 done B.1 B.2.1 B.2.2.1 B.2.2.2 = some (.inl (t, Y, m, X.1, X.2.1, X.2.2.1, X.2.2.2, C.1, C.2.1, C.2.2.1, C.2.2.2)) ∧ nextL k C (mayL m t) = none := by
  intro B l todo h
  induction h with
  | @stop B l h =>
    intro X Y i n hi hle' hn hB hd hl
    have hle : done.length ≤ i := List.drop_eq_nil_iff.1 hi
    obtain ⟨n, rfl⟩ : ∃ x, n = x + 1 := ⟨n - 1, by omega⟩
    have : i = done.length := by omega
    subst this
    refine ⟨?_, h⟩
    show girolaw18_FreeEnds_L0b k _ t Y l done.length X.1 X.2.1 X.2.2.1 X.2.2.2 done B.1 B.2.1 B.2.2.1 B.2.2.2 = _
    unfold girolaw18_FreeEnds_L0b
    simp only [dec_lt, decide_eq_false (Nat.lt_irrefl _), cond_false]
  | @step B C D l m todo p h h' ih =>
    intro X Y i n hi hle' hn hB hd hl
    obtain ⟨hi1, hi2, hi3⟩ := drop_cons (d := pd) hi
    obtain ⟨n, rfl⟩ : ∃ x, n = x + 1 := ⟨n - 1, by omega⟩
    obtain ⟨hp, hg⟩ := nextL_some h
    have hpl := mayL_mem hp
    obtain ⟨hl1, hl2⟩ := dropL_of hpl
    obtain ⟨hc1, hc2⟩ := goes_books (by omega) hB (by simp) hg
    obtain ⟨g1, g2⟩ := ih X Y (i + 1) n hi3 (by omega) (by omega) hc1 (List.Pairwise.sublist hl2 hd) (by omega)
    refine ⟨?_, g2⟩
    rw [← g1]
    show girolaw18_FreeEnds_L0b k _ t Y l i X.1 X.2.1 X.2.2.1 X.2.2.2 done B.1 B.2.1 B.2.2.1 B.2.2.2 = _
    unfold girolaw18_FreeEnds_L0b
    obtain ⟨hf, r, hr1, hr2, hr3⟩ := goes_fits hg
    obtain ⟨r', q1, q2, q3⟩ := giroref16_is (k := k) (by omega) hB (l := [p]) (by simp)
    have : r' = r := by rw [hr1] at q1; exact (Option.some.inj q1).symm
    subst this
    have c1 : decide ((0 : Int) ≤ (i : Int)) = true := by simp
    have c2 : decide ((i : Int) ≤ ((i + 1 : Nat) : Int)) = true := decide_eq_true (by omega)
    have c3 : decide (((i + 1 : Nat) : Int) ≤ (done.length : Int)) = true := decide_eq_true (by omega)
    have hml := mayL_length l t
    have hF := giroref13_Find_eq (k := k) (l := mayL l t) (by omega) (by omega) p.1
    have hD := giroref13_Drop_eq (k := k) (l := l) (by omega) (by show l.length ≤ 1000; omega) p.1
    simp only [pd] at hi2
    have hi2' : done.getD i pd = p := hi2
    simp only [dec_lt, decide_eq_true hi1, cond_true, giroref14_May_eq (show l.length < k by omega) (show Small l by show l.length ≤ 1000; omega), Option.bind_some, boundOk_nat, Int.toNat_natCast, hi2, hF, posI_mem hp, cond_false, c1, w64_succ hi1 (show done.length < 9223372036854775808 by omega), c2, c3, Bool.and_true, slc_one done i hi1, hi2', ref_fits_T (show 100 < k by omega) hB (show [p].length ≤ 80 by simp), hf, Bool.not_true, q2, hr2, hD, dropR_mem hpl, decide_true]
    rw [hr3]
    rfl

theorem freeEnds (have' : List Int) (way : Int) (l : List PayT) (t : Int) : girolaw18_FreeEnds 200 have' way l t = some true := by
  unfold girolaw18_FreeEnds
  cases h30 : decide (((l.length : Nat) : Int) > 30) with
  | true => rfl
  | false =>
    have hl : l.length ≤ 30 := by simp at h30; omega
    simp only [cond_false, some18_eq (k := 200) (by omega)]
    obtain ⟨r, h1, h2, h3⟩ := rowed18 (k := 200) (l := l) (by omega) (by omega)
    rw [h1]
    simp only [Option.bind_some]
    have hB : BooksT (sA have' way, sB way, sM way, sP way) := some_books have' way
    obtain ⟨C, m, done, g1, g2, g3, g4, g5, g6⟩ := run_both (k := 200) (by omega) hB h2 (by omega) t
    simp only at g1 g2
    rw [g1]
    have gl := g3.length
    obtain ⟨q1, q2⟩ := ends_loop (k := 200) (by omega) (done := done) (by omega) g3 C m 0 200 (by simp) (by omega) (by omega) hB h2 (by omega)
    have q1' : girolaw18_FreeEnds_L0 200 200 t m r 0 C.1 C.2.1 C.2.2.1 C.2.2.2 done (sA have' way) (sB way) (sM way) (sP way) = _ := q1
    simp only [Option.bind_some]
    rw [q1']
    simp only [Option.bind_some]
    rw [giroref18_Next_eq (k := 200) (by omega) g4 (by omega) (show Small m by show m.length ≤ 1000; omega), q2]
    simp only [Option.bind_some, Bool.not_false, cond_true]
    rw [giroref10_Same_eq (by omega) g4.toSized, giroref11_Same_eq (by omega) (by omega), known18]
    simp
end Go.Ab.Gi
