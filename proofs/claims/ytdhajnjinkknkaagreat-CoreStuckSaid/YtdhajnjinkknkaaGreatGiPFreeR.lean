/- part 42 -/
import Derived.Test.YtdhajnjinkknkaaGreatGiPGoes
set_option linter.unusedVariables false
set_option linter.unusedSimpArgs false
namespace Go.Ab.Gi
open Go.Ab
theorem ref_fits_T {k : Nat} (hk : 100 < k) {B : BT} (h : BooksT B) {l : List PayT} (hl : l.length ≤ 80) : giroref15_Fits k B.1 B.2.1 B.2.2.1 B.2.2.2 l = some (fitsT B l) := giroref15_Fits_eq hk h hl
theorem giroref18_Goes_eq {k : Nat} (hk : 100 < k) {B : BT} (h : BooksT B) {l : List PayT} (hl : l.length ≤ 80) :
  ∃ C : BT, giroref18_Goes k B.1 B.2.1 B.2.2.1 B.2.2.2 l = some (C.1, C.2.1, C.2.2.1, C.2.2.2, (goes k B l).isSome) ∧ (∀ D, goes k B l = some D → D = C) := by
 obtain ⟨r, h1, h2, h3⟩ := giroref16_is hk h hl
 unfold giroref18_Goes goes
 rw [h2, h1, ref_fits_T hk h hl]
 refine ⟨(r.1, r.2.1, r.2.2.1, r.2.2.2.1), ?_, ?_⟩
 ·simp only [Option.bind_some]
  cases decide (r.2.2.2.2 = 0) <;> cases fitsT B l <;> rfl
 ·intro D
  simp only
  cases decide (r.2.2.2.2 = 0) <;> cases fitsT B l <;> intro e <;> cases e
  rfl
theorem giroref18_Next_loop {k : Nat} (hk : 100 < k) {B : BT} (h : BooksT B) (m : List PayT) (hm : m.length ≤ 1000) : ∀ c i n, i + c = m.length → c < n →
  giroref18_Next_L0 k n i B.1 B.2.1 B.2.2.1 B.2.2.2 0 0 0 0 0 0 0 m = some (match nextL k B (m.drop i) with
   | some (p, C) => .inr (true, p.1, p.2.1, p.2.2.1, p.2.2.2.1, p.2.2.2.2.1, p.2.2.2.2.2.1, p.2.2.2.2.2.2)
   | none => .inl (0, 0, 0, 0, 0, 0, 0))
 | 0, i, n, e, hn => by
  obtain ⟨n, rfl⟩ : ∃ x, n = x + 1 := ⟨n - 1, by omega⟩
  have : i = m.length := by omega
  subst this
  show giroref18_Next_L0b k _ m.length B.1 B.2.1 B.2.2.1 B.2.2.2 0 0 0 0 0 0 0 m = _
  unfold giroref18_Next_L0b
  simp only [dec_lt, decide_eq_false (Nat.lt_irrefl _), cond_false, List.drop_length]
  rfl
 | c + 1, i, n, e, hn => by
  obtain ⟨n, rfl⟩ : ∃ x, n = x + 1 := ⟨n - 1, by omega⟩
  have hi : i < m.length := by omega
  have ih := giroref18_Next_loop hk h m hm c (i + 1) n (by omega) (by omega)
  show giroref18_Next_L0b k _ i B.1 B.2.1 B.2.2.1 B.2.2.2 0 0 0 0 0 0 0 m = _
  unfold giroref18_Next_L0b
  obtain ⟨C, h1, h2⟩ := giroref18_Goes_eq hk h (l := [m.getD i pd]) (by simp)
  have c1 : decide ((0 : Int) ≤ (i : Int)) = true := by simp
  have c2 : decide ((i : Int) ≤ ((i + 1 : Nat) : Int)) = true := decide_eq_true (by omega)
  have c3 : decide (((i + 1 : Nat) : Int) ≤ (m.length : Int)) = true := decide_eq_true (by omega)
  simp only [boundOk_nat, w64_succ hi (show m.length < 9223372036854775808 by omega), dec_lt, Int.toNat_natCast, decide_eq_true hi, cond_true, c1, c2, c3, Bool.and_true, slc_one m i hi, h1, Option.bind_some]
  rw [nextL_drop k B hi]
  cases goes k B [m.getD i pd] with
  | none => exact ih
  | some D => rfl
theorem giroref18_Next_eq {k : Nat} (hk : 100 < k) {B : BT} (h : BooksT B) {l : List PayT} (hkl : l.length < k) (hl : Small l) (t : Int) : giroref18_Next k B.1 B.2.1 B.2.2.1 B.2.2.2 l t = some (match nextL k B (mayL l t) with
   | some (p, C) => (p.1, p.2.1, p.2.2.1, p.2.2.2.1, p.2.2.2.2.1, p.2.2.2.2.2.1, p.2.2.2.2.2.2, true)
   | none => (0, 0, 0, 0, 0, 0, 0, false)) := by
 unfold giroref18_Next
 rw [giroref14_May_eq hkl hl]
 have hml := mayL_length l t
 unfold Small at hl
 have := giroref18_Next_loop hk h (mayL l t) (by omega) (mayL l t).length 0 k (by omega) (by omega)
 have e : ((0 : Nat) : Int) = 0 := rfl
 rw [e, List.drop_zero] at this
 simp only [Option.bind_some]
 rw [this]
 cases nextL k B (mayL l t) with
 | none => rfl
 | some x => rfl
end Go.Ab.Gi
