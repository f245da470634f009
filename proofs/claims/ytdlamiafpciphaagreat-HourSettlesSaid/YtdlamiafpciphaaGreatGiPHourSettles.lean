/- HourSettles. -/
import Derived.Test.YtdlamiafpciphaaGreatGiPSettleR
import Derived.Test.YtdlamiafpciphaaGreatGiPSame11
import Derived.Test.YtdlamiafpciphaaGreatGiPTold
import Derived.Test.YtdlamiafpciphaaGreatGiPRowedM22
import Derived.Test.YtdlamiafpciphaaGreatGiPSome22
set_option linter.unusedVariables false
set_option linter.unusedSimpArgs false
namespace Go.Ab.Gi
open Go.Ab

theorem known22 : girolaw22_known 200 = some true := by kernel_rfl

theorem state22 (have' : List Int) (way : Int) {l : List PayT} (hl : l.length ≤ 100) (t : Int) : ∃ r, girolaw22_state 200 have' way l t = some (t, sA have' way, sB way, sM way, sP way, [], [], r, [], 0, false) ∧ Dist r ∧ r.length ≤ l.length ∧ ∀ p ∈ r, Few p := by
  obtain ⟨r, h1, h2, h3, h4⟩ := rowedM22 (k := 200) (l := l) (by omega) (by omega)
  refine ⟨r, ?_, h2, h3, h4⟩
  unfold girolaw22_state
  rw [some22_eq (by omega), h1]
  rfl

theorem same22 {k : Nat} (hk : 100 < k) {B : BT} (h : BooksT B) {m : List PayT} {o : List OutT} (hm : m.length ≤ 100) (hm' : m.length < k) (ho : o.length < k) (ho' : o.length ≤ 1000) (t : Int) (p q : List Int) (p' q' : List (List Int)) (i j : List Int) (x y : Int) (v : Bool) :
    girolaw22_same k t B.1 B.2.1 B.2.2.1 B.2.2.2 p p' m i x v o t B.1 B.2.1 B.2.2.1 B.2.2.2 q q' m j y v o = some true := by
  unfold girolaw22_same
  rw [giroref10_Same_eq (by omega) h.toSized, giroref11_Same_eq hm' (by omega), giroref3_Outs_eq ho (by omega)]
  cases v <;> simp [eqBool]

theorem hourSettles (have' : List Int) (way : Int) (l : List PayT) (t : Int) (all : Bool) : girolaw22_HourSettles 200 have' way l t all = some true := by
  unfold girolaw22_HourSettles
  cases h30 : decide (((l.length : Nat) : Int) > 30) with
  | true => rfl
  | false =>
    have hl : l.length ≤ 30 := by simp at h30; omega
    obtain ⟨r, h1, h2, h3, h4⟩ := state22 have' way (l := l) (by omega) t
    simp only [cond_false, h1, Option.bind_some]
    have hB : BooksT (sA have' way, sB way, sM way, sP way) := some_books have' way
    have hmay : ∀ q ∈ r, May 3 q := fun q hq => (h4 q hq).1
    obtain ⟨C, m, d, f1, fr, f2, f3, f4, f5, f6, f7⟩ := settle_both (k := 200) (by omega) hB h2 hmay (by omega) t all
    have hlen := f5.length_eq
    rw [List.length_append] at hlen
    simp only at f1 fr
    have g1 : hour_Settle 200 t (sA have' way) (sB way) (sM way) (sP way) [] [] r [] 0 false all = some (t, C.1, C.2.1, C.2.2.1, C.2.2.2, [], [], m, [], 0, false, toldL d) := by
      unfold hour_Settle
      rw [f1]
      simp only [Option.bind_some]
      rw [hour_Told_eq (by omega) (by omega)]
      rfl
    have g2 : giroref22_Settle 200 t (sA have' way) (sB way) (sM way) (sP way) [] [] r [] 0 false all = some (t, C.1, C.2.1, C.2.2.1, C.2.2.2, [], [], m, [], 0, false, toldL d) := by
      unfold giroref22_Settle
      rw [fr]
      simp only [Option.bind_some]
      rw [giroref22_Told_eq (by omega) (by omega)]
      rfl
    rw [g1, g2]
    simp only [Option.bind_some]
    rw [giroref18_Next_eq (k := 200) (by omega) f2 (by omega) (show Small m by show m.length ≤ 1000; omega), f6]
    have htl := toldL_length d
    rw [same22 (by omega) f2 (by omega) (by omega) (by omega) (by omega)]
    have w1 : w64 (((r.length : Nat) : Int) - ((m.length : Nat) : Int)) = ((r.length : Nat) : Int) - ((m.length : Nat) : Int) := w64_id (by omega) (by omega)
    have w2 : w64 (2 * (((r.length : Nat) : Int) - ((m.length : Nat) : Int))) = 2 * (((r.length : Nat) : Int) - ((m.length : Nat) : Int)) := w64_id (by omega) (by omega)
    have e1 : decide ((((toldL d).length : Nat) : Int) = 2 * (((r.length : Nat) : Int) - ((m.length : Nat) : Int))) = true := decide_eq_true (by omega)
    simp only [Option.bind_some, w1, w2, e1, Bool.not_false, cond_true, known22]
end Go.Ab.Gi
