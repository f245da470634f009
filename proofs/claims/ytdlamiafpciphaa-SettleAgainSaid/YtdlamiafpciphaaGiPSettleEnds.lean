/- SettleEnds. -/
import Derived.Test.YtdlamiafpciphaaGiPSettle
import Derived.Test.YtdlamiafpciphaaGiPPairR
import Derived.Test.YtdlamiafpciphaaGiPRowedM21
import Derived.Test.YtdlamiafpciphaaGiPSome21
set_option linter.unusedVariables false
set_option linter.unusedSimpArgs false
namespace Go.Ab.Gi
open Go.Ab

theorem known21 : girolaw21_known 200 = some true := by kernel_rfl

theorem pos_in {l : List PayT} {p : PayT} (h : p ∈ l) : decide (posI l p.1 ≥ 0) = true := by
  obtain ⟨x, hx⟩ := posL_mem h
  unfold posI
  rw [hx]
  exact decide_eq_true (by simp)

theorem pos_out {l : List PayT} {id : Int} (h : ∀ q ∈ l, q.1 ≠ id) : decide (posI l id ≥ 0) = false := by
  unfold posI
  cases hp : posL l id with
  | none => rfl
  | some x =>
    have := posL_some hp
    exact absurd this.2 (h _ (getD_mem this.1))

theorem one_of {l m d : List PayT} (hd : Dist l) (hp : List.Perm (d ++ m) l) {p : PayT} (h : p ∈ l) : eqBool (decide (posI m p.1 ≥ 0)) (decide (posI d p.1 ≥ 0)) = false := by
  have hdd : Dist (d ++ m) := hd.perm hp
  have hpw := (List.pairwise_append.1 hdd).2.2
  have hin : p ∈ d ++ m := hp.symm.subset h
  rcases List.mem_append.1 hin with h1 | h1
  · rw [pos_in h1, pos_out (l := m) (fun q hq e => hpw p h1 q hq e.symm)]
    rfl
  · rw [pos_in h1, pos_out (l := d) (fun q hq e => hpw q hq p h1 e)]
    rfl

theorem settleEnds_loop {k : Nat} {t : Int} {l m d : List PayT} (hd : Dist l) (hp : List.Perm (d ++ m) l) (hl : l.length < k) (hl' : l.length ≤ 100) (C : BT) :
    girolaw21_SettleEnds_L0 k k t l m 0 C.1 C.2.1 C.2.2.1 C.2.2.2 d = some (.inl (t, m, C.1, C.2.1, C.2.2.1, C.2.2.2)) := by
  have hlen := hp.length_eq
  rw [List.length_append] at hlen
  have := scan0 (L := fun n i => girolaw21_SettleEnds_L0 k n t l m i C.1 C.2.1 C.2.2.1 C.2.2.2 d) (N := l.length) (fun _ => true) (.inl (t, m, C.1, C.2.1, C.2.2.1, C.2.2.2)) (.inr false) (fun n => by
    show girolaw21_SettleEnds_L0b k _ t l m l.length C.1 C.2.1 C.2.2.1 C.2.2.2 d = _
    unfold girolaw21_SettleEnds_L0b
    simp only [dec_lt, decide_eq_false (Nat.lt_irrefl _), cond_false]) (fun n i hi => by
    show girolaw21_SettleEnds_L0b k _ t l m i C.1 C.2.1 C.2.2.1 C.2.2.2 d = _
    unfold girolaw21_SettleEnds_L0b
    have h1 := giroref13_Find_eq (k := k) (l := m) (by omega) (by omega) (l.getD i pd).1
    have h2 := giroref13_Find_eq (k := k) (l := d) (by omega) (by omega) (l.getD i pd).1
    have h3 := one_of hd hp (getD_mem (d := pd) hi)
    simp only [pd] at h1 h2 h3
    simp only [dec_lt, boundOk_nat, Int.toNat_natCast, decide_eq_true hi, cond_true, h1, h2, Option.bind_some, h3, cond_false, w64_succ hi (show l.length < 9223372036854775808 by omega)]) hl
  rw [allF_zero.2 (fun _ _ => rfl)] at this
  exact this

theorem settleEnds (have' : List Int) (way : Int) (l : List PayT) (t : Int) (all : Bool) : girolaw21_SettleEnds 200 have' way l t all = some true := by
  unfold girolaw21_SettleEnds
  cases h30 : decide (((l.length : Nat) : Int) > 30) with
  | true => rfl
  | false =>
    have hl : l.length ≤ 30 := by simp at h30; omega
    simp only [cond_false, some21_eq (k := 200) (by omega)]
    obtain ⟨r, h1, h2, h3, h4⟩ := rowedM21 (k := 200) (l := l) (by omega) (by omega)
    rw [h1]
    simp only [Option.bind_some]
    have hB : BooksT (sA have' way, sB way, sM way, sP way) := some_books have' way
    have hmay : ∀ q ∈ r, May 3 q := fun q hq => (h4 q hq).1
    obtain ⟨C, m, d, f1, f2, f3, f4, f5, f6, f7⟩ := settle_Run_is (k := 200) (by omega) hB h2 hmay (by omega) t all
    have hlen := f5.length_eq
    rw [List.length_append] at hlen
    simp only at f1
    rw [f1]
    simp only [Option.bind_some]
    rw [giroref10_Is_eq (by omega), isB_iff.2 f2]
    have w : w64 (((m.length : Nat) : Int) + ((d.length : Nat) : Int)) = ((m.length : Nat) : Int) + ((d.length : Nat) : Int) := w64_id (by omega) (by omega)
    have e : decide (((m.length : Nat) : Int) + ((d.length : Nat) : Int) = ((r.length : Nat) : Int)) = true := decide_eq_true (by omega)
    simp only [Option.bind_some, Bool.not_true, cond_false, w, e]
    rw [settleEnds_loop h2 f5 (by omega) (by omega) C]
    simp only [Option.bind_some]
    rw [giroref18_Next_eq (k := 200) (by omega) f2 (by omega) (show Small m by show m.length ≤ 1000; omega), f6, giroref19_Next_eq (k := 200) (by omega) f2 (by omega) (show Small m by show m.length ≤ 1000; omega), f7]
    simp only [Option.bind_some, nextS', Bool.not_false, cond_true, known21]
end Go.Ab.Gi
