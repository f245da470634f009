/- part 21 -/
import Derived.Test.YtdhajnjinkknkaaGreatGiPGoes
set_option linter.unusedVariables false
set_option linter.unusedSimpArgs false
namespace Go.Ab.Gi
open Go.Ab
theorem fits_T {k : Nat} (hk : 100 < k) {B : BT} (h : BooksT B) {l : List PayT} (hl : l.length ≤ 80) : fits_Fits k B.1 B.2.1 B.2.2.1 B.2.2.2 l = some (fitsT B l) := fits_Fits_eq hk h hl
theorem free_next_loop {k : Nat} (hk : 100 < k) {B : BT} (h : BooksT B) (m : List PayT) (hm : m.length ≤ 1000) : ∀ c i n, i + c = m.length → c < n →
  free_next_L0 k n m.length i B.1 B.2.1 B.2.2.1 B.2.2.2 0 0 0 0 0 0 0 m = some (match nextL k B (m.drop i) with
   | some (p, C) => .inr (true, p.1, p.2.1, p.2.2.1, p.2.2.2.1, p.2.2.2.2.1, p.2.2.2.2.2.1, p.2.2.2.2.2.2, C.1, C.2.1, C.2.2.1, C.2.2.2)
   | none => .inl (B.1, B.2.1, B.2.2.1, B.2.2.2, 0, 0, 0, 0, 0, 0, 0))
 | 0, i, n, e, hn => by
  obtain ⟨n, rfl⟩ : ∃ x, n = x + 1 := ⟨n - 1, by omega⟩
  have : i = m.length := by omega
  subst this
  show free_next_L0b k _ m.length m.length B.1 B.2.1 B.2.2.1 B.2.2.2 0 0 0 0 0 0 0 m = _
  unfold free_next_L0b
  simp only [dec_lt, decide_eq_false (Nat.lt_irrefl _), cond_false, List.drop_length]
  rfl
 | c + 1, i, n, e, hn => by
  obtain ⟨n, rfl⟩ : ∃ x, n = x + 1 := ⟨n - 1, by omega⟩
  have hi : i < m.length := by omega
  have ih := free_next_loop hk h m hm c (i + 1) n (by omega) (by omega)
  show free_next_L0b k _ m.length i B.1 B.2.1 B.2.2.1 B.2.2.2 0 0 0 0 0 0 0 m = _
  unfold free_next_L0b
  obtain ⟨r, h1, h2, h3⟩ := giroref16_is hk h (l := [m.getD i pd]) (by simp)
  have hf := fits_T hk h (l := [m.getD i pd]) (by simp)
  simp only [pd] at h1 hf
  simp only [boundOk_nat, w64_succ hi (show m.length < 9223372036854775808 by omega), dec_lt, Int.toNat_natCast, decide_eq_true hi, cond_true, hf, h1, Option.bind_some]
  rw [nextL_drop k B hi]
  unfold goes
  simp only [pd, h1]
  cases fitsT B [m.getD i (0, (0, (0, (0, (0, (0, 0))))))] with
  | false =>
   simp only [Bool.not_false, cond_true, Bool.and_false, cond_false]
   exact ih
  | true =>
   simp only [Bool.not_true, cond_false, Bool.and_true]
   cases decide (r.2.2.2.2 = 0) with
   | false => exact ih
   | true => rfl
def nextR (B : BT) (x : Option (PayT × BT)) : Int × Int × Int × Int × Int × Int × Int × (List (Int × Int × Int)) × (List (List Int)) × (List Int) × (List (List Int)) × Bool := match x with
 | some (p, C) => (p.1, p.2.1, p.2.2.1, p.2.2.2.1, p.2.2.2.2.1, p.2.2.2.2.2.1, p.2.2.2.2.2.2, C.1, C.2.1, C.2.2.1, C.2.2.2, true)
 | none => (0, 0, 0, 0, 0, 0, 0, B.1, B.2.1, B.2.2.1, B.2.2.2, false)
theorem free_next_eq {k : Nat} (hk : 100 < k) {B : BT} (h : BooksT B) {l : List PayT} (hkl : l.length < k) (hl : Small l) (hd : Dist l) (t : Int) : free_next k B.1 B.2.1 B.2.2.1 B.2.2.2 l t = some (nextR B (nextL k B (mayL l t))) := by
 unfold free_next
 rw [view_May_eq hkl hl hd]
 have hml := mayL_length l t
 unfold Small at hl
 have := free_next_loop hk h (mayL l t) (by omega) (mayL l t).length 0 k (by omega) (by omega)
 have e : ((0 : Nat) : Int) = 0 := rfl
 rw [e, List.drop_zero] at this
 simp only [Option.bind_some]
 rw [this]
 cases nextL k B (mayL l t) with
 | none => rfl
 | some x => rfl
theorem free_run {k : Nat} (hk : 100 < k) (t : Int) : ∀ (n : Nat) (B : BT) (l r : List PayT), BooksT B → Dist l → l.length ≤ 100 → l.length < n → r.length + l.length ≤ 1000 →
  ∃ (C : BT) (m done : List PayT), free_Run_L0 k n t l B.1 B.2.1 B.2.2.1 B.2.2.2 r = some (m, C.1, C.2.1, C.2.2.1, C.2.2.2, r ++ done) ∧ Ran k t B l done C m ∧ BooksT C ∧ C.1.length = B.1.length ∧ List.Sublist m l
 | 0, _, _, _, _, _, _, h, _ => absurd h (Nat.not_lt_zero _)
 | n + 1, B, l, r, hb, hd, hl, hn, hr => by
  have h1 := free_next_eq hk hb (l := l) (by omega) (by show l.length ≤ 1000; omega) hd t
  cases hx : nextL k B (mayL l t) with
  | none =>
   rw [hx] at h1
   refine ⟨B, l, [], ?_, .stop hx, hb, rfl, List.Sublist.refl _⟩
   show free_Run_L0b k _ t l B.1 B.2.1 B.2.2.1 B.2.2.2 r = _
   unfold free_Run_L0b
   rw [h1]
   simp only [Option.bind_some, nextR, Bool.not_false, cond_true, List.append_nil]
  | some x =>
   obtain ⟨p, C⟩ := x
   rw [hx] at h1
   obtain ⟨hp, hg⟩ := nextL_some hx
   have hpl := mayL_mem hp
   obtain ⟨hl1, hl2⟩ := dropL_of hpl
   obtain ⟨hc1, hc2⟩ := goes_books hk hb (by simp) hg
   obtain ⟨D, m, done, g1, g3, g4, g5, g6⟩ := free_run hk t n C (dropL l p.1) (r ++ [p]) hc1 (List.Pairwise.sublist hl2 hd) (by omega) (by omega) (by rw [List.length_append]; simp; omega)
   refine ⟨D, m, p :: done, ?_, .step hx g3, g4, g5.trans hc2, g6.trans hl2⟩
   show free_Run_L0b k _ t l B.1 B.2.1 B.2.2.1 B.2.2.2 r = _
   unfold free_Run_L0b
   rw [h1]
   simp only [Option.bind_some, nextR, Bool.not_true, cond_false, row_Drop_eq (show l.length < k by omega) (show Small l by show l.length ≤ 1000; omega), room56 (show r.length ≤ 1000 by omega), cond_true]
   rw [List.append_cons r p done, ← g1]
   rfl
theorem free_Run_is {k : Nat} (hk : 200 ≤ k) {B : BT} (hb : BooksT B) {l : List PayT} (hd : Dist l) (hl : l.length ≤ 100) (t : Int) :
  ∃ (C : BT) (m done : List PayT), free_Run k B.1 B.2.1 B.2.2.1 B.2.2.2 l t = some (C.1, C.2.1, C.2.2.1, C.2.2.2, m, done) ∧ Ran k t B l done C m ∧ BooksT C ∧ C.1.length = B.1.length ∧ List.Sublist m l := by
 obtain ⟨C, m, done, h1, h3⟩ := free_run (show 100 < k by omega) t k B l [] hb hd hl (by omega) (by simp; omega)
 refine ⟨C, m, done, ?_, h3⟩
 unfold free_Run
 rw [h1]
 rfl
end Go.Ab.Gi
