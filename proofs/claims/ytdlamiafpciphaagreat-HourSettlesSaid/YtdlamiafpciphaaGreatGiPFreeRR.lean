/- What giroref18.Run does. -/
import Derived.Test.YtdlamiafpciphaaGreatGiPFreeR
set_option linter.unusedVariables false
set_option linter.unusedSimpArgs false
namespace Go.Ab.Gi
open Go.Ab

theorem ref18_run {k : Nat} (hk : 100 < k) (t : Int) {B C : BT} {l m done : List PayT} (h : Ran k t B l done C m) : ∀ (n : Nat) (r : List PayT), BooksT B → l.length ≤ 100 → l.length < n → r.length + l.length ≤ 1000 →
    giroref18_Run_L0 k n l t B.1 B.2.1 B.2.2.1 B.2.2.2 r = some (m, C.1, C.2.1, C.2.2.1, C.2.2.2, r ++ done) := by
  induction h with
  | @stop B l hx =>
    intro n r hb hl hn hr
    obtain ⟨n, rfl⟩ : ∃ x, n = x + 1 := ⟨n - 1, by omega⟩
    have h2 := giroref18_Next_eq hk hb (l := l) (by omega) (by show l.length ≤ 1000; omega) t
    rw [hx] at h2
    show giroref18_Run_L0b k _ l t B.1 B.2.1 B.2.2.1 B.2.2.2 r = _
    unfold giroref18_Run_L0b
    rw [h2]
    simp only [Option.bind_some, Bool.not_false, cond_true, List.append_nil]
  | @step B C D l m done p hx _ ih =>
    intro n r hb hl hn hr
    obtain ⟨n, rfl⟩ : ∃ x, n = x + 1 := ⟨n - 1, by omega⟩
    have h2 := giroref18_Next_eq hk hb (l := l) (by omega) (by show l.length ≤ 1000; omega) t
    rw [hx] at h2
    obtain ⟨hp, hg⟩ := nextL_some hx
    have hpl := mayL_mem hp
    obtain ⟨hl1, hl2⟩ := dropL_of hpl
    obtain ⟨hc1, hc2⟩ := goes_books hk hb (by simp) hg
    have g2 := ih n (r ++ [p]) hc1 (by omega) (by omega) (by rw [List.length_append]; simp; omega)
    show giroref18_Run_L0b k _ l t B.1 B.2.1 B.2.2.1 B.2.2.2 r = _
    unfold giroref18_Run_L0b
    rw [h2]
    obtain ⟨C', e1, e2⟩ := giroref18_Goes_eq hk hb (l := [p]) (by simp)
    have := e2 C hg
    subst this
    simp only [Option.bind_some, Bool.not_true, cond_false, giroref13_Drop_eq (show l.length < k by omega) (show Small l by show l.length ≤ 1000; omega), room56 (show r.length ≤ 1000 by omega), cond_true]
    rw [List.append_cons r p done, ← g2]
    have e1' : giroref18_Goes k B.1 B.2.1 B.2.2.1 B.2.2.2 [(p.1, p.2.1, p.2.2.1, p.2.2.2.1, p.2.2.2.2.1, p.2.2.2.2.2.1, p.2.2.2.2.2.2)] = _ := e1
    rw [e1']
    rfl

theorem ref18_Run_is {k : Nat} (hk : 200 ≤ k) {B C : BT} (hb : BooksT B) {l m done : List PayT} (hl : l.length ≤ 100) {t : Int} (h : Ran k t B l done C m) : giroref18_Run k B.1 B.2.1 B.2.2.1 B.2.2.2 l t = some (C.1, C.2.1, C.2.2.1, C.2.2.2, m, done) := by
  unfold giroref18_Run
  rw [ref18_run (by omega) t h k [] hb hl (by omega) (by simp; omega)]
  rfl
end Go.Ab.Gi
