/- What giroref19.Run does. -/
import Derived.Test.YtdlamiafpciphaaGreatGiPPairR
set_option linter.unusedVariables false
set_option linter.unusedSimpArgs false
namespace Go.Ab.Gi
open Go.Ab

theorem ref19_run {k : Nat} (hk : 100 < k) (t : Int) {B C : BT} {l m done : List PayT} (h : Ran2 k t B l done C m) : ∀ (n : Nat) (r : List PayT), BooksT B → Dist l → l.length ≤ 100 → l.length < n → r.length + l.length ≤ 900 →
    giroref19_Run_L0 k n l t B.1 B.2.1 B.2.2.1 B.2.2.2 r = some (m, C.1, C.2.1, C.2.2.1, C.2.2.2, r ++ done) := by
  induction h with
  | @stop B l hx =>
    intro n r hb hd hl hn hr
    obtain ⟨n, rfl⟩ : ∃ x, n = x + 1 := ⟨n - 1, by omega⟩
    have h2 := giroref19_Next_eq hk hb (l := l) (by omega) (by show l.length ≤ 1000; omega) t
    rw [hx] at h2
    show giroref19_Run_L0b k _ l t B.1 B.2.1 B.2.2.1 B.2.2.2 r = _
    unfold giroref19_Run_L0b
    rw [h2]
    simp only [Option.bind_some, nextS', Bool.not_false, cond_true, List.append_nil]
  | @step B C D l m done p q hx _ ih =>
    intro n r hb hd hl hn hr
    obtain ⟨n, rfl⟩ : ∃ x, n = x + 1 := ⟨n - 1, by omega⟩
    have h2 := giroref19_Next_eq hk hb (l := l) (by omega) (by show l.length ≤ 1000; omega) t
    rw [hx] at h2
    obtain ⟨hp, hq, hdu, hg⟩ := pairs_ok hx
    obtain ⟨hl1, hl2⟩ := drop2_of hd hp hq hdu
    obtain ⟨hc1, hc2⟩ := goes_books hk hb (by simp) hg
    have hdl : (dropL l p.1).length ≤ l.length := (dropL_of hp).2.length_le
    have g2 := ih n (r ++ [p, q]) hc1 (List.Pairwise.sublist hl2 hd) (by omega) (by omega) (by rw [List.length_append]; simp; omega)
    have e2 : r ++ [p, q] ++ done = r ++ p :: q :: done := by rw [List.append_assoc]; rfl
    show giroref19_Run_L0b k _ l t B.1 B.2.1 B.2.2.1 B.2.2.2 r = _
    unfold giroref19_Run_L0b
    rw [h2]
    obtain ⟨C', e1, e2'⟩ := giroref18_Goes_eq hk hb (l := [p, q]) (by simp)
    have := e2' C hg
    subst this
    have e1' : giroref18_Goes k B.1 B.2.1 B.2.2.1 B.2.2.2 [(p.1, p.2.1, p.2.2.1, p.2.2.2.1, p.2.2.2.2.1, p.2.2.2.2.2.1, p.2.2.2.2.2.2), (q.1, q.2.1, q.2.2.1, q.2.2.2.1, q.2.2.2.2.1, q.2.2.2.2.2.1, q.2.2.2.2.2.2)] = _ := e1
    have d1 := giroref13_Drop_eq (show l.length < k by omega) (show Small l by show l.length ≤ 1000; omega) p.1
    have d2 := giroref13_Drop_eq (k := k) (l := (dropR l p.1).1) (Nat.lt_of_le_of_lt hdl (by omega)) (Nat.le_trans hdl (by omega)) q.1
    have e3 : roomB (r.length + 2) 56 = true := roomB_true (by omega) (by omega)
    simp only [Option.bind_some, nextS', Bool.not_true, cond_false, e1', d1, d2, e3, cond_true]
    rw [← e2, ← g2]
    rfl

theorem ref19_Run_is {k : Nat} (hk : 200 ≤ k) {B C : BT} (hb : BooksT B) {l m done : List PayT} (hd : Dist l) (hl : l.length ≤ 100) {t : Int} (h : Ran2 k t B l done C m) : giroref19_Run k B.1 B.2.1 B.2.2.1 B.2.2.2 l t = some (C.1, C.2.1, C.2.2.1, C.2.2.2, m, done) := by
  unfold giroref19_Run
  rw [ref19_run (by omega) t h k [] hb hd hl (by omega) (by simp; omega)]
  rfl
end Go.Ab.Gi
