/- girolaw19.rowed: payments of distinct numbers. -/
import Derived.Test.YtpmkkfbnaohlhaaGiPRowed
set_option linter.unusedVariables false
set_option linter.unusedSimpArgs false
namespace Go.Ab.Gi
open Go.Ab

theorem ex_cond {α β : Type} {z : Bool} {x y : β} {f : α → β} {Q : α → Prop} (h : ∃ s, x = f s ∧ Q s) (h' : ∃ s, y = f s ∧ Q s) : ∃ s, (bif z then x else y) = f s ∧ Q s := by
  cases z
  · exact h'
  · exact h

/-- Numbers are told apart, payments are drawn. -/
theorem rowed19 {k : Nat} {l : List PayT} (hk : l.length < k) (hl : l.length ≤ 100) : ∃ r, girolaw19_rowed k l = some r ∧ Dist r ∧ r.length ≤ l.length := by
  obtain ⟨r, h1, h2, h3⟩ := carryE0 (L := fun n i (s : List PayT) => girolaw19_rowed_L0 k n l s i) (N := l.length) (fun s => s) (fun i s => Dist s ∧ s.length ≤ i) (fun n s _ => by
    show girolaw19_rowed_L0b k _ l s l.length = _
    unfold girolaw19_rowed_L0b
    simp only [dec_lt, decide_eq_false (Nat.lt_irrefl _), cond_false]) (fun n i s hi hs => by
    show ∃ s', girolaw19_rowed_L0b k _ l s i = _ ∧ _
    unfold girolaw19_rowed_L0b
    simp only [boundOk_nat, w64_succ hi (show l.length < 9223372036854775808 by omega), dec_lt, Int.toNat_natCast, decide_eq_true hi, cond_true]
    have hP : ∀ (p : PayT), ∃ r, giroref13_Put k s p.1 p.2.1 p.2.2.1 p.2.2.2.1 p.2.2.2.2.1 p.2.2.2.2.2.1 p.2.2.2.2.2.2 = some r ∧ (r.2 = 0 → Dist r.1 ∧ r.1.length = s.length + 1) := fun p => by
      obtain ⟨r, h1, h2⟩ := giroref13_Put_eq (k := k) (l := s) (by omega) (by show s.length ≤ 1000; omega) hs.1 p
      exact ⟨r, h1, fun e => ⟨(h2 e).1, (h2 e).2.1⟩⟩
    have hQ : ∀ (a b c d e f g : Int), ∃ s', (giroref13_Put k s a b c d e f g).bind (fun x0 => bif decide (x0.2 = 0) then girolaw19_rowed_L0 k n l x0.1 ((i + 1 : Nat) : Int) else girolaw19_rowed_L0 k n l s ((i + 1 : Nat) : Int)) = girolaw19_rowed_L0 k n l s' ((i + 1 : Nat) : Int) ∧ (Dist s' ∧ s'.length ≤ i + 1) := by
      intro a b c d e f g
      obtain ⟨r, h1, h2⟩ := hP (a, b, c, d, e, f, g)
      simp only at h1
      rw [h1]
      simp only [Option.bind_some]
      cases hc : decide (r.2 = 0) with
      | true =>
        have := h2 (by simpa using hc)
        exact ⟨r.1, rfl, this.1, by omega⟩
      | false => exact ⟨s, rfl, hs.1, by omega⟩
    exact ex_cond (hQ _ _ _ _ _ _ _) (hQ _ _ _ _ _ _ _)) (s := []) hk ⟨List.Pairwise.nil, Nat.le_refl _⟩
  have h1' : girolaw19_rowed_L0 k k l [] 0 = some r := h1
  refine ⟨r, ?_, h2, h3⟩
  unfold girolaw19_rowed
  rw [h1']
  rfl
end Go.Ab.Gi
