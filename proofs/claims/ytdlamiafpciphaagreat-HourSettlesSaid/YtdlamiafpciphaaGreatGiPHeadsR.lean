/- What giroref14.Heads says. -/
import Derived.Test.YtdlamiafpciphaaGreatGiPKnotG
set_option linter.unusedVariables false
set_option linter.unusedSimpArgs false
namespace Go.Ab.Gi
open Go.Ab

theorem giroref14_Heads_eq {k : Nat} {l : List PayT} (hk : l.length < k) (hl : Small l) (many : List Int) : giroref14_Heads k l many = some (headsL l many) := by
  unfold Small at hl
  unfold giroref14_Heads
  obtain ⟨s', h1, h2⟩ := carryE0 (L := fun n i s => giroref14_Heads_L0 k n l many i s) (N := l.length) (fun s => s) (fun i s => s = headsN l many i) (fun n s _ => by
    show giroref14_Heads_L0b k _ l many l.length s = _
    unfold giroref14_Heads_L0b
    simp only [dec_lt, decide_eq_false (Nat.lt_irrefl _), cond_false]) (fun n i s hi hs => by
    have hsl : s.length ≤ i := by rw [hs]; exact headsN_length l many i
    refine ⟨bif headAt l many i then s ++ [l.getD i pd] else s, ?_, ?_⟩
    · show giroref14_Heads_L0b k _ l many i s = _
      unfold giroref14_Heads_L0b
      have c1 : decide ((0 : Int) ≤ (i : Int)) = true := by simp
      have c2 : decide ((i : Int) ≤ (l.length : Int)) = true := decide_eq_true (by omega)
      have hOf := giroref14_Of_eq (k := k) (l := l.take i) (by rw [List.length_take]; omega) (by show (l.take i).length ≤ 1000; rw [List.length_take]; omega) (l.getD i pd).2.1
      simp only [pd] at hOf
      simp only [boundOk_nat, w64_succ hi (show l.length < 9223372036854775808 by omega), dec_lt, Int.toNat_natCast, decide_eq_true hi, cond_true, room56 (show s.length ≤ 1000 by omega), c1, c2, Bool.and_true, hOf, Option.bind_some]
      unfold headAt cnt
      simp only [pd]
      cases e1 : decide ((l.getD i (0, (0, (0, (0, (0, (0, 0))))))).2.1 ≥ 0) with
      | false => rfl
      | true =>
        cases e2 : decide ((l.getD i (0, (0, (0, (0, (0, (0, 0))))))).2.1 < (many.length : Int)) with
        | false => rfl
        | true =>
          rw [decide_eq_true_eq] at e1 e2
          have hb : boundOk (l.getD i (0, (0, (0, (0, (0, (0, 0))))))).2.1 many.length = true := boundOk_true e1 (by omega)
          rw [hb]
          simp only [cond_true, Bool.true_and]
          cases decide (((List.length (List.filter (fromB (l.getD i (0, (0, (0, (0, (0, (0, 0))))))).2.1) (List.take i l)) : Nat) : Int) < many.getD (l.getD i (0, (0, (0, (0, (0, (0, 0))))))).2.1.toNat 0) <;> rfl
    · show _ = headsN l many i ++ _
      rw [hs]
      cases headAt l many i <;> simp) (s := []) hk rfl
  have h1' : giroref14_Heads_L0 k k l many 0 [] = some s' := h1
  rw [h1', h2]
  rfl
end Go.Ab.Gi
