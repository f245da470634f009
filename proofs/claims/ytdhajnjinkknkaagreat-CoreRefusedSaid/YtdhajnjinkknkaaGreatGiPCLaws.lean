/- part 44 -/
import Derived.Test.YtdhajnjinkknkaaGreatGiPCRun
set_option linter.unusedVariables false
set_option linter.unusedSimpArgs false
namespace Go.Ab.Gi
open Go.Ab
theorem refused_loop {r : RulesT} (hr : RulesOK r) (l : List CmdT) (hl : l.length ≤ 120) (c : CmdT) {s : StR} (hs : Inv r s) :
    ∃ t, girolaw23_CoreRefused_L0 1000 1000 l 0 c r s.st = some (c, r, StR.st t) ∧ Inv r t :=
  carryE0 (L := fun n i (s : StR) => girolaw23_CoreRefused_L0 1000 n l i c r s.st) (N := l.length) (fun t => (c, r, StR.st t)) (fun _ t => Inv r t) (fun n t _ => by
    show girolaw23_CoreRefused_L0b 1000 _ l (l.length : Int) c r t.st = _
    unfold girolaw23_CoreRefused_L0b
    rw [decide_eq_false (Int.lt_irrefl _)]
    rfl) (fun n i t hi ht => by
    obtain ⟨t', o, e, h1, h2⟩ := step_is (k := 1000) (by decide) hr ht (l.getD i (0, 0, 0, 0, 0, 0, 0, 0))
    refine ⟨t', ?_, h2.inv⟩
    show girolaw23_CoreRefused_L0b 1000 (girolaw23_CoreRefused_L0 1000 n) l (i : Int) c r t.st = _
    unfold girolaw23_CoreRefused_L0b
    rw [decide_eq_true (show (i : Int) < l.length by omega), boundOk_nat, decide_eq_true hi]
    simp only [cond_true, Int.toNat_natCast]
    rw [h1]
    simp only [Option.bind_some]
    rw [w64_succ hi (by omega)]) (by omega) hs
theorem coreRefused (a : Int) (l : List CmdT) (c : CmdT) : girolaw23_CoreRefused 1000 a l c = some true := by
  unfold girolaw23_CoreRefused
  by_cases hl : (l.length : Int) > 100
  · rw [decide_eq_true hl]; rfl
  rw [decide_eq_false hl]
  obtain ⟨r, hr, w⟩ := way_is a
  simp only [cond_false]
  rw [hr]
  simp only [Option.bind_some]
  rw [w.new]
  simp only [Option.bind_some]
  obtain ⟨t, h1, h2⟩ := refused_loop w.ok l (by omega) c w.inv
  rw [h1]
  simp only [Option.bind_some]
  obtain ⟨u, o, e, g1, g2⟩ := do_is (k := 1000) (by decide) w.ok h2 c
  rw [g1, known_is]
  simp only [Option.bind_some]
  by_cases hz : e = 0
  · rw [decide_eq_true hz]; rfl
  · rw [decide_eq_false hz]
    obtain ⟨q1, q2⟩ := g2.bad hz
    subst q1; subst q2
    simp only [cond_false]
    rw [state_refl w.ok h2]
    rfl
end Go.Ab.Gi
