/- part 44 -/
import Derived.Test.YtdhajnjinkknkaaGreatGiPCRun
set_option linter.unusedVariables false
set_option linter.unusedSimpArgs false
namespace Go.Ab.Gi
open Go.Ab
theorem stuck_loop {r : RulesT} (hr : RulesOK r) (l : List CmdT) (hl : l.length ≤ 120) {s : StR} (hs : Inv r s ∧ (s.ov = false → nextL 1000 s.B (mayL s.m s.t) = none)) :
  girolaw23_CoreStuck_L0 1000 1000 l 0 r s.st = some (.inl ()) := by
 obtain ⟨t, h1, h2⟩ := carryE0 (L := fun n i (s : StR) => girolaw23_CoreStuck_L0 1000 n l i r s.st) (N := l.length) (fun t => (.inl () : Unit ⊕ Bool)) (fun _ t => Inv r t ∧ (t.ov = false → nextL 1000 t.B (mayL t.m t.t) = none)) (fun n t _ => by
  show girolaw23_CoreStuck_L0b 1000 _ l (l.length : Int) r t.st = _
  unfold girolaw23_CoreStuck_L0b
  rw [decide_eq_false (Int.lt_irrefl _)]
  rfl) (fun n i t hi ht => by
  obtain ⟨t', o, e, h1, h2⟩ := step_is (k := 1000) (by decide) hr ht.1 (l.getD i (0, 0, 0, 0, 0, 0, 0, 0))
  have hst : t'.ov = false → nextL 1000 t'.B (mayL t'.m t'.t) = none := by
   rcases h2.still with e | e
   ·rw [e]; exact ht.2
   ·exact e
  refine ⟨t', ?_, h2.inv, hst⟩
  show girolaw23_CoreStuck_L0b 1000 (girolaw23_CoreStuck_L0 1000 n) l (i : Int) r t.st = _
  unfold girolaw23_CoreStuck_L0b
  rw [decide_eq_true (show (i : Int) < l.length by omega), boundOk_nat, decide_eq_true hi]
  simp only [cond_true, Int.toNat_natCast]
  rw [h1]
  simp only [Option.bind_some]
  have hm := h2.inv.waits.len
  have en : giroref18_Next 1000 t'.st.2.1 t'.st.2.2.1 t'.st.2.2.2.1 t'.st.2.2.2.2.1 t'.st.2.2.2.2.2.2.2.1 t'.st.1 = _ := giroref18_Next_eq (k := 1000) (by decide) h2.inv.bk (l := t'.m) (by omega) (by unfold Small; omega) t'.t
  have eo : t'.st.2.2.2.2.2.2.2.2.2.2 = t'.ov := rfl
  rw [en, eo, w64_succ hi (by omega)]
  cases hov : t'.ov with
  | false =>
   rw [hst hov]
   rfl
  | true =>
   simp only [Option.bind_some, Bool.not_true, cond_false, cond_same]) (n := 1000) (by omega) hs
 exact h1
theorem coreStuck (a : Int) (l : List CmdT) : girolaw23_CoreStuck 1000 a l = some true := by
 unfold girolaw23_CoreStuck
 by_cases hl : (l.length : Int) > 120
 ·rw [decide_eq_true hl]; rfl
 rw [decide_eq_false hl]
 obtain ⟨r, hr, w⟩ := way_is a
 simp only [cond_false]
 rw [hr]
 simp only [Option.bind_some]
 rw [w.new]
 simp only [Option.bind_some]
 rw [stuck_loop w.ok l (by omega) ⟨w.inv, fun _ => rfl⟩, known_is]
 rfl
end Go.Ab.Gi
