/- part 43 -/
import Derived.Test.YtdhajnjinkknkaaGreatGiPCRunT
set_option linter.unusedVariables false
set_option linter.unusedSimpArgs false
namespace Go.Ab.Gi
open Go.Ab
structure Ends (r : RulesT) (n : Nat) (s : StR) (o : List OutT) : Prop where
 inv : Inv r s
 few : o.length ≤ 100 * n
 wait : ∀ id, has s.m id → Zer o id
 done : ∀ id, id ∈ s.ids → ¬ has s.m id → onceB o id = true
 none : ∀ id, id ∉ s.ids → Zer o id
theorem Ends.step {k : Nat} {r : RulesT} {n : Nat} {s t : StR} {o w : List OutT} {c : CmdT} {e : Int} (h : Ends r n s o) (d : Did k r s c t w e) : Ends r (n + 1) t (o ++ w) := by
 obtain ⟨m1, T, G⟩ := d.tel
 have z : ∀ id, has m1 id → Zer o id := fun id x => by
  rcases G.new id x with y | y
  ·exact h.wait id y
  ·exact h.none id y
 refine ⟨d.inv, ?_, fun id x => (z id (T.sub id x)).append (T.keep id x), fun id x y => ?_, fun id x => ?_⟩
 ·have := h.few
  have := d.few
  rw [List.length_append]
  omega
 ·by_cases q : has m1 id
  ·exact once_right (z id q) (T.gone id q y)
  ·rcases (G.ids id).1 x with x | x
   ·exact once_left (h.done id x (fun y => q (G.old id y))) (T.rest id q)
   ·exact absurd x q
 ·have q : ¬ has m1 id := fun y => x ((G.ids id).2 (.inr y))
  exact (h.none id (fun y => x ((G.ids id).2 (.inl y)))).append (T.rest id q)
theorem ends_run {r : RulesT} (hr : RulesOK r) (l : List CmdT) (hl : l.length ≤ 80) {s : StR} (hs : Ends r 0 s []) :
  ∃ t o, girolaw27_AuditEnds_L0 20000 20000 l 0 r s.st [] = some (r, StR.st t, o) ∧ Ends r l.length t o := by
 obtain ⟨x, h1, h2⟩ := carryE0 (L := fun n i (x : StR × List OutT) => girolaw27_AuditEnds_L0 20000 n l i r x.1.st x.2) (N := l.length) (fun x => (r, StR.st x.1, x.2)) (fun i x => Ends r i x.1 x.2) (fun n x _ => by
  show girolaw27_AuditEnds_L0b 20000 _ l (l.length : Int) r x.1.st x.2 = _
  unfold girolaw27_AuditEnds_L0b
  rw [decide_eq_false (Int.lt_irrefl _)]
  rfl) (fun n i x hi hx => by
  obtain ⟨t, o, e, h0, h1, h2⟩ := step27_is (k := 20000) (by decide) hr hx.inv (l.getD i (0, 0, 0, 0, 0, 0, 0, 0))
  refine ⟨(t, x.2 ++ o), ?_, hx.step h2⟩
  show girolaw27_AuditEnds_L0b 20000 (girolaw27_AuditEnds_L0 20000 n) l (i : Int) r x.1.st x.2 = _
  unfold girolaw27_AuditEnds_L0b
  rw [decide_eq_true (show (i : Int) < l.length by omega), boundOk_nat, decide_eq_true hi]
  simp only [cond_true, Int.toNat_natCast]
  rw [h1]
  have := hx.few
  have := h2.few
  simp only [Option.bind_some]
  rw [roomB_true (n := x.2.length + o.length) (by omega) (by omega), w64_succ hi (by omega)]
  rfl) (n := 20000) (s := (s, [])) (by omega) hs
 exact ⟨x.1, x.2, h1, h2⟩
theorem ticks_run {r : RulesT} (hr : RulesOK r) (hcl : r.2.2.2.1 ≤ 20) (N : Nat) (hN : N ≤ 80) {s : StR} {o : List OutT} (hs : Ends r N s o) :
  ∃ t w, girolaw27_AuditEnds_L1 20000 20000 0 r s.st o = some (StR.st t, w) ∧ Ends r (N + 25) t w ∧ t.ov = true := by
 have hm : msg_Is 20000 tickM.2 = some true := by kernel_rfl
 have hof : giroref3_Of 20000 14 [] = some (14, 0, 0, 0, 0, 0, 0) := by kernel_rfl
 obtain ⟨x, h1, h2, h3⟩ := carryE0 (L := fun n i (x : StR × List OutT) => girolaw27_AuditEnds_L1 20000 n i r x.1.st x.2) (N := 25) (fun x => (StR.st x.1, x.2)) (fun i x => Ends r (N + i) x.1 x.2 ∧ (x.1.ov = true ∨ (i : Int) ≤ x.1.t)) (fun n x _ => by
  show girolaw27_AuditEnds_L1b 20000 (girolaw27_AuditEnds_L1 20000 n) 25 r x.1.st x.2 = _
  unfold girolaw27_AuditEnds_L1b
  rfl) (fun n i x hi hx => by
  obtain ⟨t, o, e, h0, h1, h2⟩ := step27_is (k := 20000) (by decide) hr hx.1.inv tickM
  obtain ⟨y, y1, y2, y3⟩ := tick_do (k := 20000) (by decide) hm hr hx.1.inv
  have ey : y = (t.st, o, e) := Option.some.inj (y1.symm.trans h0)
  have ht : t.st.1 = t.t := rfl
  have hov : t.st.2.2.2.2.2.2.2.2.2.2 = t.ov := rfl
  refine ⟨(t, x.2 ++ o), ?_, hx.1.step h2, ?_⟩
  ·show girolaw27_AuditEnds_L1b 20000 (girolaw27_AuditEnds_L1 20000 n) (i : Int) r x.1.st x.2 = _
   unfold girolaw27_AuditEnds_L1b
   rw [decide_eq_true (show (i : Int) < 25 by omega), hof]
   simp only [cond_true, Option.bind_some]
   have h1' : girolaw27_step 20000 r x.1.st ((-1), 14, 0, 0, 0, 0, 0, 0) = some (t.st, o, e) := h1
   rw [h1']
   have := hx.1.few
   have := h2.few
   simp only [Option.bind_some]
   rw [roomB_true (n := x.2.length + o.length) (by omega) (by omega), w64_succ hi (by omega)]
   rfl
  ·show t.ov = true ∨ ((i + 1 : Nat) : Int) ≤ t.t
   cases hq : x.1.ov with
   | true =>
    have := y2 hq
    rw [ey] at this
    left
    rw [← hov, (Prod.mk.inj this).1]
    exact hq
   | false =>
    have g := y3 hq
    rw [ey] at g
    have g : t.t = x.1.t + 1 := g
    rcases hx.2 with q | q
    ·rw [hq] at q; cases q
    ·right; omega) (n := 20000) (s := (s, o)) (by omega) ⟨hs, .inr hs.inv.tk.1⟩
 refine ⟨x.1, x.2, h1, h2, ?_⟩
 have tk := h2.inv.tk
 rcases h3 with q | q
 ·exact q
 ·omega
theorem auditEnds (a : Int) (l : List CmdT) : girolaw27_AuditEnds 20000 a l = some true := by
 unfold girolaw27_AuditEnds
 by_cases hl : (l.length : Int) > 80
 ·rw [decide_eq_true hl]; rfl
 rw [decide_eq_false hl]
 obtain ⟨r, hr, w⟩ := way_is a
 simp only [cond_false]
 rw [hr]
 simp only [Option.bind_some]
 rw [w.new]
 simp only [Option.bind_some]
 have h0 : Ends r 0 (startS r) [] := ⟨w.inv, Nat.zero_le _, fun id _ => zer_nil id, fun id h _ => absurd h List.not_mem_nil, fun id _ => zer_nil id⟩
 obtain ⟨s, o, h1, h2⟩ := ends_run w.ok l (by omega) h0
 rw [h1]
 simp only [Option.bind_some]
 obtain ⟨t, p, g1, g2, g3⟩ := ticks_run w.ok w.cl l.length (by omega) h2
 rw [g1]
 simp only [Option.bind_some]
 have hm : t.m = [] := g2.inv.none g3
 have few := g2.few
 have hid := g2.inv.waits.idl
 have eo : t.st.2.2.2.2.2.2.2.2.2.2 = t.ov := rfl
 have ei : t.st.2.2.2.2.2.2.2.2.1 = t.ids := rfl
 have em : t.st.2.2.2.2.2.2.2.1 = t.m := rfl
 have once : allF (fun j => onceB p (t.ids.getD j 0)) t.ids.length 0 = true := allF_zero.2 fun j hj => g2.done _ (getD_mem hj) (by rw [hm]; rintro ⟨q, hq, _⟩; exact absurd hq List.not_mem_nil)
 rw [eo, ei, em, g3, audit_Once_eq (by omega) (by omega) (by omega) (by omega), once, giroref27_Once_eq (by omega) (by omega) (by omega) (by omega), once, hm, known_is]
 rfl
end Go.Ab.Gi
