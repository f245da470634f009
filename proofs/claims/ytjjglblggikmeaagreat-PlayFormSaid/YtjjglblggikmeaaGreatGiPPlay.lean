/- part 8 -/
import Derived.Test.YtjjglblggikmeaaGreatGiPWire
set_option linter.unusedVariables false
set_option linter.unusedSimpArgs false
namespace Go.Ab.Gi
open Go.Ab
abbrev OutW : Type := Int × Int × Int × Int × Int × Int × Int × Int
abbrev ActW : Type := Int × Int × List Int × Int × Int
abbrev DeckW : Type := Int × List Int × Int × List Int × Int × Int × Int × Bool × Bool × Int
abbrev LogW : Type := Int × Int × Int × Bool
abbrev RulW : Type := Int × List (Int × Int) × Int × Int × Int
abbrev StW : Type := Int × List (Int × Int × Int) × List (List Int) × List Int × List (List Int) × List Int × List (List Int) × List (Int × Int × Int × Int × Int × Int × Int) × List Int × Int × Bool
abbrev GateW : Type := Int × List (Int × Int) × Int × Int × Int × Int × List (Int × Int × Int) × List (List Int) × List Int × List (List Int) × List Int × List (List Int) × List (Int × Int × Int × Int × Int × Int × Int) × List Int × Int × Bool × Int × Bool
abbrev FourW : Type := Int × Int × Bool × Bool
def d0 : ActW := (0, 0, [], 0, 0)
def zI (ev : Int) (acts : List ActW) (n i : Int) (R : RulW) (c : FourW) (D : DeckW) (G : GateW) (L : LogW) (c2 : FourW) (outs : List (List OutW)) (asked : List OutW) :=
 (ev, acts, n, i, R, c, ((D.1, D.2.2.1, D.2.2.2.2) : Int × Int × Int × Int × Int × Bool × Bool × Int), D.2.1, D.2.2.2.1, G, L, c2, outs, asked)
section
variable {k : Nat} {rec : play_Run_L0T} {ev n i : Int} {acts : List ActW} {R : RulW} {c c2 : FourW} {D : DeckW} {G : GateW} {L : LogW} {outs : List (List OutW)} {asked : List OutW}
theorem roomOuts (h : outs.length ≤ 1000000) : roomB (outs.length + 1) 24 = true := roomB_true (by omega) (by omega)
theorem loop_err {a : Int} {b : List Int} {e : Int × Int} {o : List OutW} {G' : GateW} {L' : LogW} {D' : DeckW} {m : WMsg × Int} (hi : i < n) (h0 : 0 ≤ i) (hl : i < acts.length) (ha : acts.getD i.toNat d0 = (1, a, b, e))
  (hdo : gate_Gate_Do k G L D a b = some (o, G', L', D')) (hm : msg_Read k b = some m) (he : m.2 ≠ 0) (ho : outs.length ≤ 1000000) :
  play_Run_L0b k rec (.inl (zI ev acts n i R c D G L c2 outs asked)) = rec (.inl (zI ev acts n (w64 (i + 1)) R c D' G' L' c2 (outs ++ [o]) asked)) := by
 obtain ⟨ro, x, sx, y, sy, cA, cK, ar, dn, op⟩ := D
 unfold play_Run_L0b
 dsimp only [zI]
 rw [decide_eq_true hi, cond_true, boundOk_true h0 hl, cond_true]
 rw [show List.getD acts i.toNat (0, 0, [], 0, 0) = (1, a, b, e) from ha]
 dsimp only
 rw [decide_eq_true rfl, cond_true, hdo, Option.bind_some, hm, Option.bind_some, decide_eq_false he, cond_false, roomOuts ho, cond_true]
theorem loop_anew {e : Int × List Int × Int × Int} {D1 D2 : DeckW} {G' : GateW} {L' : LogW} {er : Int} (hi : i < n) (h0 : 0 ≤ i) (hl : i < acts.length) (ha : acts.getD i.toNat d0 = (3, e))
  (h1 : tape_Deck_Restart k D = some D1) (h2 : gate_Open k R D1 ev = some (.inl (er, D2, G', L'))) (ho : outs.length ≤ 1000000) :
  play_Run_L0b k rec (.inl (zI ev acts n i R c D G L c2 outs asked)) = rec (.inl (zI ev acts n (w64 (i + 1)) R c D2 G' L' c2 (outs ++ [[]]) asked)) := by
 obtain ⟨ro, x, sx, y, sy, cA, cK, ar, dn, op⟩ := D
 unfold play_Run_L0b
 dsimp only [zI]
 rw [decide_eq_true hi, cond_true, boundOk_true h0 hl, cond_true]
 rw [show List.getD acts i.toNat (0, 0, [], 0, 0) = (3, e) from ha]
 dsimp only
 rw [decide_eq_false (by decide), cond_false, decide_eq_false (by decide), cond_false, decide_eq_true rfl, cond_true, h1, Option.bind_some, h2, Option.bind_some]
 dsimp only
 rw [roomOuts ho, cond_true]
theorem loop_other {q : ActW} (hi : i < n) (h0 : 0 ≤ i) (hl : i < acts.length) (ha : acts.getD i.toNat d0 = q) (h1 : q.1 ≠ 1) (h2 : q.1 ≠ 2) (h3 : q.1 ≠ 3) (ho : outs.length ≤ 1000000) :
  play_Run_L0b k rec (.inl (zI ev acts n i R c D G L c2 outs asked)) = rec (.inl (zI ev acts n (w64 (i + 1)) R c D G L c2 (outs ++ [[]]) asked)) := by
 unfold play_Run_L0b
 dsimp only [zI]
 rw [decide_eq_true hi, cond_true, boundOk_true h0 hl, cond_true]
 rw [show List.getD acts i.toNat (0, 0, [], 0, 0) = q from ha]
 rw [decide_eq_false h1, cond_false, decide_eq_false h2, cond_false, decide_eq_false h3, cond_false, roomOuts ho, cond_true]
theorem loop_end (hi : ¬ i < n) : play_Run_L0b k rec (.inl (zI ev acts n i R c D G L c2 outs asked)) = some (.inr (c, G, L, (D.1, D.2.2.1, D.2.2.2.2), D.2.1, D.2.2.2.1, c2, outs, asked)) := by
 unfold play_Run_L0b
 dsimp only [zI]
 rw [decide_eq_false hi, cond_false]
end
theorem do_err {k : Nat} {G : GateW} {L : LogW} {D : DeckW} {a : Int} {b : List Int} {m : WMsg × Int} (hd : G.2.2.2.2.2.2.2.2.2.2.2.2.2.2.2.2.2 = false) (hm : msg_Read k b = some m) (he : m.2 ≠ 0) :
  gate_Gate_Do k G L D a b = some ([(a, 16, m.2, 0, 0, 0, 0, 0)], G, L, D) := by
 unfold gate_Gate_Do
 rw [show gate_Gate_Down k G L D = some (G.2.2.2.2.2.2.2.2.2.2.2.2.2.2.2.2.2, G, L, D) from rfl, Option.bind_some, hd]
 dsimp only
 rw [cond_false, hm, Option.bind_some, decide_eq_false he]
 rfl
end Go.Ab.Gi
