/- part 9 -/
import Derived.Test.YtjjglblggikmeaaGreatGiPPlay
set_option linter.unusedVariables false
set_option linter.unusedSimpArgs false
namespace Go.Ab.Gi
open Go.Ab Go.RowKit
def chkForm (R : RulW) : Bool := match tape_New 1000 20000 with
 | some (.inl D0) => match gate_Open 1000 R D0 5 with
  | some (.inl (e, D1, G1, L1)) => decide (e = 0) && !G1.2.2.2.2.2.2.2.2.2.2.2.2.2.2.2.2.2 && (match tape_Deck_Restart 1000 D1 with
   | some D2 => match gate_Open 1000 R D2 5 with
    | some (.inl (_, D3, G3, L3)) => !G3.2.2.2.2.2.2.2.2.2.2.2.2.2.2.2.2.2 && (match gate_Gate_State 1000 G3 L3 D3 with
     | some (s, G4, L4, D4) => !G4.2.2.2.2.2.2.2.2.2.2.2.2.2.2.2.2.2 && (match giroref23_New 1000 R with
      | some n => (match giroref24_Same 1000 s n with
       | some b => b
       | none => false)
      | none => false)
     | none => false)
    | _ => false
   | none => false)
  | _ => false
 | _ => false
theorem play_L0_succ (k n : Nat) (z) : play_Run_L0 k (n + 1) z = play_Run_L0b k (play_Run_L0 k n) z := rfl
theorem run_form {R : RulW} (h : chkForm R = true) {a : Int} {b : List Int} {m : WMsg × Int} (hm : msg_Read 1000 b = some m) (he : m.2 ≠ 0) :
  ∃ (s : StW) (n : StW), play_Run 1000 R 20000 5 [(1, a, b, 0, 0), (3, 0, [], 0, 0), (9, 0, [], 0, 0)] = some ([[(a, 16, m.2, 0, 0, 0, 0, 0)], [], []], [], s.1, s.2.1, s.2.2.1, s.2.2.2.1, s.2.2.2.2.1, s.2.2.2.2.2.1, s.2.2.2.2.2.2.1, s.2.2.2.2.2.2.2.1, s.2.2.2.2.2.2.2.2.1, s.2.2.2.2.2.2.2.2.2.1, s.2.2.2.2.2.2.2.2.2.2, true) ∧
   giroref23_New 1000 R = some n ∧ giroref24_Same 1000 s n = some true := by
 unfold chkForm at h
 split at h
 case h_2 => cases h
 rename_i D0 h1
 split at h
 case h_2 => cases h
 rename_i e D1 G1 L1 h2
 rw [Bool.and_eq_true, Bool.and_eq_true] at h
 obtain ⟨⟨h3, h4⟩, h⟩ := h
 split at h
 case h_2 => cases h
 rename_i D2 h5
 split at h
 case h_2 => cases h
 rename_i er D3 G3 L3 h6
 rw [Bool.and_eq_true] at h
 obtain ⟨h7, h⟩ := h
 split at h
 case h_2 => cases h
 rename_i s G4 L4 D4 h8
 rw [Bool.and_eq_true] at h
 obtain ⟨h9, h⟩ := h
 split at h
 case h_2 => cases h
 rename_i n h10
 split at h
 case h_2 => cases h
 rename_i bb h11
 subst h
 refine ⟨s, n, ?_, h10, h11⟩
 have h3 := of_decide_eq_true h3
 subst h3
 have h4 : G1.2.2.2.2.2.2.2.2.2.2.2.2.2.2.2.2.2 = false := by simpa using h4
 have h9 : G4.2.2.2.2.2.2.2.2.2.2.2.2.2.2.2.2.2 = false := by simpa using h9
 unfold play_Run
 rw [h1, Option.bind_some]
 dsimp only
 rw [h2, Option.bind_some]
 dsimp only
 rw [decide_eq_true rfl, Bool.not_true, cond_false]
 have hdo := do_err (k := 1000) (G := G1) (L := L1) (D := D1) (a := a) h4 hm he
 have z1 : play_Run_L0 1000 1000 (.inl (zI 5 [(1, a, b, 0, 0), (3, 0, [], 0, 0), (9, 0, [], 0, 0)] 3 0 R (0, 0, false, false) D1 G1 L1 (0, 0, false, false) [] [])) =
   some (.inr ((0, 0, false, false), G3, L3, (D3.1, D3.2.2.1, D3.2.2.2.2), D3.2.1, D3.2.2.2.1, (0, 0, false, false), [[(a, 16, m.2, 0, 0, 0, 0, 0)], [], []], [])) := by
  refine (play_L0_succ 1000 999 _).trans ?_
  rw [loop_err (by omega) (by omega) (by simp) rfl hdo hm he (by simp)]
  refine (play_L0_succ 1000 998 _).trans ?_
  rw [show w64 (0 + 1) = 1 from rfl]
  rw [loop_anew (by omega) (by omega) (by simp) rfl h5 h6 (by simp)]
  refine (play_L0_succ 1000 997 _).trans ?_
  rw [show w64 (1 + 1) = 2 from rfl]
  rw [loop_other (q := (9, 0, [], 0, 0)) (by omega) (by omega) (by simp) rfl (by decide) (by decide) (by decide) (by simp)]
  refine (play_L0_succ 1000 996 _).trans ?_
  rw [show w64 (2 + 1) = 3 from rfl]
  rw [loop_end (by omega)]
  rfl
 show (play_Run_L0 1000 1000 (.inl (zI 5 [(1, a, b, 0, 0), (3, 0, [], 0, 0), (9, 0, [], 0, 0)] 3 0 R (0, 0, false, false) D1 G1 L1 (0, 0, false, false) [] []))).bind _ = _
 rw [z1, Option.bind_some]
 dsimp only
 have e3 : ((D3.1, D3.2.1, D3.2.2.1, D3.2.2.2.1, D3.2.2.2.2) : DeckW) = D3 := rfl
 rw [show gate_Gate_State 1000 G3 L3 _ = some (s, G4, L4, D4) from h8, Option.bind_some]
 dsimp only
 rw [show gate_Gate_Down 1000 G4 L4 D4 = some (G4.2.2.2.2.2.2.2.2.2.2.2.2.2.2.2.2.2, G4, L4, D4) from rfl, Option.bind_some, h9]
 rfl
theorem chk0 : chkForm (3, [(100, 1000), (7, 0)], 12, 20, 4) = true := by kernel_rfl
theorem chk1 : chkForm (4, [(100, 1000), (7, 0)], 12, 20, 100) = true := by kernel_rfl
theorem chk2 : chkForm (3, [], 20, 20, 4) = true := by kernel_rfl
theorem chk3 : chkForm (3, [(100, 1000), (7, 0)], 0, 6, 1) = true := by kernel_rfl
theorem known26 : girolaw26_known 1000 = some true := by kernel_rfl
theorem rules26 (k : Nat) (w : Int) : ∃ R, girolaw26_rules k w = some R ∧ chkForm R = true := by
 unfold girolaw26_rules
 cases decide (band .i64 w 3 = 1) with
 | true => exact ⟨_, rfl, chk1⟩
 | false => cases decide (band .i64 w 3 = 2) with
  | true => exact ⟨_, rfl, chk2⟩
  | false => cases decide (band .i64 w 3 = 3) with
   | true => exact ⟨_, rfl, chk3⟩
   | false => exact ⟨_, rfl, chk0⟩
theorem outs_one (a : Int) : giroref3_Outs 1000 [(a, 16, 2, 0, 0, 0, 0, 0)] [(a, 16, 2, 0, 0, 0, 0, 0)] = some true := by
 unfold giroref3_Outs
 rw [decide_eq_true rfl, Bool.not_true, cond_false]
 have : giroref3_Outs_L0 1000 1000 [(a, 16, 2, 0, 0, 0, 0, 0)] [(a, 16, 2, 0, 0, 0, 0, 0)] 0 = some (.inl ()) := by
  show giroref3_Outs_L0b 1000 (giroref3_Outs_L0 1000 999) _ _ 0 = _
  unfold giroref3_Outs_L0b
  have e : decide (a = a) = true := decide_eq_true rfl
  simp only [List.length_singleton, List.getD_cons_zero, Int.toNat_zero, e]
  rfl
 rw [this]
 rfl
theorem readM_err {b : List Int} (h : (readM b).2 ≠ 0) : (readM b).2 = 2 := by
 unfold readM at h ⊢
 split
 ·rfl
 ·rename_i h1
  rw [if_neg h1] at h
  split
  ·rfl
  ·rename_i h2
   rw [if_neg h2] at h
   exact absurd rfl h
theorem play_form (a0 a1 : Int) (a2 : List Int) : ∃ k, a2.length ≤ 140737488355328 → girolaw26_PlayForm k a0 a1 a2 = some true := by
 by_cases hl : a2.length ≤ 200
 ·refine ⟨1000, fun hb => ?_⟩
  unfold girolaw26_PlayForm
  rw [ref_Read_is (by omega) (by omega) hb, Option.bind_some]
  by_cases he : (readM a2).2 = 0
  ·rw [decide_eq_true he]; rfl
  ·rw [decide_eq_false he, cond_false, decide_eq_false (by omega), cond_false]
   obtain ⟨R, h1, h2⟩ := rules26 1000 a0
   rw [h1, Option.bind_some]
   obtain ⟨s, n, h3, h4, h5⟩ := run_form h2 (a := a1) (msg_Read_is (k := 1000) (b := a2) (by omega) (by omega) hb) he
   rw [h3, Option.bind_some, readM_err he]
   rw [show giroref3_Of 1000 16 [2] = some (16, 2, 0, 0, 0, 0, 0) by kernel_rfl]
   have e := outs_one a1
   simp only [Option.bind_some]
   rw [show boundOk 0 (List.length ([[(a1, 16, 2, 0, 0, 0, 0, 0)], [], []] : List (List OutW))) = true from rfl]
   show (bif decide ((3 : Int) = 3) then (bif true then ((giroref3_Outs 1000 [(a1, 16, 2, 0, 0, 0, 0, 0)] [(a1, 16, 2, 0, 0, 0, 0, 0)]).bind _) else none) else some false) = _
   rw [decide_eq_true rfl, cond_true, cond_true, e, Option.bind_some, cond_true]
   show (bif decide ((0 : Int) = 0) then (bif true then ((giroref23_New 1000 R).bind fun x5 => (giroref24_Same 1000 s x5).bind _) else some false) else some false) = _
   rw [decide_eq_true rfl, cond_true, cond_true, h4, Option.bind_some, h5, Option.bind_some, cond_true, known26]
   rfl
 ·refine ⟨1000 + a2.length, fun hb => ?_⟩
  unfold girolaw26_PlayForm
  rw [ref_Read_is (by omega) (by omega) hb, Option.bind_some]
  by_cases he : (readM a2).2 = 0
  ·rw [decide_eq_true he]; rfl
  ·rw [decide_eq_false he, cond_false, decide_eq_true (by omega)]; rfl
end Go.Ab.Gi
