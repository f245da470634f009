/- part 29 -/
import Derived.Test.YtdhajnjinkknkaaGreatGiPView
set_option linter.unusedVariables false
set_option linter.unusedSimpArgs false
namespace Go.Ab.Gi
open Go.Ab
abbrev OutT := Int × Int × Int × Int × Int × Int × Int × Int
instance instDecOut : DecidableEq OutT := @instDecidableEqProd Int (Int × Int × Int × Int × Int × Int × Int) inferInstance (@instDecidableEqProd Int (Int × Int × Int × Int × Int × Int) inferInstance inferInstance)
def outP (to : Int) (p : PayT) : OutT := (to, 18, p.1, p.2.1, p.2.2.1, p.2.2.2.1, 0, 0)
def toldP (p : PayT) : List OutT := [outP p.2.1 p, outP p.2.2.1 p]
def toldL : List PayT → List OutT
 | [] => []
 | p :: l => toldP p ++ toldL l
theorem toldL_append : ∀ (l m : List PayT), toldL (l ++ m) = toldL l ++ toldL m
 | [], _ => rfl
 | p :: l, m => by
  show toldP p ++ toldL (l ++ m) = toldP p ++ toldL l ++ toldL m
  rw [toldL_append l m, List.append_assoc]
theorem toldL_length : ∀ (l : List PayT), (toldL l).length = 2 * l.length
 | [] => rfl
 | p :: l => by
  show (toldP p ++ toldL l).length = _
  rw [List.length_append, toldL_length l]
  simp [toldP]
  omega
theorem toldL_snoc (l : List PayT) (i : Nat) (hi : i < l.length) : toldL (l.take (i + 1)) = toldL (l.take i) ++ toldP (l.getD i pd) := by
 rw [← take_snoc l i pd hi, toldL_append]
 show _ ++ (toldP _ ++ []) = _
 rw [List.append_nil]
theorem room64 {n : Nat} (h : n ≤ 1000) : roomB (n + 1) 64 = true := roomB_true (by omega) (by omega)
theorem told_two {k : Nat} (hk : 3 ≤ k) (s8 : List PayT) (s9 s10 : Int) (r : List OutT) (hr : r.length ≤ 900) (p : PayT) :
  hour_Told_L1 k k s8 s9 s10 2 0 r p.1 p.2.1 p.2.2.1 p.2.2.2.1 p.2.2.2.2.1 p.2.2.2.2.2.1 p.2.2.2.2.2.2 [p.2.1, p.2.2.1] = some (s8, s9, s10, r ++ toldP p) := by
 obtain ⟨n, rfl⟩ : ∃ n, k = n + 3 := ⟨k - 3, by omega⟩
 have e1 : roomB (r.length + 1) 64 = true := room64 (by omega)
 have e2 : roomB ((r ++ [outP p.2.1 p]).length + 1) 64 = true := room64 (by rw [List.length_append]; simp; omega)
 have h1 : hour_out (n + 3) p.2.1 18 [p.1, p.2.1, p.2.2.1, p.2.2.2.1] = some (outP p.2.1 p) := rfl
 have h2 : hour_out (n + 3) p.2.2.1 18 [p.1, p.2.1, p.2.2.1, p.2.2.2.1] = some (outP p.2.2.1 p) := rfl
 have w0 : w64 (0 + 1) = 1 := by decide
 have w1 : w64 (1 + 1) = 2 := by decide
 show hour_Told_L1b (n + 3) (hour_Told_L1 (n + 3) (n + 2)) s8 s9 s10 2 0 r p.1 p.2.1 p.2.2.1 p.2.2.2.1 p.2.2.2.2.1 p.2.2.2.2.2.1 p.2.2.2.2.2.2 [p.2.1, p.2.2.1] = _
 unfold hour_Told_L1b
 have g0 : [p.2.1, p.2.2.1].getD (Int.toNat 0) 0 = p.2.1 := rfl
 have b0 : boundOk 0 [p.2.1, p.2.2.1].length = true := rfl
 have d0 : decide ((0 : Int) < 2) = true := rfl
 rw [d0, b0, g0, h1]
 simp only [cond_true, Option.bind_some, e1, w0]
 show hour_Told_L1b (n + 3) (hour_Told_L1 (n + 3) (n + 1)) s8 s9 s10 2 1 (r ++ [outP p.2.1 p]) p.1 p.2.1 p.2.2.1 p.2.2.2.1 p.2.2.2.2.1 p.2.2.2.2.2.1 p.2.2.2.2.2.2 [p.2.1, p.2.2.1] = _
 unfold hour_Told_L1b
 have g1 : [p.2.1, p.2.2.1].getD (Int.toNat 1) 0 = p.2.2.1 := rfl
 have b1 : boundOk 1 [p.2.1, p.2.2.1].length = true := rfl
 have d1 : decide ((1 : Int) < 2) = true := rfl
 rw [d1, b1, g1, h2]
 simp only [cond_true, Option.bind_some, e2, w1]
 show hour_Told_L1b (n + 3) (hour_Told_L1 (n + 3) n) s8 s9 s10 2 2 (r ++ [outP p.2.1 p] ++ [outP p.2.2.1 p]) p.1 p.2.1 p.2.2.1 p.2.2.2.1 p.2.2.2.2.1 p.2.2.2.2.2.1 p.2.2.2.2.2.2 [p.2.1, p.2.2.1] = _
 unfold hour_Told_L1b
 have d2 : decide ((2 : Int) < 2) = false := rfl
 rw [d2, List.append_assoc]
 rfl
theorem hour_Told_eq {k : Nat} {l : List PayT} (hk : l.length + 3 ≤ k) (hl : l.length ≤ 400) : hour_Told k l = some (toldL l) := by
 unfold hour_Told
 obtain ⟨s', h1, h2⟩ := carryE0 (L := fun n i (s : List OutT) => hour_Told_L0 k n l l.length i s) (N := l.length) (fun s => s) (fun i s => s = toldL (l.take i)) (fun n s _ => by
  show hour_Told_L0b k _ l l.length l.length s = _
  unfold hour_Told_L0b
  simp only [dec_lt, decide_eq_false (Nat.lt_irrefl _), cond_false]) (fun n i s hi hs => by
  refine ⟨_, ?_, (toldL_snoc l i hi).symm⟩
  show hour_Told_L0b k _ l l.length i s = _
  unfold hour_Told_L0b
  have hsl : s.length ≤ 900 := by
   rw [hs, toldL_length, List.length_take]; omega
  have h2 := told_two (k := k) (by omega) l l.length i s hsl (l.getD i pd)
  simp only [pd] at h2
  simp only [boundOk_nat, dec_lt, Int.toNat_natCast, decide_eq_true hi, cond_true]
  rw [h2]
  simp only [Option.bind_some, w64_succ hi (show l.length < 9223372036854775808 by omega)]
  rw [hs]) (s := []) (show l.length < k by omega) rfl
 have h1' : hour_Told_L0 k k l l.length 0 [] = some s' := h1
 rw [h1', h2, List.take_length]
 rfl
end Go.Ab.Gi
