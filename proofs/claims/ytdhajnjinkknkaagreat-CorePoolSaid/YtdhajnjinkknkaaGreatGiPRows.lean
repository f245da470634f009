/- part 12 -/
import Derived.Test.YtdhajnjinkknkaaGreatGiPNet
set_option linter.unusedVariables false
set_option linter.unusedSimpArgs false
set_option maxRecDepth 100000
namespace Go.Ab.Gi
open Go.Ab
theorem lim_Net_eq {k n i : Nat} {p : List (List Int)} (hk : n < k) (hn : n ≤ 100) (hi : i < n) (hp : p.length = n) (hr : (p.getD i []).length = n) (hb : ∀ j, -72057594037927936 ≤ cell p i j ∧ cell p i j ≤ 72057594037927936) (a : List Acc) (b : List (List Int)) (m : List Int) :
  lim_Net k a b m p i = some (sumN (cell p i) n) := by
 obtain ⟨s, h1, h2⟩ := carryE0 (L := fun c j (s : Int) => lim_Net_L0 k c s (p.getD i []) n j) (N := n) (fun s => s) (fun j s => s = sumN (cell p i) j) (fun c s hs => by
   show lim_Net_L0b k _ s (p.getD i []) n n = _
   unfold lim_Net_L0b
   simp only [dec_lt, decide_eq_false (Nat.lt_irrefl _), cond_false]) (fun c j s hj hs => by
   refine ⟨sumN (cell p i) (j + 1), ?_, rfl⟩
   show lim_Net_L0b k _ s (p.getD i []) n j = _
   have h1 := sumN_le hb j
   have h2 := hb j
   have h3 : (j : Int) * 72057594037927936 ≤ 100 * 72057594037927936 := by omega
   unfold lim_Net_L0b
   simp only [boundOk_nat, w64_succ hj (show n < 9223372036854775808 by omega), dec_lt, Int.toNat_natCast, hr, decide_eq_true hj, cond_true]
   show lim_Net_L0 k c (w64 (s + cell p i j)) _ _ _ = _
   rw [hs, w64_id (by omega) (by omega)]
   rfl) (s := 0) hk rfl
 unfold lim_Net
 simp only [boundOk_nat, hp, decide_eq_true hi, cond_true, Int.toNat_natCast, hr]
 rw [h1, h2]
 rfl
theorem isSize_eq (k : Nat) {n : Nat} (hn : n ≤ 6) : lim_isSize k n = some true := by
 unfold lim_isSize
 rw [decide_eq_true (by omega), decide_eq_true (by omega)]; rfl
theorem fill_set {α : Type} (v z : α) (n i : Nat) (hi : i < n) : (List.replicate i v ++ List.replicate (n - i) z).set i v = List.replicate (i + 1) v ++ List.replicate (n - (i + 1)) z := by
 have e : List.replicate (n - i) z = z :: List.replicate (n - (i + 1)) z := by
  rw [show n - i = (n - (i + 1)) + 1 by omega]; rfl
 rw [List.set_append_right _ _ (by simp), List.length_replicate, Nat.sub_self, e]
 simp [List.replicate_succ']
theorem makeOk_nat {n b : Nat} (hn : n ≤ 1000) (hb : b ≤ 1000) : makeOk (n : Int) (n : Int) b = true := by
 unfold makeOk
 have h : (n : Int) * (b : Int) ≤ 1000000 := by
  have : n * b ≤ 1000 * 1000 := Nat.mul_le_mul hn hb
  have e : ((n * b : Nat) : Int) = (n : Int) * (b : Int) := by simp
  omega
 simp only [Bool.and_eq_true, decide_eq_true_eq]
 omega
theorem lim_Row_eq {k n : Nat} (hk : n < k) (hn : n ≤ 6) (v : Int) : lim_Row k n v = some (List.replicate n v) := by
 unfold lim_Row
 rw [isSize_eq k hn]
 obtain ⟨s, h1, h2⟩ := carryE0 (L := fun c i (s : List Int) => lim_Row_L0 k c v n i s) (N := n) (fun s => s) (fun i s => s = List.replicate i v ++ List.replicate (n - i) 0) (fun c s hs => by
   show lim_Row_L0b k _ v n n s = _
   unfold lim_Row_L0b
   simp only [dec_lt, decide_eq_false (Nat.lt_irrefl _), cond_false]) (fun c i s hi hs => by
   refine ⟨_, ?_, rfl⟩
   show lim_Row_L0b k _ v n i s = _
   have hl : s.length = n := by rw [hs]; simp; omega
   unfold lim_Row_L0b
   simp only [boundOk_nat, w64_succ hi (show n < 9223372036854775808 by omega), dec_lt, Int.toNat_natCast, decide_eq_true hi, cond_true, hl]
   rw [hs, fill_set v 0 n i hi]) (s := List.replicate n 0) hk (by simp)
 simp only [Option.bind_some, Bool.not_true, cond_false, makeOk_nat (n := n) (b := 8) (by omega) (by omega), cond_true, Int.toNat_natCast, List.length_replicate]
 rw [h1, h2]
 simp
theorem lim_Square_eq {k n : Nat} (hk : n < k) (hn : n ≤ 6) (v : Int) : lim_Square k n v = some (List.replicate n (List.replicate n v)) := by
 unfold lim_Square
 rw [isSize_eq k hn]
 obtain ⟨s, h1, h2⟩ := carryE0 (L := fun c i (s : List (List Int)) => lim_Square_L0 k c n v n i s) (N := n) (fun s => s) (fun i s => s = List.replicate i (List.replicate n v) ++ List.replicate (n - i) []) (fun c s hs => by
   show lim_Square_L0b k _ n v n n s = _
   unfold lim_Square_L0b
   simp only [dec_lt, decide_eq_false (Nat.lt_irrefl _), cond_false]) (fun c i s hi hs => by
   refine ⟨_, ?_, rfl⟩
   show lim_Square_L0b k _ n v n i s = _
   have hl : s.length = n := by rw [hs]; simp; omega
   unfold lim_Square_L0b
   simp only [boundOk_nat, w64_succ hi (show n < 9223372036854775808 by omega), dec_lt, Int.toNat_natCast, decide_eq_true hi, cond_true, hl, lim_Row_eq hk hn, Option.bind_some]
   rw [hs, fill_set (List.replicate n v) [] n i hi]) (s := List.replicate n []) hk (by simp)
 simp only [Option.bind_some, Bool.not_true, cond_false, makeOk_nat (n := n) (b := 24) (by omega) (by omega), cond_true, Int.toNat_natCast, List.length_replicate]
 rw [h1, h2]
 simp
end Go.Ab.Gi
