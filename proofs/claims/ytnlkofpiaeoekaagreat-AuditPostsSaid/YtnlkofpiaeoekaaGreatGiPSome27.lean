/- girolaw27.some: books of three accounts. -/
import Derived.Test.YtnlkofpiaeoekaaGreatGiPCopy
set_option linter.unusedVariables false
set_option linter.unusedSimpArgs false
namespace Go.Ab.Gi
open Go.Ab

def hv (s : List Int) (i : Nat) : Int := bif decide (i < s.length) then band .i64 (s.getD i 0) 63 else 0

theorem hv_range (s : List Int) (i : Nat) : 0 ≤ hv s i ∧ hv s i ≤ 63 := by
  unfold hv
  cases decide (i < s.length)
  · exact ⟨Int.le_refl 0, (by decide : (0 : Int) ≤ 63)⟩
  · have := band_mask 6 (by omega) (s.getD i 0)
    have e : band .i64 (s.getD i 0) 63 = s.getD i 0 % 64 := this
    simp only [cond_true, e]
    omega

theorem some27_round {k n : Nat} (s : List Int) (w : Int) (i : Nat) (hi : i < 3) (r : List Acc) (hr : r.length ≤ 3) (m : List (List Int)) (q : List Int) (p : List (List Int)) :
    girolaw27_some_L0 k (n + 1) s w i r m q p = girolaw27_some_L0 k n s w ((i + 1 : Nat) : Int) (r ++ [(hv s i, 0, 0)]) m q p := by
  show girolaw27_some_L0b k _ s w i r m q p = _
  unfold girolaw27_some_L0b hv
  have e1 : decide ((i : Int) < 3) = true := decide_eq_true (by omega)
  have e2 : roomB (r.length + 1) 24 = true := roomB_true (by omega) (by omega)
  rw [e1, e2, dec_lt, boundOk_nat, w64_succ hi (by omega), Int.toNat_natCast]
  cases decide (i < s.length) <;> rfl

theorem some27_loop {k n : Nat} (s : List Int) (w : Int) (m : List (List Int)) (q : List Int) (p : List (List Int)) :
    girolaw27_some_L0 k (n + 4) s w 0 [] m q p = some (w, [(hv s 0, 0, 0), (hv s 1, 0, 0), (hv s 2, 0, 0)], m, q, p) := by
  have h0 := some27_round (k := k) (n := n + 3) s w 0 (by omega) [] (by decide) m q p
  have h1 := some27_round (k := k) (n := n + 2) s w 1 (by omega) [(hv s 0, 0, 0)] (Nat.le_of_ble_eq_true rfl) m q p
  have h2 := some27_round (k := k) (n := n + 1) s w 2 (by omega) [(hv s 0, 0, 0), (hv s 1, 0, 0)] (Nat.le_of_ble_eq_true rfl) m q p
  exact h0.trans (h1.trans (h2.trans rfl))

def sA (s : List Int) (w : Int) : List Acc := [(hv s 0, bif decide (band .i64 w 1 = 1) then 7 else 0, 0), (hv s 1, 0, bif decide (band .i64 w 1 = 1) then 5 else 0), (hv s 2, bif decide (band .i64 w 1 = 1) then 3 else 0, bif decide (band .i64 w 4 = 4) then 9 else 0)]
def sB (w : Int) : List (List Int) := bif decide (band .i64 w 2 = 2) then [[-1, 6, -1], [-1, -1, 0], [-1, -1, -1]] else [[-1, -1, -1], [-1, -1, -1], [-1, -1, -1]]
def sM (w : Int) : List Int := [bif decide (band .i64 w 4 = 4) then 8 else -1, -1, bif decide (band .i64 w 2 = 2) then 4 else -1]
def sP (w : Int) : List (List Int) := bif decide (band .i64 w 4 = 4) then [[0, 3, 0], [-3, 0, 0], [0, 0, 0]] else [[0, 0, 0], [0, 0, 0], [0, 0, 0]]

theorem some27_eq {k : Nat} (hk : 4 ≤ k) (s : List Int) (w : Int) : girolaw27_some k s w = some (sA s w, sB w, sM w, sP w) := by
  obtain ⟨n, rfl⟩ : ∃ n, k = n + 4 := ⟨k - 4, by omega⟩
  unfold girolaw27_some
  rw [some27_loop]
  simp only [Option.bind_some]
  unfold sA sB sM sP
  cases decide (band .i64 w 1 = 1) <;> cases decide (band .i64 w 2 = 2) <;> cases decide (band .i64 w 4 = 4) <;> rfl

theorem lt3 {i : Nat} (h : i < 3) : i = 0 ∨ i = 1 ∨ i = 2 := by omega

theorem some_books (s : List Int) (w : Int) : Books (sA s w) (sB w) (sM w) (sP w) := by
  apply isB_iff.1
  have h0 := hv_range s 0
  have h1 := hv_range s 1
  have h2 := hv_range s 2
  have a0 : ∀ (x c r : Int), 0 ≤ x ∧ x ≤ 63 → (0 ≤ c ∧ c ≤ 9) → (0 ≤ r ∧ r ≤ 9) → acctB (x, c, r) = true := by
    intro x c r h h' h''
    simp only [acctB, Bool.and_eq_true, decide_eq_true_eq]
    omega
  unfold isB sA sB sM sP
  cases decide (band .i64 w 1 = 1) <;> cases decide (band .i64 w 2 = 2) <;> cases decide (band .i64 w 4 = 4) <;>
    simp only [cond_true, cond_false] <;>
    (show (_ && (_ && (_ && (_ && (_ && ((acctB _ && (acctB _ && (acctB _ && true))) && _)))))) = true) <;>
    (rw [show ([(hv s 0, _, _), (hv s 1, _, _), (hv s 2, _, _)] : List Acc).getD 0 (0, 0, 0) = (hv s 0, _, _) from rfl, show ([(hv s 0, _, _), (hv s 1, _, _), (hv s 2, _, _)] : List Acc).getD (0 + 1) (0, 0, 0) = (hv s 1, _, _) from rfl, show ([(hv s 0, _, _), (hv s 1, _, _), (hv s 2, _, _)] : List Acc).getD (0 + 1 + 1) (0, 0, 0) = (hv s 2, _, _) from rfl]) <;>
    (rw [a0 _ _ _ h0 (by decide) (by decide), a0 _ _ _ h1 (by decide) (by decide), a0 _ _ _ h2 (by decide) (by decide)]; rfl)
end Go.Ab.Gi
