/- PostKept. -/
import Derived.Test.YtlanbiabbhehaaaGiPOver
set_option linter.unusedVariables false
set_option linter.unusedSimpArgs false
namespace Go.Ab.Gi
open Go.Ab

def kPay (l : List Int) (i : Nat) : PayT := (((i + 1 : Nat) : Int), (0, (1 + ((i % 2 : Nat) : Int), (1 + l.getD i 0 % 64, (1 + ((i % 3 : Nat) : Int), (0, 0))))))

theorem tmod_nat (i : Nat) (m : Nat) : Int.tmod (i : Int) (m : Int) = ((i % m : Nat) : Int) := by
  rw [Int.tmod_eq_emod_of_nonneg (by omega)]; rfl

theorem kPay_may (l : List Int) (i : Nat) : May 3 (kPay l i) := by
  unfold kPay
  refine ⟨(by decide : (0 : Int) ≤ 0), (by decide : (0 : Int) < 3), ?_, ?_, ?_, ?_, ?_, ?_, ?_⟩ <;> dsimp only <;> omega

theorem gR_kPay (l : List Int) (i : Nat) : gR 0 (kPay l i) = if i % 3 < 2 then 1 + l.getD i 0 % 64 else 0 := by
  unfold gR kPay
  dsimp only
  by_cases h : i % 3 < 2
  · rw [if_pos h, if_pos ⟨rfl, by omega⟩]
  · rw [if_neg h, if_neg (fun e => by omega)]

theorem gR1_kPay (l : List Int) (i : Nat) : gR 1 (kPay l i) = 0 := by
  unfold gR kPay
  dsimp only
  rw [if_neg (fun e => by omega)]

def kList (l : List Int) (n : Nat) : List PayT := (List.range n).map (kPay l)

theorem kList_row (l : List Int) {n : Nat} (hn : n ≤ 64) : Row 3 (kList l n) := ⟨fun p hp => by
  obtain ⟨i, _, rfl⟩ := List.mem_map.1 hp
  exact kPay_may l i, by unfold kList; simp; omega⟩

theorem kept_loop {k : Nat} {l : List Int} {r : Int} (a : List Acc) (b : List (List Int)) (m : List Int) (p : List (List Int)) (hk : l.length < k) (hl : l.length ≤ 20) (hr : 0 ≤ r ∧ r ≤ 1000) :
    girolaw16_PostKept_L0 k k l r 0 a b m p [] = some (keptZ r (sumL (gR 0) (kList l l.length)), a, b, m, p, kList l l.length) := by
  obtain ⟨z, h1, h2⟩ := carryE0 (L := fun f i (z : Int × List PayT) => girolaw16_PostKept_L0 k f l z.1 i a b m p z.2) (N := l.length) (fun z => (z.1, a, b, m, p, z.2)) (fun i z => z = (keptZ r (sumL (gR 0) (kList l i)), kList l i)) (fun f z hz => by
      show girolaw16_PostKept_L0b k _ l z.1 l.length a b m p z.2 = _
      unfold girolaw16_PostKept_L0b
      simp only [dec_lt, decide_eq_false (Nat.lt_irrefl _), cond_false]) (fun f i z hi hz => by
      refine ⟨(keptZ r (sumL (gR 0) (kList l (i + 1))), kList l (i + 1)), ?_, rfl⟩
      show girolaw16_PostKept_L0b k _ l z.1 i a b m p z.2 = _
      subst hz
      have hb : band .i64 (l.getD i 0) 63 = l.getD i 0 % 64 := band_mask 6 (by omega) _
      have hs := sum_gR (kList_row l (n := i) (by omega)) 0
      have hkz : 0 ≤ keptZ r (sumL (gR 0) (kList l i)) := keptZ_nonneg
      have hkl := keptZ_le hr.1 hs.1
      have e1 : kList l (i + 1) = kList l i ++ [kPay l i] := by unfold kList; rw [List.range_succ, List.map_append]; rfl
      have e2 : sumL (gR 0) (kList l (i + 1)) = sumL (gR 0) (kList l i) + gR 0 (kPay l i) := by
        rw [e1, sumL_append]
        show _ + (gR 0 (kPay l i) + 0) = _
        omega
      have hroom : roomB ((kList l i).length + 1) 56 = true := by
        have : (kList l i).length = i := by unfold kList; simp
        exact roomB_true (by omega) (by omega)
      have t2 : Int.tmod (i : Int) 2 = ((i % 2 : Nat) : Int) := tmod_nat i 2
      have t3 : Int.tmod (i : Int) 3 = ((i % 3 : Nat) : Int) := tmod_nat i 3
      have hpay : ((w64 ((i : Int) + 1)), ((0 : Int), ((w64 (1 + Int.tmod (i : Int) 2)), ((w64 (1 + band .i64 (l.getD i 0) 63)), ((w64 (1 + Int.tmod (i : Int) 3)), ((0 : Int), (0 : Int))))))) = kPay l i := by
        unfold kPay
        rw [t2, t3, hb, w64_succ hi (by omega), w64_id (by omega) (by omega), w64_id (by omega) (by omega), w64_id (by omega) (by omega)]
      have hn : w64 (1 + band .i64 (l.getD i 0) 63) = 1 + l.getD i 0 % 64 := by rw [hb, w64_id (by omega) (by omega)]
      unfold girolaw16_PostKept_L0b
      dsimp only
      rw [dec_lt, boundOk_nat, Int.toNat_natCast, hroom, hpay, hn, w64_succ hi (by omega), decide_eq_true hi]
      simp only [cond_true]
      rw [e2, gR_kPay, t3, e1]
      by_cases h : i % 3 < 2
      · have : decide (((i % 3 : Nat) : Int) < 2) = true := decide_eq_true (by omega)
        rw [this, if_pos h]
        have ek : maxI false 0 (w64 (keptZ r (sumL (gR 0) (kList l i)) - (1 + l.getD i 0 % 64))) = keptZ r (sumL (gR 0) (kList l i) + (1 + l.getD i 0 % 64)) := by
          rw [← keptZ_keptZ hs.1 (by omega), w64_id (by omega) (by omega)]
          generalize keptZ r (sumL (gR 0) (kList l i)) = y
          unfold maxI keptZ
          simp only [cond_false]
          by_cases c : 1 + l.getD i 0 % 64 ≥ y
          · rw [if_pos c, decide_eq_false (by omega)]; rfl
          · rw [if_neg c, decide_eq_true (by omega)]; rfl
        rw [ek]
        rfl
      · have : decide (((i % 3 : Nat) : Int) < 2) = false := decide_eq_false (by omega)
        rw [this, if_neg h, Int.add_zero]
        rfl) (s := (r, [])) hk (by
          have : keptZ r 0 = r := keptZ_zero hr.1
          show (r, ([] : List PayT)) = (keptZ r 0, [])
          rw [this])
  rw [h1, h2]

def kA (r : Int) : List Acc := [(0, 0, r), (0, 0, 0), (0, 0, 0)]

theorem kept_books {r : Int} (h : 0 ≤ r ∧ r ≤ 1000) : Books (kA r) oB [-1, -1, -1] (oP 0) where
  n1 := (by decide : 1 ≤ 3)
  n6 := (by decide : 3 ≤ 6)
  bl := rfl
  br := fun i hi => by rcases lt3 hi with rfl | rfl | rfl <;> rfl
  ml := rfl
  pl := rfl
  pr := fun i hi => by rcases lt3 hi with rfl | rfl | rfl <;> rfl
  mul := fun i hi => by rcases lt3 hi with rfl | rfl | rfl <;> rfl
  bil := fun i hi j hj => by rcases lt3 hi with rfl | rfl | rfl <;> rcases lt3 hj with rfl | rfl | rfl <;> rfl
  acct := fun i hi => by
    rcases lt3 hi with rfl | rfl | rfl
    · show acctB (0, 0, r) = true
      simp only [acctB, Bool.and_eq_true, decide_eq_true_eq]
      omega
    · rfl
    · rfl
  net := fun i hi j hj => by rcases lt3 hi with rfl | rfl | rfl <;> rcases lt3 hj with rfl | rfl | rfl <;> rfl
  turn := fun i hi j hj => by rcases lt3 hi with rfl | rfl | rfl <;> rcases lt3 hj with rfl | rfl | rfl <;> rfl

theorem postKept (r : Int) (l : List Int) : girolaw16_PostKept 200 r l = some true := by
  unfold girolaw16_PostKept
  by_cases c1 : r < 0
  · rw [decide_eq_true c1]; rfl
  by_cases c2 : r > 1000
  · rw [decide_eq_false c1, decide_eq_true c2]; rfl
  by_cases c3 : l.length > 20
  · have : decide (((l.length : Nat) : Int) > 20) = true := decide_eq_true (by omega)
    rw [decide_eq_false c1, decide_eq_false c2, this]; rfl
  have : decide (((l.length : Nat) : Int) > 20) = false := decide_eq_false (by omega)
  rw [decide_eq_false c1, decide_eq_false c2, this]
  simp only [cond_false]
  rw [some_eq (by omega)]
  have hb := kept_books (r := r) (by omega)
  have hrow := kList_row l (n := l.length) (by omega)
  obtain ⟨q, h1, h2⟩ := post_Post_eq (k := 200) (by omega) hb (l := kList l l.length) (by unfold kList; simp; omega)
  obtain ⟨a', p', x, hr⟩ := h2.1 hrow
  have hB : isB a' oB [-1, -1, -1] p' = true := isB_iff.2 (posted_books hb hrow x (fun i hi => by
      have h1 := sum_gB hrow i
      rcases lt3 hi with rfl | rfl | rfl
      · show -_ < (0 : Int) + _ ∧ (0 : Int) + _ < _; omega
      · show -_ < (0 : Int) + _ ∧ (0 : Int) + _ < _; omega
      · show -_ < (0 : Int) + _ ∧ (0 : Int) + _ < _; omega) (fun i hi j hj => by
      have h1 := sum_gS hrow i j
      have h2 := sum_gS hrow j i
      rcases lt3 hi with rfl | rfl | rfl <;> rcases lt3 hj with rfl | rfl | rfl <;> (show -_ < (0 : Int) + _ - _ ∧ (0 : Int) + _ - _ < _; omega)))
  rw [hB] at hr
  have eA : (sA [] 0).set 0 (((sA [] 0).getD 0 (0, (0, 0))).1, (((sA [] 0).getD 0 (0, (0, 0))).2.1, r)) = kA r := rfl
  have eB : sB 0 = oB := rfl
  have eM : sM 0 = [-1, -1, -1] := rfl
  have eP : sP 0 = oP 0 := rfl
  have b1 : boundOk 0 (sA [] 0).length = true := rfl
  simp only [Option.bind_some, eA, eB, eM, eP, b1, cond_true]
  rw [kept_loop _ _ _ _ (by omega) (by omega) (by omega)]
  simp only [Option.bind_some, h1]
  rw [hr]
  have hl : a'.length = 3 := x.al
  have e0 : (a'.getD 0 (0, (0, 0))).2.2 = keptZ r (sumL (gR 0) (kList l l.length)) := by
    have := x.acct 0 (by decide : 0 < 3)
    rw [this]; rfl
  have e1 : (a'.getD 1 (0, (0, 0))).2.2 = 0 := by
    have := x.acct 1 (by decide : 1 < 3)
    rw [this]
    show keptZ 0 _ = 0
    unfold keptZ
    have hs := sum_gR hrow 1
    rw [if_pos hs.1]
  have d1 : boundOk 0 3 = true := rfl
  have d2 : boundOk 1 3 = true := rfl
  have d3 : decide (((3 : Nat) : Int) = 3) = true := rfl
  simp only [cond_true, hl, e0, e1, d1, d2, d3, decide_true, girolaw16_known_eq, Option.bind_some]
end Go.Ab.Gi
