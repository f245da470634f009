/- PostOver, PostKept. -/
import Derived.Test.YtlanbiabbhehaaaGiPSome
set_option linter.unusedVariables false
set_option linter.unusedSimpArgs false
namespace Go.Ab.Gi
open Go.Ab

theorem posted_books {a : List Acc} {b : List (List Int)} {m : List Int} {p : List (List Int)} {l : List PayT} {a' : List Acc} {p' : List (List Int)} (hb : Books a b m p) (hl : Row a.length l) (x : Posted a.length a p l a' p')
    (h1 : ∀ i, i < a.length → -4611686018427387904 < (a.getD i ad).1 + sumL (gB i) l ∧ (a.getD i ad).1 + sumL (gB i) l < 4611686018427387904)
    (h2 : ∀ i, i < a.length → ∀ j, j < a.length → -72057594037927936 < cell p i j + sumL (gS i j) l - sumL (gS j i) l ∧ cell p i j + sumL (gS i j) l - sumL (gS j i) l < 72057594037927936) : Books a' b m p' where
  n1 := by rw [x.al]; exact hb.n1
  n6 := by rw [x.al]; exact hb.n6
  bl := by rw [x.al]; exact hb.bl
  br := by rw [x.al]; exact hb.br
  ml := by rw [x.al]; exact hb.ml
  pl := by rw [x.al]; exact x.pl
  pr := by rw [x.al]; exact x.pr
  mul := by rw [x.al]; exact hb.mul
  bil := by rw [x.al]; exact hb.bil
  acct := by
    rw [x.al]
    intro i hi
    have e : a'.getD i (0, 0, 0) = _ := x.acct i hi
    have hi1 := h1 i hi
    have hr := hb.nums.res i hi
    have hs := sum_gR hl i
    have hk1 : 0 ≤ keptZ (a.getD i ad).2.2 (sumL (gR i) l) := keptZ_nonneg
    have hk2 := keptZ_le hr.1 hs.1
    have hc := hb.acct i hi
    have hc' : 0 ≤ (a.getD i ad).2.1 ∧ (a.getD i ad).2.1 ≤ 2305843009213693952 := by
      simp only [acctB, Bool.and_eq_true, decide_eq_true_eq] at hc
      exact ⟨hc.2.2.1, hc.2.2.2.1⟩
    rw [e]
    simp only [acctB, Bool.and_eq_true, decide_eq_true_eq]
    omega
  net := by
    rw [x.al]
    intro i hi j hj
    have := h2 i hi j hj
    rw [x.cell i hi j hj]
    simp only [netB, Bool.and_eq_true, decide_eq_true_eq]
    omega
  turn := by
    rw [x.al]
    intro i hi j hj
    have h3 := h2 j hj i hi
    have h4 := hb.turn i hi j hj
    have h5 := hb.nums.net j hj i hi
    rw [w64_id (by omega) (by omega)] at h4
    rw [x.cell i hi j hj, x.cell j hj i hi, w64_id (by omega) (by omega)]
    omega

def oA (bal : Int) : List Acc := [(0, 0, 0), (bal, 0, 0), (0, 0, 0)]
def oB : List (List Int) := [[-1, -1, -1], [-1, -1, -1], [-1, -1, -1]]
def oP (pos : Int) : List (List Int) := [[0, pos, 0], [-pos, 0, 0], [0, 0, 0]]

theorem over_books {bal pos : Int} (h1 : 0 ≤ bal ∧ bal < 4611686018427387904) (h2 : 0 ≤ pos ∧ pos < 72057594037927936) : Books (oA bal) oB [-1, -1, -1] (oP pos) where
  n1 := (by decide : 1 ≤ 3)
  n6 := (by decide : 3 ≤ 6)
  bl := rfl
  br := fun i hi => by rcases lt3 hi with rfl | rfl | rfl <;> rfl
  ml := rfl
  pl := rfl
  pr := fun i hi => by rcases lt3 hi with rfl | rfl | rfl <;> rfl
  mul := fun i hi => by rcases lt3 hi with rfl | rfl | rfl <;> rfl
  bil := fun i hi j hj => by rcases lt3 hi with rfl | rfl | rfl <;> rcases lt3 hj with rfl | rfl | rfl <;> rfl
  acct := fun i hi => by
    rcases lt3 hi with rfl | rfl | rfl
    · rfl
    · show acctB (bal, 0, 0) = true
      simp only [acctB, Bool.and_eq_true, decide_eq_true_eq]
      omega
    · rfl
  net := fun i hi j hj => by
    rcases lt3 hi with rfl | rfl | rfl <;> rcases lt3 hj with rfl | rfl | rfl <;> first | rfl | (show netB pos = true; simp only [netB, Bool.and_eq_true, decide_eq_true_eq]; omega) | (show netB (-pos) = true; simp only [netB, Bool.and_eq_true, decide_eq_true_eq]; omega)
  turn := fun i hi j hj => by
    rcases lt3 hi with rfl | rfl | rfl <;> rcases lt3 hj with rfl | rfl | rfl <;> first | rfl | (show pos = w64 (0 - -pos); rw [w64_id (by omega) (by omega)]; omega) | (show -pos = w64 (0 - pos); rw [w64_id (by omega) (by omega)]; omega)

theorem postOver (bal pos am : Int) : girolaw16_PostOver 200 bal pos am = some true := by
  unfold girolaw16_PostOver
  by_cases c1 : bal < 0
  · rw [decide_eq_true c1]; rfl
  by_cases c2 : bal ≥ 4611686018427387904
  · rw [decide_eq_false c1, decide_eq_true c2]; rfl
  by_cases c3 : pos < 0
  · rw [decide_eq_false c1, decide_eq_false c2, decide_eq_true c3]; rfl
  by_cases c4 : pos ≥ 72057594037927936
  · rw [decide_eq_false c1, decide_eq_false c2, decide_eq_false c3, decide_eq_true c4]; rfl
  by_cases c5 : am < 1
  · rw [decide_eq_false c1, decide_eq_false c2, decide_eq_false c3, decide_eq_false c4, decide_eq_true c5]; rfl
  by_cases c6 : am > 1099511627776
  · rw [decide_eq_false c1, decide_eq_false c2, decide_eq_false c3, decide_eq_false c4, decide_eq_false c5, decide_eq_true c6]; rfl
  rw [decide_eq_false c1, decide_eq_false c2, decide_eq_false c3, decide_eq_false c4, decide_eq_false c5, decide_eq_false c6]
  simp only [cond_false]
  rw [some_eq (by omega)]
  have hb := over_books (bal := bal) (pos := pos) (by omega) (by omega)
  obtain ⟨r, h1, h2⟩ := post_Post_eq (k := 200) (by omega) hb (l := [(1, (0, (1, (am, (3, (0, 0))))))]) (by decide : 1 ≤ 80)
  obtain ⟨q, h3, h4⟩ := post_Post_eq (k := 200) (by omega) hb (l := [(1, (0, (0, (1, (3, (0, 0))))))]) (by decide : 1 ≤ 80)
  have hrow : Row (oA bal).length [(1, (0, (1, (am, (3, (0, 0))))))] := by
    refine ⟨fun x hx => ?_, (by decide : 1 ≤ 64)⟩
    rcases List.mem_cons.1 hx with rfl | hx
    · exact ⟨(by decide : (0 : Int) ≤ 0), (by decide : (0 : Int) < 3), (by decide : (0 : Int) ≤ 1), (by decide : (1 : Int) < 3), (by decide : (0 : Int) ≠ 1), (by omega : 1 ≤ am), (by omega : am ≤ 1099511627776), (by decide : (1 : Int) ≤ 3), (by decide : (3 : Int) ≤ 3)⟩
    · cases hx
  have hno : ¬ Row (oA bal).length [(1, (0, (0, (1, (3, (0, 0))))))] := fun h => (h.1 _ (List.mem_cons_self ..)).ne rfl
  have hq := h4.2 hno
  obtain ⟨a', p', x, hr⟩ := h2.1 hrow
  have well : isB a' oB [-1, -1, -1] p' = (decide (bal < 4611686018427387904 - am) && decide (pos < 72057594037927936 - am)) := by
    have g0 : sumL (gB 0) [(1, (0, (1, (am, (3, (0, 0))))))] = -am := by show ((if (1 : Int) = 0 then am else 0) - (if (0 : Int) = 0 then am else 0)) + 0 = _; rw [if_neg (by decide), if_pos rfl]; omega
    have g1 : sumL (gB 1) [(1, (0, (1, (am, (3, (0, 0))))))] = am := by show ((if (1 : Int) = 1 then am else 0) - (if (0 : Int) = 1 then am else 0)) + 0 = _; rw [if_pos rfl, if_neg (by decide)]; omega
    have g2 : sumL (gB 2) [(1, (0, (1, (am, (3, (0, 0))))))] = 0 := by show ((if (1 : Int) = 2 then am else 0) - (if (0 : Int) = 2 then am else 0)) + 0 = _; rw [if_neg (by decide), if_neg (by decide)]; omega
    have gs : ∀ i j : Nat, sumL (gS i j) [(1, (0, (1, (am, (3, (0, 0))))))] = if i = 0 ∧ j = 1 then am else 0 := by
      intro i j
      show (if (0 : Int) = i ∧ (1 : Int) = j then am else 0) + 0 = _
      by_cases h : i = 0 ∧ j = 1
      · rw [if_pos h, if_pos (by omega)]; omega
      · rw [if_neg h, if_neg (by omega)]; omega
    rw [Bool.eq_iff_iff]
    constructor
    · intro h
      have hbk := isB_iff.1 h
      have e1 := hbk.nums.bal 1 (by rw [x.al]; exact (by decide : 1 < 3))
      rw [x.acct 1 (by decide : 1 < 3), g1] at e1
      have e2 := hbk.nums.net 0 (by rw [x.al]; exact (by decide : 0 < 3)) 1 (by rw [x.al]; exact (by decide : 1 < 3))
      rw [x.cell 0 (by decide : 0 < 3) 1 (by decide : 1 < 3), gs, gs, if_pos ⟨rfl, rfl⟩, if_neg (by omega)] at e2
      have e1' : bal + am < 4611686018427387904 := e1.2
      have e2' : pos + am - 0 < 72057594037927936 := e2.2
      simp only [Bool.and_eq_true, decide_eq_true_eq]
      omega
    · intro h
      simp only [Bool.and_eq_true, decide_eq_true_eq] at h
      apply isB_iff.2
      refine posted_books hb hrow x (fun i hi => ?_) (fun i hi j hj => ?_)
      · rcases lt3 hi with rfl | rfl | rfl
        · rw [g0]; show -_ < (0 : Int) + _ ∧ (0 : Int) + _ < _; omega
        · rw [g1]; show -_ < bal + _ ∧ bal + _ < _; omega
        · rw [g2]; show -_ < (0 : Int) + _ ∧ (0 : Int) + _ < _; omega
      · rw [gs, gs]
        rcases lt3 hi with rfl | rfl | rfl <;> rcases lt3 hj with rfl | rfl | rfl <;> (repeat (first | rw [if_pos (by omega)] | rw [if_neg (by omega)])) <;>
          first | (show -_ < (0 : Int) + _ - _ ∧ (0 : Int) + _ - _ < _; omega) | (show -_ < pos + _ - _ ∧ pos + _ - _ < _; omega) | (show -_ < -pos + _ - _ ∧ -pos + _ - _ < _; omega)
  rw [well] at hr
  have eA : (sA [] 0).set 1 (bal, ((sA [] 0).getD 1 (0, (0, 0))).2) = oA bal := rfl
  have eP : ((sP 0).set 0 (((sP 0).getD 0 []).set 1 pos)).set 1 ((((sP 0).set 0 (((sP 0).getD 0 []).set 1 pos)).getD 1 []).set 0 (w64 (0 - pos))) = oP pos := by
    rw [w64_id (by omega) (by omega), Int.zero_sub]; rfl
  have eB : sB 0 = oB := rfl
  have eM : sM 0 = [-1, -1, -1] := rfl
  have b1 : boundOk 1 (sA [] 0).length = true := rfl
  have b2 : boundOk 0 (sP 0).length = true := rfl
  have b3 : boundOk 1 (sP 0).length = true := rfl
  have b4 : boundOk 1 ((sP 0).getD 0 []).length = true := rfl
  have b5 : boundOk 0 ((((sP 0).set 0 (((sP 0).getD 0 []).set 1 pos)).getD 1 []).length) = true := rfl
  have w1 : w64 (4611686018427387904 - am) = 4611686018427387904 - am := w64_id (by omega) (by omega)
  have w2 : w64 (72057594037927936 - am) = 72057594037927936 - am := w64_id (by omega) (by omega)
  have hs := same_refl (k := 200) (by omega) hb.toSized
  simp only [Option.bind_some, eA, eP, eB, eM, b1, b2, b3, b4, b5, cond_true, w1, w2, h1, h3, hq, girolaw16_known_eq]
  cases d1 : decide (bal < 4611686018427387904 - am) <;> cases d2 : decide (pos < 72057594037927936 - am) <;> rw [d1, d2] at hr <;> rw [hr] <;> simp only [Bool.and_true, Bool.and_false, Bool.true_and, Bool.false_and, cond_true, cond_false, hs, Option.bind_some] <;> rfl
end Go.Ab.Gi
