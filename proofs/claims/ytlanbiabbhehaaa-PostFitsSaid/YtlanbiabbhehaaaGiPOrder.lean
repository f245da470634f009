/- PostOrder. -/
import Derived.Test.YtlanbiabbhehaaaGiPKept
set_option linter.unusedVariables false
set_option linter.unusedSimpArgs false
namespace Go.Ab.Gi
open Go.Ab

theorem find_some {k : Nat} {l : List PayT} (hk : l.length < k) (hl : l.length < 9223372036854775808) (id : Int) : ∃ z, giroref13_Find k l id = some z := by
  have := scan_first (L := fun c i => giroref13_Find_L0 k c l id i) (N := l.length) (fun i => decide ((l.getD i pd).1 = id)) (fun c => by
    show giroref13_Find_L0b k _ l id l.length = _
    unfold giroref13_Find_L0b
    simp only [dec_lt, decide_eq_false (Nat.lt_irrefl _), cond_false]) (fun c i hi => by
    show giroref13_Find_L0b k _ l id i = _
    unfold giroref13_Find_L0b
    simp only [boundOk_nat, w64_succ hi hl, dec_lt, Int.toNat_natCast, decide_eq_true hi, cond_true]) l.length 0 k (by omega) hk
  unfold giroref13_Find
  rcases this with ⟨_, h⟩ | ⟨x, _, _, _, _, _, h⟩
  · have h' : giroref13_Find_L0 k k l id 0 = some (.inl ()) := h
    rw [h']; exact ⟨_, rfl⟩
  · have h' : giroref13_Find_L0 k k l id 0 = some (.inr (x : Int)) := h
    rw [h']; exact ⟨_, rfl⟩

theorem scan_stop {L : Nat → Int → Option Int} {N : Nat} (go : Nat → Bool) (hend : ∀ n, L (n + 1) (N : Int) = some (N : Int))
    (hstep : ∀ n i, i < N → L (n + 1) (i : Int) = bif go i then L n ((i + 1 : Nat) : Int) else some (i : Int)) : ∀ c i n, i + c = N → c < n → ∃ x : Nat, i ≤ x ∧ x ≤ N ∧ L n (i : Int) = some (x : Int)
  | 0, i, n, h, hn => by
    obtain ⟨n, rfl⟩ : ∃ m, n = m + 1 := ⟨n - 1, by omega⟩
    have : i = N := by omega
    subst this
    exact ⟨i, Nat.le_refl i, Nat.le_refl i, hend n⟩
  | c + 1, i, n, h, hn => by
    obtain ⟨n, rfl⟩ : ∃ m, n = m + 1 := ⟨n - 1, by omega⟩
    rw [hstep n i (by omega)]
    cases go i with
    | false => exact ⟨i, Nat.le_refl i, by omega, rfl⟩
    | true =>
      obtain ⟨x, x1, x2, x3⟩ := scan_stop go hend hstep c (i + 1) n (by omega) (by omega)
      exact ⟨x, by omega, x2, x3⟩

def aheadB (x y : PayT) : Bool := bif decide (x.2.1 < y.2.1) then true else bif decide (x.2.1 = y.2.1) then decide (x.2.2.2.2.1 ≤ y.2.2.2.2.1) else false

theorem ahead_eq (k : Nat) (x y : PayT) : giroref13_ahead k x.1 x.2.1 x.2.2.1 x.2.2.2.1 x.2.2.2.2.1 x.2.2.2.2.2.1 x.2.2.2.2.2.2 y.1 y.2.1 y.2.2.1 y.2.2.2.1 y.2.2.2.2.1 y.2.2.2.2.2.1 y.2.2.2.2.2.2 = some (aheadB x y) := by
  unfold giroref13_ahead aheadB
  cases decide (x.2.1 < y.2.1) <;> cases decide (x.2.1 = y.2.1) <;> rfl

theorem behind_some {k : Nat} {l : List PayT} (hk : l.length < k) (hl : l.length < 9223372036854775808) (y : PayT) : ∃ x : Nat, x ≤ l.length ∧ giroref13_behind k l y.1 y.2.1 y.2.2.1 y.2.2.2.1 y.2.2.2.2.1 y.2.2.2.2.2.1 y.2.2.2.2.2.2 = some (x : Int) := by
  obtain ⟨x, _, x2, x3⟩ := scan_stop (L := fun c i => giroref13_behind_L0 k c l i y.1 y.2.1 y.2.2.1 y.2.2.2.1 y.2.2.2.2.1 y.2.2.2.2.2.1 y.2.2.2.2.2.2) (N := l.length) (fun i => aheadB (l.getD i pd) y) (fun c => by
    show giroref13_behind_L0b k _ l l.length _ _ _ _ _ _ _ = _
    unfold giroref13_behind_L0b
    simp only [dec_lt, decide_eq_false (Nat.lt_irrefl _), cond_false]) (fun c i hi => by
    show giroref13_behind_L0b k _ l i _ _ _ _ _ _ _ = _
    unfold giroref13_behind_L0b
    simp only [boundOk_nat, w64_succ hi hl, dec_lt, Int.toNat_natCast, decide_eq_true hi, cond_true, ahead_eq, Option.bind_some]) l.length 0 k (by omega) hk
  refine ⟨x, x2, ?_⟩
  unfold giroref13_behind
  have h' : giroref13_behind_L0 k k l 0 y.1 y.2.1 y.2.2.1 y.2.2.2.1 y.2.2.2.2.1 y.2.2.2.2.2.1 y.2.2.2.2.2.2 = some (x : Int) := x3
  rw [h']; rfl

theorem insert_eq {k : Nat} {l : List PayT} (hl : l.length ≤ 1000) {x : Nat} (hx : x ≤ l.length) (y : PayT) : giroref13_insert k l x y.1 y.2.1 y.2.2.1 y.2.2.2.1 y.2.2.2.2.1 y.2.2.2.2.2.1 y.2.2.2.2.2.2 = some (l.take x ++ [y] ++ l.drop x) := by
  unfold giroref13_insert
  have e1 : (decide (0 ≤ (x : Int)) && decide ((x : Int) ≤ ((l.length : Nat) : Int))) = true := by simp; exact hx
  have e2 : roomB (0 + (l.take x).length) 56 = true := roomB_true (by rw [List.length_take]; omega) (by rw [List.length_take]; omega)
  have e3 : roomB ((l.take x).length + 1) 56 = true := roomB_true (by rw [List.length_take]; omega) (by rw [List.length_take]; omega)
  rw [e1, Int.toNat_natCast, e2, e3]
  simp only [cond_true]
  have e4 : roomB ((l.take x ++ [(y.1, (y.2.1, (y.2.2.1, (y.2.2.2.1, (y.2.2.2.2.1, (y.2.2.2.2.2.1, y.2.2.2.2.2.2))))))]).length + (l.drop x).length) 56 = true := roomB_true (by simp only [List.length_append, List.length_take, List.length_drop, List.length_cons, List.length_nil]; omega) (by simp only [List.length_append, List.length_take, List.length_drop, List.length_cons, List.length_nil]; omega)
  rw [e4]
  rfl

theorem Put_some {k : Nat} {l : List PayT} (hk : l.length < k) (hl : l.length ≤ 1000) (y : PayT) : ∃ m e, giroref13_Put k l y.1 y.2.1 y.2.2.1 y.2.2.2.1 y.2.2.2.2.1 y.2.2.2.2.2.1 y.2.2.2.2.2.2 = some (m, e) ∧ (e = 0 → ∃ x, x ≤ l.length ∧ m = l.take x ++ [y] ++ l.drop x) := by
  unfold giroref13_Put
  obtain ⟨z, hz⟩ := find_some hk (by omega) y.1
  rw [hz]
  simp only [Option.bind_some]
  cases decide (z ≥ 0) with
  | true => exact ⟨_, _, rfl, fun h => by cases h⟩
  | false =>
    cases decide (((l.length : Nat) : Int) ≥ 40) with
    | true => exact ⟨_, _, rfl, fun h => by cases h⟩
    | false =>
      obtain ⟨x, hx, hb⟩ := behind_some hk (by omega) y
      simp only [cond_false, hb, Option.bind_some, insert_eq hl hx]
      exact ⟨_, _, rfl, fun _ => ⟨x, hx, rfl⟩⟩

/-- What 'rowed' makes of a payment. -/
def rPay (i : Nat) (p : PayT) : PayT :=
  let f := p.2.1 % 256 % 3
  let t := p.2.2.1 % 256 % 3
  (((i + 1 : Nat) : Int), (f, ((if f = t then (f + 1) % 3 else t), (1 + p.2.2.2.1 % 32, (1 + p.2.2.2.2.1 % 256 % 3, (p.2.2.2.2.2.1 % 8, p.2.2.2.2.2.1 % 8 + p.2.2.2.2.2.2 % 16))))))

theorem rPay_may (i : Nat) (p : PayT) : May 3 (rPay i p) := by
  unfold rPay
  dsimp only
  by_cases h : p.2.1 % 256 % 3 = p.2.2.1 % 256 % 3
  · rw [if_pos h]
    refine ⟨?_, ?_, ?_, ?_, ?_, ?_, ?_, ?_, ?_⟩ <;> dsimp only <;> omega
  · rw [if_neg h]
    refine ⟨?_, ?_, ?_, ?_, ?_, ?_, ?_, ?_, ?_⟩ <;> dsimp only <;> omega

theorem rowed_round {k n : Nat} {l r : List PayT} {i : Nat} (hi : i < l.length) (hl : l.length ≤ 1000) :
    girolaw16_rowed_L0 k (n + 1) l r i = (giroref13_Put k r (rPay i (l.getD i pd)).1 (rPay i (l.getD i pd)).2.1 (rPay i (l.getD i pd)).2.2.1 (rPay i (l.getD i pd)).2.2.2.1 (rPay i (l.getD i pd)).2.2.2.2.1 (rPay i (l.getD i pd)).2.2.2.2.2.1 (rPay i (l.getD i pd)).2.2.2.2.2.2).bind fun x =>
      bif decide (x.2 = 0) then girolaw16_rowed_L0 k n l x.1 ((i + 1 : Nat) : Int) else girolaw16_rowed_L0 k n l r ((i + 1 : Nat) : Int) := by
  show girolaw16_rowed_L0b k _ l r i = _
  have m8 : ∀ x : Int, band .i64 x 255 = x % 256 := fun x => band_mask 8 (by omega) x
  have m5 : ∀ x : Int, band .i64 x 31 = x % 32 := fun x => band_mask 5 (by omega) x
  have m3 : ∀ x : Int, band .i64 x 7 = x % 8 := fun x => band_mask 3 (by omega) x
  have m4 : ∀ x : Int, band .i64 x 15 = x % 16 := fun x => band_mask 4 (by omega) x
  have t3 : ∀ x : Int, Int.tmod (x % 256) 3 = x % 256 % 3 := fun x => Int.tmod_eq_emod_of_nonneg (by omega)
  unfold girolaw16_rowed_L0b rPay
  simp only [boundOk_nat, w64_succ hi (show l.length < 9223372036854775808 by omega), dec_lt, Int.toNat_natCast, decide_eq_true hi, cond_true, m8, m5, m3, m4, t3]
  have w1 : ∀ x : Int, w64 (1 + x % 32) = 1 + x % 32 := fun x => w64_id (by omega) (by omega)
  have w2 : ∀ x : Int, w64 (1 + x % 256 % 3) = 1 + x % 256 % 3 := fun x => w64_id (by omega) (by omega)
  have w3 : ∀ x y : Int, w64 (x % 8 + y % 16) = x % 8 + y % 16 := fun x y => w64_id (by omega) (by omega)
  have w4 : ∀ x : Int, Int.tmod (w64 (x % 256 % 3 + 1)) 3 = (x % 256 % 3 + 1) % 3 := fun x => by rw [w64_id (by omega) (by omega), Int.tmod_eq_emod_of_nonneg (by omega)]
  simp only [w1, w2, w3, w4]
  by_cases h : (l.getD i pd).2.1 % 256 % 3 = (l.getD i pd).2.2.1 % 256 % 3
  · rw [decide_eq_true h, if_pos h]; rfl
  · rw [decide_eq_false h, if_neg h]; rfl

theorem rowed_some {k : Nat} {l : List PayT} (hk : l.length < k) (hl : l.length ≤ 60) : ∃ r, girolaw16_rowed k l = some r ∧ (∀ p ∈ r, May 3 p) ∧ r.length ≤ l.length := by
  obtain ⟨r, h1, h2⟩ := carryE0 (L := fun c i (r : List PayT) => girolaw16_rowed_L0 k c l r i) (N := l.length) (fun r => r) (fun i r => (∀ p ∈ r, May 3 p) ∧ r.length ≤ i) (fun c r hr => by
      show girolaw16_rowed_L0b k _ l r l.length = _
      unfold girolaw16_rowed_L0b
      simp only [dec_lt, decide_eq_false (Nat.lt_irrefl _), cond_false]) (fun c i r hi hr => by
      obtain ⟨m, e, h1, h2⟩ := Put_some (k := k) (l := r) (by omega) (by omega) (rPay i (l.getD i pd))
      rw [rowed_round hi (by omega), h1]
      simp only [Option.bind_some]
      by_cases he : e = 0
      · rw [decide_eq_true he]
        refine ⟨m, rfl, ?_⟩
        obtain ⟨x, hx, rfl⟩ := h2 he
        refine ⟨fun p hp => ?_, by simp only [List.length_append, List.length_take, List.length_drop, List.length_cons, List.length_nil]; omega⟩
        rcases List.mem_append.1 hp with hp | hp
        · rcases List.mem_append.1 hp with hp | hp
          · exact hr.1 p (List.mem_of_mem_take hp)
          · rw [List.mem_singleton.1 hp]; exact rPay_may i _
        · exact hr.1 p (List.mem_of_mem_drop hp)
      · rw [decide_eq_false he]
        exact ⟨r, rfl, hr.1, by omega⟩) (s := []) hk ⟨fun p hp => absurd hp List.not_mem_nil, Nat.le_refl 0⟩
  unfold girolaw16_rowed
  rw [h1]
  exact ⟨r, rfl, h2⟩

/-- Small books. -/
def Small (a : List Acc) (p : List (List Int)) : Prop := (∀ i, i < a.length → -2305843009213693952 < (a.getD i ad).1 ∧ (a.getD i ad).1 < 2305843009213693952) ∧ ∀ i, i < a.length → ∀ j, j < a.length → -36028797018963968 < cell p i j ∧ cell p i j < 36028797018963968

theorem post_small {k : Nat} (hk : 100 < k) {a : List Acc} {b : List (List Int)} {m : List Int} {p : List (List Int)} {l : List PayT} (h : Books a b m p) (hl : Row a.length l) (hs : Small a p) :
    ∃ a' p', post_Post k a b m p l = some (a', b, m, p', 0) ∧ Posted a.length a p l a' p' ∧ Books a' b m p' := by
  obtain ⟨r, h1, h2⟩ := post_Post_eq hk h (l := l) (by have := hl.2; omega)
  obtain ⟨a', p', x, hr⟩ := h2.1 hl
  have hB := posted_books h hl x (fun i hi => by
      have h1 := sum_gB hl i
      have h2 := hs.1 i hi
      omega) (fun i hi j hj => by
      have h1 := sum_gS hl i j
      have h2 := sum_gS hl j i
      have h3 := hs.2 i hi j hj
      omega)
  rw [isB_iff.2 hB] at hr
  subst hr
  exact ⟨a', p', h1, x, hB⟩

theorem some_small (s : List Int) (w : Int) : Small (sA s w) (sP w) := by
  have h0 := hv_range s 0
  have h1 := hv_range s 1
  have h2 := hv_range s 2
  refine ⟨fun i hi => ?_, fun i hi j hj => ?_⟩
  · rcases lt3 hi with rfl | rfl | rfl
    · show _ < hv s 0 ∧ hv s 0 < _; omega
    · show _ < hv s 1 ∧ hv s 1 < _; omega
    · show _ < hv s 2 ∧ hv s 2 < _; omega
  · unfold sP
    cases decide (band .i64 w 4 = 4) <;> rcases lt3 hi with rfl | rfl | rfl <;> rcases lt3 hj with rfl | rfl | rfl <;> exact ⟨by decide, by decide⟩

theorem posted_small {n : Nat} {a : List Acc} {p : List (List Int)} {l : List PayT} {a' : List Acc} {p' : List (List Int)} (hl : Row n l) (x : Posted n a p l a' p')
    (h1 : ∀ i, i < n → -1152921504606846976 < (a.getD i ad).1 ∧ (a.getD i ad).1 < 1152921504606846976) (h2 : ∀ i, i < n → ∀ j, j < n → -18014398509481984 < cell p i j ∧ cell p i j < 18014398509481984) : Small a' p' := by
  refine ⟨fun i hi => ?_, fun i hi j hj => ?_⟩
  · rw [x.al] at hi
    rw [x.acct i hi]
    have := h1 i hi
    have := sum_gB hl i
    dsimp only
    omega
  · rw [x.al] at hi hj
    rw [x.cell i hi j hj]
    have := h2 i hi j hj
    have := sum_gS hl i j
    have := sum_gS hl j i
    omega

theorem postOrder (s : List Int) (w : Int) (l : List PayT) (cut : Int) : girolaw16_PostOrder 200 s w l cut = some true := by
  unfold girolaw16_PostOrder
  by_cases c : l.length > 30
  · have : decide (((l.length : Nat) : Int) > 30) = true := decide_eq_true (by omega)
    rw [this]; rfl
  have : decide (((l.length : Nat) : Int) > 30) = false := decide_eq_false (by omega)
  rw [this]
  obtain ⟨r, hr, hm, hlen⟩ := rowed_some (k := 200) (l := l) (by omega) (by omega)
  rw [some_eq (by omega), hr]
  simp only [cond_false, Option.bind_some]
  have hb := some_books s w
  have hs := some_small s w
  have hrow : Row 3 r := ⟨hm, by omega⟩
  have w1 : w64 (((r.length : Nat) : Int) + 1) = ((r.length + 1 : Nat) : Int) := by rw [w64_id (by omega) (by omega)]; rfl
  have mb : band .i64 cut 65535 = cut % 65536 := band_mask 16 (by omega) cut
  obtain ⟨x, hx⟩ : ∃ x : Nat, cut % 65536 = (x : Int) := ⟨(cut % 65536).toNat, by omega⟩
  have tm : Int.tmod (x : Int) ((r.length + 1 : Nat) : Int) = ((x % (r.length + 1) : Nat) : Int) := tmod_nat x (r.length + 1)
  have hq : x % (r.length + 1) ≤ r.length := by have := Nat.mod_lt x (show r.length + 1 > 0 by omega); omega
  generalize x % (r.length + 1) = q at tm hq
  rw [w1, mb, hx, tm]
  have d0 : decide (((r.length + 1 : Nat) : Int) = 0) = false := decide_eq_false (by omega)
  have d1 : decide (0 ≤ ((q : Nat) : Int)) = true := decide_eq_true (by omega)
  have d2 : decide (((q : Nat) : Int) ≤ ((r.length : Nat) : Int)) = true := decide_eq_true (by omega)
  rw [d0, d1, d2, Int.toNat_natCast]
  have hd : Row 3 (r.drop q) := ⟨fun p hp => hm p (List.mem_of_mem_drop hp), by rw [List.length_drop]; omega⟩
  have ht : Row 3 (r.take q) := hrow.take q
  obtain ⟨a1, p1, e1, x1, b1⟩ := post_small (k := 200) (by omega) hb hrow hs
  obtain ⟨a2, p2, e2, x2, b2⟩ := post_small (k := 200) (by omega) hb hd hs
  have hs2 : Small a2 p2 := posted_small hd x2 (fun i hi => by
      have h0 := hv_range s 0
      have h1 := hv_range s 1
      have h2 := hv_range s 2
      rcases lt3 hi with rfl | rfl | rfl
      · show _ < hv s 0 ∧ hv s 0 < _; omega
      · show _ < hv s 1 ∧ hv s 1 < _; omega
      · show _ < hv s 2 ∧ hv s 2 < _; omega) (fun i hi j hj => by
      unfold sP
      cases decide (band .i64 w 4 = 4) <;> rcases lt3 hi with rfl | rfl | rfl <;> rcases lt3 hj with rfl | rfl | rfl <;> exact ⟨by decide, by decide⟩)
  have hl2 : a2.length = 3 := x2.al
  obtain ⟨a3, p3, e3, x3, b3⟩ := post_small (k := 200) (by omega) b2 (by rw [hl2]; exact ht) hs2
  rw [hl2] at x3
  have sb : ∀ i, sumL (gB i) r = sumL (gB i) (r.take q) + sumL (gB i) (r.drop q) := fun i => by rw [← sumL_append, List.take_append_drop]
  have sr : ∀ i, sumL (gR i) r = sumL (gR i) (r.take q) + sumL (gR i) (r.drop q) := fun i => by rw [← sumL_append, List.take_append_drop]
  have ss : ∀ i j, sumL (gS i j) r = sumL (gS i j) (r.take q) + sumL (gS i j) (r.drop q) := fun i j => by rw [← sumL_append, List.take_append_drop]
  have y : Posted 3 (sA s w) (sP w) r a3 p3 := by
    refine ⟨x3.al, fun i hi => ?_, x3.pl, x3.pr, fun i hi j hj => ?_⟩
    · rw [x3.acct i hi, x2.acct i hi]
      dsimp only
      rw [keptZ_keptZ (sum_gR hd i).1 (sum_gR ht i).1, sb, sr, Int.add_assoc, Int.add_comm (sumL (gB i) (r.drop q)), Int.add_comm (sumL (gR i) (r.drop q))]
    · rw [x3.cell i hi j hj, x2.cell i hi j hj, ss, ss]
      omega
  obtain ⟨rfl, rfl⟩ := y.same x1
  simp only [Bool.not_false, Bool.and_self, cond_true, e1, e2, e3, Option.bind_some, same_refl (show 10 < 200 by omega) b1.toSized, girolaw16_known_eq, decide_true]
end Go.Ab.Gi
