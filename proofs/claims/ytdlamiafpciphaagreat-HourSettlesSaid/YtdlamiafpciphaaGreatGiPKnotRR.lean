/- What giroref20.Most and giroref20.Run say. -/
import Derived.Test.YtdlamiafpciphaaGreatGiPHeadsR
set_option linter.unusedVariables false
set_option linter.unusedSimpArgs false
namespace Go.Ab.Gi
open Go.Ab

theorem ref20_L0_eq {k : Nat} {B : BT} {l : List PayT} (hk : l.length < k) (hl : Small l) (hn : B.1.length < k) (hn' : B.1.length ≤ 1000) :
    giroref20_Most_L0 k k 0 B.1 B.2.1 B.2.2.1 B.2.2.2 l [] = some (B.1, B.2.1, B.2.2.1, B.2.2.2, l, manyL l B.1.length) := by
  obtain ⟨s', h1, h2⟩ := carryE0 (L := fun n i (s : List Int) => giroref20_Most_L0 k n i B.1 B.2.1 B.2.2.1 B.2.2.2 l s) (N := B.1.length) (fun s => (B.1, B.2.1, B.2.2.1, B.2.2.2, l, s)) (fun i s => s = manyL l i) (fun n s _ => by
    show giroref20_Most_L0b k _ B.1.length B.1 B.2.1 B.2.2.1 B.2.2.2 l s = _
    unfold giroref20_Most_L0b
    simp only [dec_lt, decide_eq_false (Nat.lt_irrefl _), cond_false]) (fun n i s hi hs => by
    refine ⟨_, ?_, (manyL_snoc l i).symm⟩
    show giroref20_Most_L0b k _ i B.1 B.2.1 B.2.2.1 B.2.2.2 l s = _
    unfold giroref20_Most_L0b
    have hr : roomB (s.length + 1) 8 = true := by rw [hs, manyL_length]; exact roomB_true (by omega) (by omega)
    simp only [dec_lt, decide_eq_true hi, cond_true, giroref14_Of_eq hk hl, Option.bind_some, hr, w64_succ hi (show B.1.length < 9223372036854775808 by omega)]
    rw [hs]
    rfl) (s := []) hn rfl
  exact h1.trans (by rw [h2])

theorem ref20_L2_eq {k : Nat} {B : BT} {l : List PayT} {s m : List Int} (hk : s.length < k) (hs : s.length ≤ 1000) (hin : ∀ x ∈ s, 0 ≤ x ∧ x < (m.length : Int)) (h0 : Some0 m) (hm : ∀ i, m.getD i 0 ≤ 1000) (s11 : Int) :
    giroref20_Most_L2 k k s11 0 B.1 B.2.1 B.2.2.1 B.2.2.2 l m s = some (s11, B.1, B.2.1, B.2.2.1, B.2.2.2, l, decM s m) := by
  obtain ⟨s', h1, h2⟩ := carryE0 (L := fun n i (r : List Int) => giroref20_Most_L2 k n s11 i B.1 B.2.1 B.2.2.1 B.2.2.2 l r s) (N := s.length) (fun r => (s11, B.1, B.2.1, B.2.2.1, B.2.2.2, l, r)) (fun i r => r = decM (s.take i) m) (fun n r _ => by
    show giroref20_Most_L2b k _ s11 s.length B.1 B.2.1 B.2.2.1 B.2.2.2 l r s = _
    unfold giroref20_Most_L2b
    simp only [dec_lt, decide_eq_false (Nat.lt_irrefl _), cond_false]) (fun n i r hi hr => by
    refine ⟨_, ?_, (decM_snoc s m i hi).symm⟩
    show giroref20_Most_L2b k _ s11 i B.1 B.2.1 B.2.2.1 B.2.2.2 l r s = _
    unfold giroref20_Most_L2b
    obtain ⟨b1, b2⟩ := hin _ (getD_mem (d := 0) hi)
    have hrl : r.length = m.length := by rw [hr, decM_length]
    have hb : boundOk (s.getD i 0) r.length = true := boundOk_true b1 (by omega)
    have hbd := decM_bounds (s.take i) m (s.getD i 0).toNat
    have h0' := h0 (s.getD i 0).toNat
    have hm' := hm (s.getD i 0).toNat
    have hlt : (s.take i).length ≤ s.length := List.length_take_le' _ _
    have hw : w64 (r.getD (s.getD i 0).toNat 0 - 1) = r.getD (s.getD i 0).toNat 0 - 1 := by
      rw [hr]
      exact w64_id (by omega) (by omega)
    simp only [dec_lt, boundOk_nat, Int.toNat_natCast, decide_eq_true hi, cond_true, hb, hw, w64_succ hi (show s.length < 9223372036854775808 by omega)]
    rw [hr]) (s := m) hk rfl
  have := h1.trans (by rw [h2, List.take_length])
  exact this

theorem sweep_ref {k : Nat} (hk : 100 < k) {B : BT} (hb : BooksT B) {l : List PayT} (hl : ∀ q ∈ l, May B.1.length q) (h64 : l.length ≤ 64) {m f : List Int} {n : Nat} (h : Swept B l m f n) :
    ∀ (N : Nat) (s7 : Int), m.length = B.1.length → Some0 m → (∀ i, m.getD i 0 ≤ 1000) → n < N → 0 ≤ s7 → s7 + n < 1000000 →
    giroref20_Most_L1 k N s7 B.1 B.2.1 B.2.2.1 B.2.2.2 l m = some (s7 + n, f) := by
  induction h with
  | @stop m h =>
    intro N s7 hm h0 h1 hn hs hs'
    obtain ⟨N, rfl⟩ : ∃ x, N = x + 1 := ⟨N - 1, by omega⟩
    have hn6 := hb.n6
    show giroref20_Most_L1b k _ s7 B.1 B.2.1 B.2.2.1 B.2.2.2 l m = _
    unfold giroref20_Most_L1b
    have hS := giroref15_Short_is hk hb (heads_row hl h64 m)
    have hS' : giroref15_Short k B.1 B.2.1 B.2.2.1 B.2.2.2 (headsL l m) = some (shortT B (headsL l m)) := hS
    rw [giroref14_Heads_eq (by omega) (show Small l by show l.length ≤ 1000; omega)]
    simp only [Option.bind_some]
    rw [hS', h]
    simp
  | @step m f n h h' ih =>
    intro N s7 hm h0 h1 hn hs hs'
    obtain ⟨N, rfl⟩ : ∃ x, N = x + 1 := ⟨N - 1, by omega⟩
    have hn6 := hb.n6
    show giroref20_Most_L1b k _ s7 B.1 B.2.1 B.2.2.1 B.2.2.2 l m = _
    unfold giroref20_Most_L1b
    have hS := giroref15_Short_is hk hb (heads_row hl h64 m)
    have hS' : giroref15_Short k B.1 B.2.1 B.2.2.1 B.2.2.2 (headsL l m) = some (shortT B (headsL l m)) := hS
    rw [giroref14_Heads_eq (by omega) (show Small l by show l.length ≤ 1000; omega)]
    simp only [Option.bind_some]
    rw [hS']
    simp only [Option.bind_some]
    have w : w64 (s7 + 1) = s7 + 1 := w64_id (by omega) (by omega)
    have hne : decide ((((shortT B (headsL l m)).length : Nat) : Int) = 0) = false := decide_eq_false (by
      have := List.length_pos_iff.2 h
      omega)
    have hsl : (shortT B (headsL l m)).length ≤ B.1.length := by
      unfold shortT shortL
      rw [List.length_map]
      have := List.length_filter_le (fun i => shortB B.1 B.2.1 B.2.2.1 B.2.2.2 (headsL l m) i) (List.range B.1.length)
      rwa [List.length_range] at this
    rw [hne]
    simp only [cond_false]
    rw [ref20_L2_eq (by omega) (by omega) (by rw [hm]; exact shortT_mem) h0 h1]
    simp only [Option.bind_some, w]
    have hd0 := dec_nonneg hl hm h0
    have := ih N (s7 + 1) ((decM_length _ _).trans hm) hd0 (fun i => by have := (decM_bounds (shortT B (headsL l m)) m i).2; have := h1 i; omega) (by omega) (by omega) (by omega)
    rw [this]
    congr 2
    omega

theorem ref20_Most_is {k : Nat} (hk : 100 < k) {B : BT} (hb : BooksT B) {l : List PayT} (hl : ∀ q ∈ l, May B.1.length q) (h64 : l.length ≤ 64) (t : Int) {f : List Int} {n : Nat} (hn : n ≤ l.length) (h : Swept B (readyL l t) (manyL (readyL l t) B.1.length) f n) :
    giroref20_Most k B.1 B.2.1 B.2.2.1 B.2.2.2 l t = some (f, ((n + 1 : Nat) : Int)) := by
  have hn6 := hb.n6
  have hr := ready_length l t
  have h1 := many_ok (l := readyL l t) (by omega) B.1.length
  unfold giroref20_Most
  rw [giroref14_Ready_eq (by omega) (by show l.length ≤ 1000; omega)]
  simp only [Option.bind_some]
  have e : giroref20_Most_L0 k k 0 B.1 B.2.1 B.2.2.1 B.2.2.2 (l.filter (readyB t)) [] = _ := ref20_L0_eq (k := k) (B := B) (l := readyL l t) (by omega) (by show (readyL l t).length ≤ 1000; omega) (by omega) (by omega)
  rw [e]
  simp only [Option.bind_some]
  rw [sweep_ref hk hb (ready_may hl) (by omega) h k 1 (manyL_length _ _) h1.1 h1.2 (by omega) (by omega) (by omega)]
  simp only [Option.bind_some]
  congr 2
  omega

theorem ref20_drop {k : Nat} {C : BT} {l hs : List PayT} (hl : l.length < k) (hl' : l.length ≤ 1000) (hk : hs.length < k) (hh : hs.length ≤ 1000) :
    giroref20_Run_L0 k k l 0 hs C.1 C.2.1 C.2.2.1 C.2.2.2 = some (dropsL l hs, hs, C.1, C.2.1, C.2.2.1, C.2.2.2) := by
  obtain ⟨s', h1, h2⟩ := carryE0 (L := fun n i (s : List PayT) => giroref20_Run_L0 k n s i hs C.1 C.2.1 C.2.2.1 C.2.2.2) (N := hs.length) (fun s => (s, hs, C.1, C.2.1, C.2.2.1, C.2.2.2)) (fun i s => s = dropsL l (hs.take i)) (fun n s _ => by
    show giroref20_Run_L0b k _ s hs.length hs C.1 C.2.1 C.2.2.1 C.2.2.2 = _
    unfold giroref20_Run_L0b
    simp only [dec_lt, decide_eq_false (Nat.lt_irrefl _), cond_false]) (fun n i s hi hr => by
    refine ⟨_, ?_, (dropsL_snoc l hs i hi).symm⟩
    show giroref20_Run_L0b k _ s i hs C.1 C.2.1 C.2.2.1 C.2.2.2 = _
    unfold giroref20_Run_L0b
    have hsl := (dropsL_le (hs.take i) l).1
    rw [← hr] at hsl ⊢
    simp only [dec_lt, boundOk_nat, Int.toNat_natCast, decide_eq_true hi, cond_true, giroref13_Drop_eq (show s.length < k by omega) (show Small s by show s.length ≤ 1000; omega), Option.bind_some, w64_succ hi (show hs.length < 9223372036854775808 by omega)]
    rfl) (s := l) hk rfl
  have := h1.trans (by rw [h2, List.take_length])
  exact this

theorem ref20_Run_is {k : Nat} (hk : 100 < k) {B : BT} (hb : BooksT B) {l : List PayT} (hl : ∀ q ∈ l, May B.1.length q) (h64 : l.length ≤ 64) (t : Int) {f : List Int} {n : Nat} (hn : n ≤ l.length) (h : Swept B (readyL l t) (manyL (readyL l t) B.1.length) f n)
    {r : List Acc × List (List Int) × List Int × List (List Int) × Int} (hr : giroref16_Post k B.1 B.2.1 B.2.2.1 B.2.2.2 (headsL (readyL l t) f) = some r) : giroref20_Run k B.1 B.2.1 B.2.2.1 B.2.2.2 l t = some (knotR B l (headsL (readyL l t) f) r) := by
  have hn6 := hb.n6
  have hrl := ready_length l t
  have hhl := (headsL_sub (readyL l t) f).length_le
  unfold giroref20_Run
  rw [ref20_Most_is hk hb hl h64 t hn h, giroref14_Ready_eq (by omega) (by show l.length ≤ 1000; omega)]
  simp only [Option.bind_some]
  have e : giroref14_Heads k (l.filter (readyB t)) f = _ := giroref14_Heads_eq (k := k) (l := readyL l t) (by omega) (by show (readyL l t).length ≤ 1000; omega) f
  rw [e]
  simp only [Option.bind_some]
  rw [hr]
  simp only [Option.bind_some]
  unfold knotR
  cases decide (r.2.2.2.2 = 0) with
  | false => rfl
  | true =>
    simp only [Bool.not_true, cond_false]
    have e2 : giroref20_Run_L0 k k l 0 (headsL (readyL l t) f) r.1 r.2.1 r.2.2.1 r.2.2.2.1 = _ := ref20_drop (C := (r.1, r.2.1, r.2.2.1, r.2.2.2.1)) (by omega) (by omega) (by omega) (by omega)
    rw [e2]
    rfl
end Go.Ab.Gi
