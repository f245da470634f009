/- part 27 -/
import Derived.Test.YtdhajnjinkknkaaGreatGiPKnotG
set_option linter.unusedVariables false
set_option linter.unusedSimpArgs false
namespace Go.Ab.Gi
open Go.Ab
theorem view_Heads_eq {k : Nat} {l : List PayT} (hk : l.length < k) (hl : Small l) {many : List Int} (h0 : Some0 many) (hm : ∀ i, many.getD i 0 ≤ 1000) (hml : many.length ≤ 1000) : view_Heads k l many = some (headsL l many) := by
 unfold Small at hl
 unfold view_Heads slices_Clone_int view_all__view_Heads_fn1
 rw [roomB_true (by omega) (by omega)]
 simp only [cond_true, Option.bind_some]
 obtain ⟨s', h1, h2, h3, h4⟩ := carryE0 (L := fun n i (s : List Int × List PayT) => view_all__view_Heads_fn1_L0 k n l l.length i s.1 s.2) (N := l.length) (fun s => s) (fun i s => s.1.length = many.length ∧ (∀ f : Nat, f < many.length → s.1.getD f 0 = if many.getD f 0 ≤ (cnt (l.take i) f : Nat) then 0 else many.getD f 0 - (cnt (l.take i) f : Nat)) ∧ s.2 = headsN l many i) (fun n s _ => by
  show view_all__view_Heads_fn1_L0b k _ l l.length l.length s.1 s.2 = _
  unfold view_all__view_Heads_fn1_L0b
  simp only [dec_lt, decide_eq_false (Nat.lt_irrefl _), cond_false]) (fun n i s hi hs => by
  obtain ⟨s1, s2, s3⟩ := hs
  have hsl : s.2.length ≤ i := by rw [s3]; exact headsN_length l many i
  show ∃ s', view_all__view_Heads_fn1_L0b k _ l l.length i s.1 s.2 = _ ∧ _
  unfold view_all__view_Heads_fn1_L0b view_Heads_fn1
  simp only [boundOk_nat, w64_succ hi (show l.length < 9223372036854775808 by omega), dec_lt, Int.toNat_natCast, decide_eq_true hi, cond_true, room56 (show s.2.length ≤ 1000 by omega)]
  have hcs := fun f => cnt_snoc l i hi f
  have hno : ∀ f : Nat, f < many.length → (l.getD i pd).2.1 ≠ (f : Int) → (if many.getD f 0 ≤ (cnt (l.take (i + 1)) f : Nat) then (0 : Int) else many.getD f 0 - (cnt (l.take (i + 1)) f : Nat)) = if many.getD f 0 ≤ (cnt (l.take i) f : Nat) then 0 else many.getD f 0 - (cnt (l.take i) f : Nat) := by
   intro f hf hne
   rw [hcs f, if_neg hne, Nat.add_zero]
  have skip : headAt l many i = false → (∀ f : Nat, f < many.length → (l.getD i pd).2.1 = (f : Int) → many.getD f 0 ≤ (cnt (l.take i) f : Nat)) → (s.1.length = many.length ∧ (∀ f : Nat, f < many.length → s.1.getD f 0 = if many.getD f 0 ≤ (cnt (l.take (i + 1)) f : Nat) then 0 else many.getD f 0 - (cnt (l.take (i + 1)) f : Nat)) ∧ s.2 = headsN l many (i + 1)) := by
   intro hh hz
   refine ⟨s1, fun f hf => ?_, ?_⟩
   ·by_cases c : (l.getD i pd).2.1 = (f : Int)
    ·have := hz f hf c
     rw [s2 f hf, if_pos this, hcs f, if_pos c, if_pos (by omega)]
    ·rw [hno f hf c, s2 f hf]
   ·show _ = headsN l many i ++ _
    rw [hh, s3]; simp
  cases e1 : decide ((l.getD i pd).2.1 < 0) with
  | true =>
   refine ⟨s, rfl, skip ?_ ?_⟩
   ·unfold headAt
    rw [decide_eq_true_eq] at e1
    rw [decide_eq_false (show ¬ (l.getD i pd).2.1 ≥ 0 by omega)]; rfl
   ·intro f hf c
    rw [decide_eq_true_eq] at e1
    omega
  | false =>
   cases e2 : decide ((l.getD i pd).2.1 ≥ ((s.1.length : Nat) : Int)) with
   | true =>
    refine ⟨s, rfl, skip ?_ ?_⟩
    ·unfold headAt
     rw [decide_eq_true_eq] at e2
     rw [decide_eq_false (show ¬ (l.getD i pd).2.1 < (many.length : Int) by omega), Bool.and_false]; rfl
    ·intro f hf c
     rw [decide_eq_true_eq] at e2
     omega
   | false =>
    rw [decide_eq_false_iff_not] at e1 e2
    obtain ⟨f, hf⟩ : ∃ f : Nat, (l.getD i pd).2.1 = f := ⟨(l.getD i pd).2.1.toNat, by omega⟩
    have hfl : f < many.length := by omega
    have hf' : (l.getD i (0, (0, (0, (0, (0, (0, 0))))))).2.1 = f := hf
    simp only [cond_false, hf', boundOk_nat, Int.toNat_natCast, s1, decide_eq_true hfl, cond_true]
    have hat : headAt l many i = decide (((cnt (l.take i) f : Nat) : Int) < many.getD f 0) := by
     unfold headAt
     rw [hf, decide_eq_true (show (f : Int) ≥ 0 by omega), decide_eq_true (show (f : Int) < (many.length : Int) by omega), Int.toNat_natCast]
     rfl
    have hval := s2 f hfl
    cases e3 : decide (s.1.getD f 0 < 1) with
    | true =>
     rw [decide_eq_true_eq, hval] at e3
     have hle : many.getD f 0 ≤ (cnt (l.take i) f : Nat) := by
      by_cases c : many.getD f 0 ≤ (cnt (l.take i) f : Nat)
      ·exact c
      ·rw [if_neg c] at e3; omega
     refine ⟨s, rfl, skip (by rw [hat]; exact decide_eq_false (by omega)) ?_⟩
     intro g hg c
     have : g = f := by omega
     subst this
     exact hle
    | false =>
     rw [decide_eq_false_iff_not] at e3
     have hgt : ¬ many.getD f 0 ≤ (cnt (l.take i) f : Nat) := by
      intro c
      rw [hval, if_pos c] at e3
      omega
     rw [if_neg hgt] at hval
     have hm' := hm f
     have hw : w64 (s.1.getD f 0 - 1) = s.1.getD f 0 - 1 := w64_id (by omega) (by omega)
     refine ⟨(s.1.set f (s.1.getD f 0 - 1), s.2 ++ [l.getD i pd]), ?_, ?_, ?_, ?_⟩
     ·simp only [cond_false, Option.bind_some, cond_true, hw]
     ·rw [List.length_set]; exact s1
     ·intro g hg
      rw [getD_set]
      by_cases c : f = g
      ·subst c
       rw [if_pos ⟨rfl, by omega⟩, hcs f, if_pos hf, hval]
       by_cases d : many.getD f 0 ≤ ((cnt (l.take i) f + 1 : Nat) : Int)
       ·rw [if_pos d]; omega
       ·rw [if_neg d]; omega
      ·rw [if_neg (fun e => c e.1), hno g hg (by omega)]
       exact s2 g hg
     ·show s.2 ++ [l.getD i pd] = headsN l many i ++ _
      rw [hat, decide_eq_true (by omega), s3]; rfl) (s := (many, [])) hk ⟨rfl, fun f hf => by
   have : (cnt (l.take 0) f : Nat) = 0 := rfl
   have h0f := h0 f
   rw [this]
   by_cases c : many.getD f 0 ≤ ((0 : Nat) : Int)
   ·rw [if_pos c]
    show many.getD f 0 = 0
    omega
   ·rw [if_neg c]
    show many.getD f 0 = _
    omega, rfl⟩
 have h1' : view_all__view_Heads_fn1_L0 k k l l.length 0 many [] = some s' := h1
 rw [h1']
 simp only [Option.bind_some, h4]
 rfl
theorem view_Of_eq {k : Nat} {l : List PayT} (hk : l.length < k) (hl : Small l) (f : Int) : view_Of k l f = some (l.filter (fromB f)) := by
 unfold view_Of view_all__view_Of_fn1
 have := filt0 pd (L := fun n i s => view_all__view_Of_fn1_L0 k n l l.length i f s) (fromB f) id (fun n s => by
  show view_all__view_Of_fn1_L0b k _ l l.length l.length f s = _
  unfold view_all__view_Of_fn1_L0b
  simp only [dec_lt, decide_eq_false (Nat.lt_irrefl _), cond_false]; rfl) (fun n i s hi hs => by
  show view_all__view_Of_fn1_L0b k _ l l.length i f s = _
  unfold view_all__view_Of_fn1_L0b view_Of_fn1
  unfold Small at hl
  simp only [boundOk_nat, w64_succ hi (show l.length < 9223372036854775808 by omega), dec_lt, Int.toNat_natCast, decide_eq_true hi, cond_true, room56 (show s.length ≤ 1000 by omega)]
  unfold fromB
  cases h1 : decide ((l.getD i pd).2.1 = f) <;> rfl) hk
 rw [this]
 rfl
theorem knot_L0_eq {k : Nat} {B : BT} {l : List PayT} (hk : l.length < k) (hl : Small l) (hn : B.1.length < k) (hn' : B.1.length ≤ 1000) (s7 : Int) :
  knot_Most_L0 k k s7 B.1.length 0 B.1 B.2.1 B.2.2.1 B.2.2.2 [] l = some (s7, B.1, B.2.1, B.2.2.1, B.2.2.2, manyL l B.1.length, l) := by
 obtain ⟨s', h1, h2⟩ := carryE0 (L := fun n i (s : List Int) => knot_Most_L0 k n s7 B.1.length i B.1 B.2.1 B.2.2.1 B.2.2.2 s l) (N := B.1.length) (fun s => (s7, B.1, B.2.1, B.2.2.1, B.2.2.2, s, l)) (fun i s => s = manyL l i) (fun n s _ => by
  show knot_Most_L0b k _ s7 B.1.length B.1.length B.1 B.2.1 B.2.2.1 B.2.2.2 s l = _
  unfold knot_Most_L0b
  simp only [dec_lt, decide_eq_false (Nat.lt_irrefl _), cond_false]) (fun n i s hi hs => by
  refine ⟨_, ?_, (manyL_snoc l i).symm⟩
  show knot_Most_L0b k _ s7 B.1.length i B.1 B.2.1 B.2.2.1 B.2.2.2 s l = _
  unfold knot_Most_L0b
  have hr : roomB (s.length + 1) 8 = true := by rw [hs, manyL_length]; exact roomB_true (by omega) (by omega)
  simp only [dec_lt, decide_eq_true hi, cond_true, view_Of_eq hk hl, Option.bind_some, hr, w64_succ hi (show B.1.length < 9223372036854775808 by omega)]
  rw [hs]
  rfl) (s := []) hn rfl
 exact h1.trans (by rw [h2])
theorem knot_L2_eq {k : Nat} {B : BT} {l : List PayT} {s m : List Int} (hk : s.length < k) (hs : s.length ≤ 1000) (hin : ∀ x ∈ s, 0 ≤ x ∧ x < (m.length : Int)) (h0 : Some0 m) (hm : ∀ i, m.getD i 0 ≤ 1000) (s7 : Int) :
  knot_Most_L2 k k s7 s.length 0 B.1 B.2.1 B.2.2.1 B.2.2.2 m l s = some (s7, B.1, B.2.1, B.2.2.1, B.2.2.2, decM s m, l) := by
 obtain ⟨s', h1, h2⟩ := carryE0 (L := fun n i (r : List Int) => knot_Most_L2 k n s7 s.length i B.1 B.2.1 B.2.2.1 B.2.2.2 r l s) (N := s.length) (fun r => (s7, B.1, B.2.1, B.2.2.1, B.2.2.2, r, l)) (fun i r => r = decM (s.take i) m) (fun n r _ => by
  show knot_Most_L2b k _ s7 s.length s.length B.1 B.2.1 B.2.2.1 B.2.2.2 r l s = _
  unfold knot_Most_L2b
  simp only [dec_lt, decide_eq_false (Nat.lt_irrefl _), cond_false]) (fun n i r hi hr => by
  refine ⟨_, ?_, (decM_snoc s m i hi).symm⟩
  show knot_Most_L2b k _ s7 s.length i B.1 B.2.1 B.2.2.1 B.2.2.2 r l s = _
  unfold knot_Most_L2b
  obtain ⟨b1, b2⟩ := hin _ (getD_mem (d := 0) hi)
  have hrl : r.length = m.length := by rw [hr, decM_length]
  have hb : boundOk (s.getD i 0) r.length = true := boundOk_true b1 (by omega)
  have hbd := decM_bounds (s.take i) m (s.getD i 0).toNat
  have h0' := h0 (s.getD i 0).toNat
  have hm' := hm (s.getD i 0).toNat
  have hlt : (s.take i).length ≤ s.length := List.length_take_le' _ _
  have hw : w64 (r.getD (s.getD i 0).toNat 0 - 1) = r.getD (s.getD i 0).toNat 0 - 1 := by
   rw [hr]
   exact w64_id (by omega) (by omega)
  simp only [dec_lt, boundOk_nat, Int.toNat_natCast, decide_eq_true hi, cond_true, hb, hw, w64_succ hi (show s.length < 9223372036854775808 by omega)]
  rw [hr]) (s := m) hk rfl
 have := h1.trans (by rw [h2, List.take_length])
 exact this
theorem sweep_both {k : Nat} (hk : 100 < k) {B : BT} (hb : BooksT B) {l : List PayT} (hl : ∀ q ∈ l, May B.1.length q) (h64 : l.length ≤ 64) {m f : List Int} {n : Nat} (h : Swept B l m f n) :
  ∀ (N : Nat) (s7 : Int), m.length = B.1.length → Some0 m → (∀ i, m.getD i 0 ≤ 1000) → n < N → 0 ≤ s7 → s7 + n < 1000000 →
  knot_Most_L1 k N s7 B.1 B.2.1 B.2.2.1 B.2.2.2 m l = some (s7 + n + 1, f) := by
 induction h with
 | @stop m h =>
  intro N s7 hm h0 h1 hn hs hs'
  obtain ⟨N, rfl⟩ : ∃ x, N = x + 1 := ⟨N - 1, by omega⟩
  have hn6 := hb.n6
  show knot_Most_L1b k _ s7 B.1 B.2.1 B.2.2.1 B.2.2.2 m l = _
  unfold knot_Most_L1b
  have hS := fits_Short_eq hk hb (heads_row hl h64 m)
  have hS' : fits_Short k B.1 B.2.1 B.2.2.1 B.2.2.2 (headsL l m) = some (shortT B (headsL l m)) := hS
  rw [view_Heads_eq (by omega) (show Small l by show l.length ≤ 1000; omega) h0 h1 (by omega)]
  simp only [Option.bind_some]
  rw [hS', h]
  simp only [Option.bind_some]
  have w : w64 (s7 + 1) = s7 + 1 := w64_id (by omega) (by omega)
  rw [w]
  simp
 | @step m f n h h' ih =>
  intro N s7 hm h0 h1 hn hs hs'
  obtain ⟨N, rfl⟩ : ∃ x, N = x + 1 := ⟨N - 1, by omega⟩
  have hn6 := hb.n6
  show knot_Most_L1b k _ s7 B.1 B.2.1 B.2.2.1 B.2.2.2 m l = _
  unfold knot_Most_L1b
  have hS := fits_Short_eq hk hb (heads_row hl h64 m)
  have hS' : fits_Short k B.1 B.2.1 B.2.2.1 B.2.2.2 (headsL l m) = some (shortT B (headsL l m)) := hS
  rw [view_Heads_eq (by omega) (show Small l by show l.length ≤ 1000; omega) h0 h1 (by omega)]
  simp only [Option.bind_some]
  rw [hS']
  simp only [Option.bind_some]
  have w : w64 (s7 + 1) = s7 + 1 := w64_id (by omega) (by omega)
  have hne : decide ((((shortT B (headsL l m)).length : Nat) : Int) = 0) = false := decide_eq_false (by
   have := List.length_pos_iff.2 h
   omega)
  have hsl : (shortT B (headsL l m)).length ≤ B.1.length := by
   unfold shortT shortL
   rw [List.length_map]
   have := List.length_filter_le (fun i => shortB B.1 B.2.1 B.2.2.1 B.2.2.2 (headsL l m) i) (List.range B.1.length)
   rwa [List.length_range] at this
  rw [hne, w]
  simp only [cond_false]
  rw [knot_L2_eq (by omega) (by omega) (by rw [hm]; exact shortT_mem) h0 h1]
  simp only [Option.bind_some]
  have hd0 := dec_nonneg hl hm h0
  have := ih N (s7 + 1) ((decM_length _ _).trans hm) hd0 (fun i => by have := (decM_bounds (shortT B (headsL l m)) m i).2; have := h1 i; omega) (by omega) (by omega) (by omega)
  rw [this]
  congr 2
  omega
theorem knot_Most_is {k : Nat} (hk : 100 < k) {B : BT} (hb : BooksT B) {l : List PayT} (hl : ∀ q ∈ l, May B.1.length q) (h64 : l.length ≤ 64) (t : Int) {f : List Int} {n : Nat} (hn : n ≤ l.length) (h : Swept B (readyL l t) (manyL (readyL l t) B.1.length) f n) :
  knot_Most k B.1 B.2.1 B.2.2.1 B.2.2.2 l t = some (f, ((n + 1 : Nat) : Int)) := by
 have hn6 := hb.n6
 have hr := ready_length l t
 have h1 := many_ok (l := readyL l t) (by omega) B.1.length
 unfold knot_Most
 rw [view_Ready_eq (by omega) (by show l.length ≤ 1000; omega)]
 simp only [Option.bind_some]
 have e : knot_Most_L0 k k 0 B.1.length 0 B.1 B.2.1 B.2.2.1 B.2.2.2 [] (l.filter (readyB t)) = _ := knot_L0_eq (k := k) (B := B) (l := readyL l t) (by omega) (by show (readyL l t).length ≤ 1000; omega) (by omega) (by omega) 0
 rw [e]
 simp only [Option.bind_some]
 rw [sweep_both hk hb (ready_may hl) (by omega) h k 0 (manyL_length _ _) h1.1 h1.2 (by omega) (by omega) (by omega)]
 simp
theorem knot_drop {k : Nat} {C : BT} {l hs : List PayT} (hl : l.length < k) (hl' : l.length ≤ 1000) (hk : hs.length < k) (hh : hs.length ≤ 1000) :
  knot_Run_L0 k k l hs.length 0 C.1 C.2.1 C.2.2.1 C.2.2.2 hs = some (dropsL l hs, C.1, C.2.1, C.2.2.1, C.2.2.2, hs) := by
 obtain ⟨s', h1, h2⟩ := carryE0 (L := fun n i (s : List PayT) => knot_Run_L0 k n s hs.length i C.1 C.2.1 C.2.2.1 C.2.2.2 hs) (N := hs.length) (fun s => (s, C.1, C.2.1, C.2.2.1, C.2.2.2, hs)) (fun i s => s = dropsL l (hs.take i)) (fun n s _ => by
  show knot_Run_L0b k _ s hs.length hs.length C.1 C.2.1 C.2.2.1 C.2.2.2 hs = _
  unfold knot_Run_L0b
  simp only [dec_lt, decide_eq_false (Nat.lt_irrefl _), cond_false]) (fun n i s hi hr => by
  refine ⟨_, ?_, (dropsL_snoc l hs i hi).symm⟩
  show knot_Run_L0b k _ s hs.length i C.1 C.2.1 C.2.2.1 C.2.2.2 hs = _
  unfold knot_Run_L0b
  have hsl := (dropsL_le (hs.take i) l).1
  rw [← hr] at hsl ⊢
  simp only [dec_lt, boundOk_nat, Int.toNat_natCast, decide_eq_true hi, cond_true, row_Drop_eq (show s.length < k by omega) (show Small s by show s.length ≤ 1000; omega), Option.bind_some, w64_succ hi (show hs.length < 9223372036854775808 by omega)]
  rfl) (s := l) hk rfl
 have := h1.trans (by rw [h2, List.take_length])
 exact this
theorem knot_Run_is {k : Nat} (hk : 100 < k) {B : BT} (hb : BooksT B) {l : List PayT} (hl : ∀ q ∈ l, May B.1.length q) (h64 : l.length ≤ 64) (t : Int) {f : List Int} {n : Nat} (hn : n ≤ l.length) (h : Swept B (readyL l t) (manyL (readyL l t) B.1.length) f n)
  {r : List Acc × List (List Int) × List Int × List (List Int) × Int} (hr : post_Post k B.1 B.2.1 B.2.2.1 B.2.2.2 (headsL (readyL l t) f) = some r) : knot_Run k B.1 B.2.1 B.2.2.1 B.2.2.2 l t = some (knotR B l (headsL (readyL l t) f) r) := by
 have hn6 := hb.n6
 have hrl := ready_length l t
 have h1 := many_ok (l := readyL l t) (by omega) B.1.length
 have hle := h.le (manyL_length _ _)
 have h0 := h.nonneg (ready_may hl) (manyL_length _ _) h1.1
 have hfl : f.length = B.1.length := hle.1.trans (manyL_length _ _)
 have hf : ∀ i, f.getD i 0 ≤ 1000 := fun i => by
  by_cases c : i < (manyL (readyL l t) B.1.length).length
  ·have := hle.2 i c
   have := h1.2 i
   omega
  ·rw [List.getD_eq_getElem?_getD, List.getElem?_eq_none (by have := hle.1; omega)]
   show (0 : Int) ≤ 1000
   omega
 have hhl := (headsL_sub (readyL l t) f).length_le
 unfold knot_Run
 rw [knot_Most_is hk hb hl h64 t hn h, view_Ready_eq (by omega) (by show l.length ≤ 1000; omega)]
 simp only [Option.bind_some]
 have e : view_Heads k (l.filter (readyB t)) f = _ := view_Heads_eq (k := k) (l := readyL l t) (by omega) (by show (readyL l t).length ≤ 1000; omega) h0 hf (by omega)
 rw [e]
 simp only [Option.bind_some]
 rw [hr]
 simp only [Option.bind_some]
 unfold knotR
 cases decide (r.2.2.2.2 = 0) with
 | false => rfl
 | true =>
  simp only [Bool.not_true, cond_false]
  have e2 : knot_Run_L0 k k l ((List.length (headsL (readyL l t) f) : Nat) : Int) 0 r.1 r.2.1 r.2.2.1 r.2.2.2.1 (headsL (readyL l t) f) = _ := knot_drop (C := (r.1, r.2.1, r.2.2.1, r.2.2.2.1)) (by omega) (by omega) (by omega) (by omega)
  rw [e2]
  rfl
end Go.Ab.Gi
