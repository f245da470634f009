/- part 14 -/
import Derived.Test.YtdhajnjinkknkaaGreatGiPFitsP
set_option linter.unusedVariables false
set_option linter.unusedSimpArgs false
namespace Go.Ab.Gi
open Go.Ab
def Dist (l : List PayT) : Prop := List.Pairwise (fun p q => p.1 ≠ q.1) l
theorem Dist.filter {l : List PayT} (h : Dist l) (f : PayT → Bool) : Dist (l.filter f) := List.Pairwise.filter f h
theorem filter_snoc {α : Type} (f : α → Bool) (l : List α) (i : Nat) (d : α) (h : i < l.length) : (l.take (i + 1)).filter f = (l.take i).filter f ++ (bif f (l.getD i d) then [l.getD i d] else []) := by
 rw [← take_snoc l i d h, List.filter_append]
 congr 1
theorem filt0 {α X : Type} (d : α) {l : List α} {L : Nat → Int → List α → Option X} (f : α → Bool) (e : List α → X) (hend : ∀ n s, L (n + 1) (l.length : Int) s = some (e s))
  (hstep : ∀ n i s, i < l.length → s.length ≤ i → L (n + 1) (i : Int) s = L n ((i + 1 : Nat) : Int) (bif f (l.getD i d) then s ++ [l.getD i d] else s)) {n : Nat} (hn : l.length < n) :
  L n 0 [] = some (e (l.filter f)) := by
 obtain ⟨s', h1, h2⟩ := carryE0 (L := L) (N := l.length) e (fun i s => s = (l.take i).filter f) (fun n s _ => hend n s) (fun n i s hi hs => by
  refine ⟨_, hstep n i s hi ?_, ?_⟩
  ·subst hs
   have := List.length_filter_le f (l.take i)
   rw [List.length_take] at this
   omega
  ·subst hs
   rw [filter_snoc f l i d hi]
   cases f (l.getD i d) <;> simp) (s := []) hn (by simp)
 rw [h1, h2, List.take_length]
def Small (l : List PayT) : Prop := l.length ≤ 1000
theorem room56 {n : Nat} (h : n ≤ 1000) : roomB (n + 1) 56 = true := roomB_true (by omega) (by omega)
def readyB (t : Int) (p : PayT) : Bool := bif decide (t ≥ p.2.2.2.2.2.1) then decide (t ≤ p.2.2.2.2.2.2) else false
theorem view_Ready_eq {k : Nat} {l : List PayT} (hk : l.length < k) (hl : Small l) (t : Int) : view_Ready k l t = some (l.filter (readyB t)) := by
 unfold view_Ready view_all__view_Ready_fn1
 have := filt0 pd (L := fun n i s => view_all__view_Ready_fn1_L0 k n l l.length i t s) (readyB t) id (fun n s => by
  show view_all__view_Ready_fn1_L0b k _ l l.length l.length t s = _
  unfold view_all__view_Ready_fn1_L0b
  simp only [dec_lt, decide_eq_false (Nat.lt_irrefl _), cond_false]; rfl) (fun n i s hi hs => by
  show view_all__view_Ready_fn1_L0b k _ l l.length i t s = _
  unfold view_all__view_Ready_fn1_L0b view_Ready_fn1 pay_Ready
  unfold Small at hl
  simp only [boundOk_nat, w64_succ hi (show l.length < 9223372036854775808 by omega), dec_lt, Int.toNat_natCast, decide_eq_true hi, cond_true, room56 (show s.length ≤ 1000 by omega)]
  unfold readyB
  cases h1 : decide (t ≥ (l.getD i pd).2.2.2.2.2.1) with
  | false => rfl
  | true =>
   cases h2 : decide (t ≤ (l.getD i pd).2.2.2.2.2.2) <;> rfl) hk
 rw [this]
 rfl
def fromB (f : Int) (p : PayT) : Bool := decide (p.2.1 = f)
def plainB (r : List PayT) (p : PayT) : Bool := allF (fun x => decide (((r.filter (fromB p.2.1)).getD x pd).2.2.2.2.1 = 3)) (r.filter (fromB p.2.1)).length 0
def headB (r : List PayT) (p : PayT) : Bool := decide ((r.filter (fromB p.2.1)).getD 0 pd = p)
def mayB' (r : List PayT) (p : PayT) : Bool := headB r p || plainB r p
def mayL (l : List PayT) (t : Int) : List PayT := (l.filter (readyB t)).filter (mayB' (l.filter (readyB t)))
def higherB (f : Int) (q : PayT) : Bool := decide (q.2.1 = f) && !decide (q.2.2.2.2.1 = 3)
theorem contains_higher {k : Nat} {l : List PayT} (hk : l.length < k) (hl : l.length < 9223372036854775808) (i f t a c s e : Int) :
  slices_ContainsFunc_Pay__view_May_fn1_fn1 k l i f t a c s e = some (!allF (fun x => !higherB f (l.getD x pd)) l.length 0) := by
 obtain ⟨x, h1, h2⟩ := scan_any (L := fun n i' => slices_IndexFunc_Pay__view_May_fn1_fn1_L0 k n l l.length i' i f t a c s e) (N := l.length) (fun x => higherB f (l.getD x pd)) (fun n => by
  show slices_IndexFunc_Pay__view_May_fn1_fn1_L0b k _ l l.length l.length i f t a c s e = _
  unfold slices_IndexFunc_Pay__view_May_fn1_fn1_L0b
  simp only [dec_lt, decide_eq_false (Nat.lt_irrefl _), cond_false]) (fun n j hj => by
  show slices_IndexFunc_Pay__view_May_fn1_fn1_L0b k _ l l.length j i f t a c s e = _
  unfold slices_IndexFunc_Pay__view_May_fn1_fn1_L0b view_May_fn1_fn1
  simp only [boundOk_nat, w64_succ hj hl, dec_lt, Int.toNat_natCast, decide_eq_true hj, cond_true]
  unfold higherB
  cases h1 : decide ((l.getD j pd).2.1 = f) with
  | false => rfl
  | true => cases h2 : decide ((l.getD j pd).2.2.2.2.1 = 3) <;> rfl) hk
 unfold slices_ContainsFunc_Pay__view_May_fn1_fn1 slices_IndexFunc_Pay__view_May_fn1_fn1
 have h1' : slices_IndexFunc_Pay__view_May_fn1_fn1_L0 k k l l.length 0 i f t a c s e = some x := h1
 rw [h1']
 rw [← h2]
 cases x <;> rfl
theorem plain_iff (r : List PayT) (p : PayT) : plainB r p = true ↔ ∀ q ∈ r, q.2.1 = p.2.1 → q.2.2.2.2.1 = 3 := by
 unfold plainB
 rw [allF_zero]
 constructor
 ·intro h q hq he
  have hm : q ∈ r.filter (fromB p.2.1) := List.mem_filter.2 ⟨hq, by simp [fromB, he]⟩
  obtain ⟨i, hi, e⟩ := List.getElem_of_mem hm
  have := h i hi
  rw [List.getD_eq_getElem?_getD, List.getElem?_eq_getElem hi, e] at this
  simpa using this
 ·intro h j hj
  have hm := getD_mem (d := pd) hj
  rw [List.mem_filter] at hm
  have := h _ hm.1 (by simpa [fromB] using hm.2)
  simpa using this
theorem higher_none (r : List PayT) (f : Int) : allF (fun x => !higherB f (r.getD x pd)) r.length 0 = true ↔ ∀ q ∈ r, q.2.1 = f → q.2.2.2.2.1 = 3 := by
 rw [allF_zero]
 constructor
 ·intro h q hq he
  obtain ⟨i, hi, e⟩ := List.getElem_of_mem hq
  have := h i hi
  rw [List.getD_eq_getElem?_getD, List.getElem?_eq_getElem hi, e] at this
  simpa [higherB, he] using this
 ·intro h j hj
  have := h _ (getD_mem (d := pd) hj)
  simp only [higherB, Bool.not_eq_true', Bool.and_eq_false_iff, Bool.not_eq_false', decide_eq_true_eq, decide_eq_false_iff_not]
  by_cases c : (r.getD j pd).2.1 = f
  ·exact .inr (this c)
  ·exact .inl c
theorem Dist.split {r : List PayT} (h : Dist r) {i : Nat} (hi : i < r.length) : ∀ q ∈ r.take i, q.1 ≠ (r.getD i pd).1 := by
 intro q hq
 have e : r.take (i + 1) = r.take i ++ [r.getD i pd] := (take_snoc r i pd hi).symm
 have hs : Dist (r.take (i + 1)) := List.Pairwise.sublist (List.take_sublist _ _) h
 rw [e] at hs
 exact (List.pairwise_append.1 hs).2.2 q hq _ (List.mem_singleton.2 rfl)
theorem split_at {α : Type} (r : List α) (i : Nat) (d : α) (hi : i < r.length) : r = r.take i ++ r.getD i d :: r.drop (i + 1) := by
 conv => lhs; rw [← List.take_append_drop i r]
 congr 1
 rw [List.drop_eq_getElem_cons hi]
 congr 1
 rw [List.getD_eq_getElem?_getD, List.getElem?_eq_getElem hi]; rfl
theorem head_iff {r : List PayT} (h : Dist r) {i : Nat} (hi : i < r.length) : headB r (r.getD i pd) = !(r.take i).any (fromB (r.getD i pd).2.1) := by
 unfold headB
 have e : ∀ f, fromB f (r.getD i pd) = true → r.filter (fromB f) = (r.take i).filter (fromB f) ++ r.getD i pd :: (r.drop (i + 1)).filter (fromB f) := by
  intro f hf
  have := congrArg (List.filter (fromB f)) (split_at r i pd hi)
  rwa [List.filter_append, List.filter_cons_of_pos hf] at this
 have e := e (r.getD i pd).2.1 (by simp [fromB])
 rw [e]
 cases ha : (r.take i).any (fromB (r.getD i pd).2.1) with
 | false =>
  have : (r.take i).filter (fromB (r.getD i pd).2.1) = [] := by
   rw [List.filter_eq_nil_iff]
   intro q hq hf
   rw [List.any_eq_false] at ha
   exact ha q hq hf
  rw [this]
  simp
 | true =>
  cases hf : (r.take i).filter (fromB (r.getD i pd).2.1) with
  | nil =>
   rw [List.filter_eq_nil_iff] at hf
   rw [List.any_eq_true] at ha
   obtain ⟨q, h1, h2⟩ := ha
   exact absurd h2 (hf q h1)
  | cons q l =>
   have hq : q ∈ r.take i := (List.mem_filter.1 (hf ▸ List.mem_cons_self .. : q ∈ (r.take i).filter _)).1
   have := h.split hi q hq
   have e2 : (q :: l ++ r.getD i pd :: (r.drop (i + 1)).filter (fromB (r.getD i pd).2.1)).getD 0 pd = q := rfl
   rw [e2]
   simp only [Bool.not_true, decide_eq_false_iff_not]
   intro c
   exact this (by rw [c])
theorem prog_may {r : List PayT} (h : Dist r) {i : Nat} (hi : i < r.length) :
  mayB' r (r.getD i pd) = (!(r.take i).any (fromB (r.getD i pd).2.1) || (decide ((r.getD i pd).2.2.2.2.1 = 3) && allF (fun x => !higherB (r.getD i pd).2.1 (r.getD x pd)) r.length 0)) := by
 unfold mayB'
 rw [head_iff h hi]
 congr 1
 rw [Bool.eq_iff_iff, plain_iff, Bool.and_eq_true, higher_none, decide_eq_true_eq]
 exact ⟨fun g => ⟨g _ (getD_mem hi) rfl, g⟩, fun g => g.2⟩
theorem lookup_cons (f g : Int) (l : List (Int × Bool)) : (List.lookup f ((g, true) :: l)).getD false = (decide (f = g) || (List.lookup f l).getD false) := by
 rw [List.lookup_cons]
 by_cases c : f = g
 ·subst c; simp
 ·have : (f == g) = false := by simpa using c
  rw [this]
  simp [c]
theorem view_May_eq {k : Nat} {l : List PayT} (hk : l.length < k) (hl : Small l) (hd : Dist l) (t : Int) : view_May k l t = some (mayL l t) := by
 unfold view_May
 rw [view_Ready_eq hk hl]
 simp only [Option.bind_some]
 unfold mayL
 have hl' : (l.filter (readyB t)).length ≤ l.length := List.length_filter_le _ _
 have hd' := hd.filter (readyB t)
 generalize l.filter (readyB t) = r at hl' hd'
 unfold Small at hl
 unfold view_all__view_May_fn1
 obtain ⟨s', h1, h2, h3⟩ := carryE0 (L := fun n i (s : List (Int × Bool) × List PayT) => view_all__view_May_fn1_L0 k n r r.length i s.1 r s.2) (N := r.length) (fun s => (s.1, r, s.2)) (fun i s => (∀ f, (List.lookup f s.1).getD false = (r.take i).any (fromB f)) ∧ s.2 = (r.take i).filter (mayB' r)) (fun n s _ => by
  show view_all__view_May_fn1_L0b k _ r r.length r.length s.1 r s.2 = _
  unfold view_all__view_May_fn1_L0b
  simp only [dec_lt, decide_eq_false (Nat.lt_irrefl _), cond_false]) (fun n i s hi hs => by
  refine ⟨((( r.getD i pd).2.1, true) :: s.1, bif mayB' r (r.getD i pd) then s.2 ++ [r.getD i pd] else s.2), ?_, ?_, ?_⟩
  ·show view_all__view_May_fn1_L0b k _ r r.length i s.1 r s.2 = _
   unfold view_all__view_May_fn1_L0b view_May_fn1
   have hlen : s.2.length ≤ i := by
    rw [hs.2]
    have := List.length_filter_le (mayB' r) (r.take i)
    rw [List.length_take] at this
    omega
   have hc := contains_higher (k := k) (l := r) (by omega) (by omega) (r.getD i pd).1 (r.getD i pd).2.1 (r.getD i pd).2.2.1 (r.getD i pd).2.2.2.1 (r.getD i pd).2.2.2.2.1 (r.getD i pd).2.2.2.2.2.1 (r.getD i pd).2.2.2.2.2.2
   have hlk := hs.1 (r.getD i pd).2.1
   have hp := prog_may hd' hi
   simp only [pd] at hc hlk hp ⊢
   simp only [boundOk_nat, w64_succ hi (show r.length < 9223372036854775808 by omega), dec_lt, Int.toNat_natCast, decide_eq_true hi, cond_true, room56 (show s.2.length ≤ 1000 by omega)]
   rw [hc, hlk, hp]
   generalize (r.take i).any _ = x
   generalize allF _ _ 0 = y
   generalize decide ((r.getD i (0, (0, (0, (0, (0, (0, 0))))))).2.2.2.2.1 = 3) = z
   cases x <;> cases y <;> cases z <;> rfl
  ·intro f
   rw [lookup_cons, hs.1 f, ← take_snoc r i pd hi, List.any_append, Bool.or_comm]
   congr 1
   simp only [List.any_cons, List.any_nil, Bool.or_false, fromB]
   rw [Bool.eq_iff_iff]
   simp only [decide_eq_true_eq]
   exact eq_comm
  ·show (bif mayB' r (r.getD i pd) then s.2 ++ [r.getD i pd] else s.2) = _
   rw [hs.2, filter_snoc _ _ _ pd hi]
   cases mayB' r (r.getD i pd) <;> simp) (s := ([], [])) (show r.length < k by omega) ⟨fun f => by simp, by simp⟩
 have h1' : view_all__view_May_fn1_L0 k k r r.length 0 [] r [] = some (s'.1, r, s'.2) := h1
 rw [h1', h3, List.take_length]
 rfl
end Go.Ab.Gi
