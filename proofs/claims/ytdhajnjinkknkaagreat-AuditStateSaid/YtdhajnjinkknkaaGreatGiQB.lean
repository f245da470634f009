/- Plain proofs, part 1. -/
import Derived.Test.YtdhajnjinkknkaaGreatGiQA
import Derived.Test.YtdhajnjinkknkaaGreatGiXS
set_option linter.unusedVariables false
set_option linter.unusedSimpArgs false
set_option maxRecDepth 100000
namespace Go.Ab.Gi
open Go.Ab
abbrev vL := Int × Int × Int × Int × Int × Int × Int × Int
instance instDecOut : DecidableEq vL := @instDecidableEqProd Int (Int × Int × Int × Int × Int × Int × Int) inferInstance (@instDecidableEqProd Int (Int × Int × Int × Int × Int × Int) inferInstance inferInstance)
def jR (to : Int) (p : zB) : vL := (to, 18, p.1, p.2.1, p.2.2.1, p.2.2.2.1, 0, 0)
def zDr (p : zB) : List vL := [jR p.2.1 p, jR p.2.2.1 p]
def wX : List zB → List vL
 | [] => []
 | p :: l => zDr p ++ wX l
theorem yLc : ∀ (l m : List zB), wX (l ++ m) = wX l ++ wX m
 | [], _ => rfl
 | p :: l, m => by
  show zDr p ++ wX (l ++ m) = zDr p ++ wX l ++ wX m
  rw [yLc l m, List.append_assoc]
theorem zY6 : ∀ (l : List zB), (wX l).length = 2 * l.length
 | [] => rfl
 | p :: l => by
  show (zDr p ++ wX l).length = _
  rw [List.length_append, zY6 l]
  simp [zDr]
  omega
theorem vHb (l : List zB) (i : Nat) (hi : i < l.length) : wX (l.take (i + 1)) = wX (l.take i) ++ zDr (l.getD i pd) := by
 rw [← zAo l i pd hi, yLc]
 show _ ++ (zDr _ ++ []) = _
 rw [List.append_nil]
theorem zQk {n : Nat} (h : n ≤ 1000) : qR (n + 1) 64 = true := vR (by omega) (by omega)
theorem yS5 {k : Nat} (hk : 3 ≤ k) (s8 : List zB) (s9 s10 : Int) (r : List vL) (hr : r.length ≤ 900) (p : zB) :
  zGw k k s8 s9 s10 2 0 r p.1 p.2.1 p.2.2.1 p.2.2.2.1 p.2.2.2.2.1 p.2.2.2.2.2.1 p.2.2.2.2.2.2 [p.2.1, p.2.2.1] = some (s8, s9, s10, r ++ zDr p) := by
 obtain ⟨n, rfl⟩ : ∃ n, k = n + 3 := ⟨k - 3, by omega⟩
 have e1 : qR (r.length + 1) 64 = true := zQk (by omega)
 have e2 : qR ((r ++ [jR p.2.1 p]).length + 1) 64 = true := zQk (by rw [List.length_append]; simp; omega)
 have h1 : zC8 (n + 3) p.2.1 18 [p.1, p.2.1, p.2.2.1, p.2.2.2.1] = some (jR p.2.1 p) := rfl
 have h2 : zC8 (n + 3) p.2.2.1 18 [p.1, p.2.1, p.2.2.1, p.2.2.2.1] = some (jR p.2.2.1 p) := rfl
 have w0 : zA (0 + 1) = 1 := by decide
 have w1 : zA (1 + 1) = 2 := by decide
 show zGh (n + 3) (zGw (n + 3) (n + 2)) s8 s9 s10 2 0 r p.1 p.2.1 p.2.2.1 p.2.2.2.1 p.2.2.2.2.1 p.2.2.2.2.2.1 p.2.2.2.2.2.2 [p.2.1, p.2.2.1] = _
 unfold zGh
 have g0 : [p.2.1, p.2.2.1].getD (Int.toNat 0) 0 = p.2.1 := rfl
 have b0 : zE 0 [p.2.1, p.2.2.1].length = true := rfl
 have d0 : decide ((0 : Int) < 2) = true := rfl
 rw [d0, b0, g0, h1]
 simp only [vMs, vMr, e1, w0]
 show zGh (n + 3) (zGw (n + 3) (n + 1)) s8 s9 s10 2 1 (r ++ [jR p.2.1 p]) p.1 p.2.1 p.2.2.1 p.2.2.2.1 p.2.2.2.2.1 p.2.2.2.2.2.1 p.2.2.2.2.2.2 [p.2.1, p.2.2.1] = _
 unfold zGh
 have g1 : [p.2.1, p.2.2.1].getD (Int.toNat 1) 0 = p.2.2.1 := rfl
 have b1 : zE 1 [p.2.1, p.2.2.1].length = true := rfl
 have d1 : decide ((1 : Int) < 2) = true := rfl
 rw [d1, b1, g1, h2]
 simp only [vMs, vMr, e2, w1]
 show zGh (n + 3) (zGw (n + 3) n) s8 s9 s10 2 2 (r ++ [jR p.2.1 p] ++ [jR p.2.2.1 p]) p.1 p.2.1 p.2.2.1 p.2.2.2.1 p.2.2.2.2.1 p.2.2.2.2.2.1 p.2.2.2.2.2.2 [p.2.1, p.2.2.1] = _
 unfold zGh
 have d2 : decide ((2 : Int) < 2) = false := rfl
 rw [d2, List.append_assoc]
 rfl
theorem qTt {k : Nat} {l : List zB} (hk : l.length + 3 ≤ k) (hl : l.length ≤ 400) : zT8 k l = some (wX l) := by
 unfold zT8
 obtain ⟨s', h1, h2⟩ := vO (L := fun n i (s : List vL) => zNz k n l l.length i s) (N := l.length) (fun s => s) (fun i s => s = wX (l.take i)) (fun n s _ => by
  show zKg k _ l l.length l.length s = _
  unfold zKg
  simp only [zY, vMn (Nat.lt_irrefl _), vMt]) (fun n i s hi hs => by
  refine ⟨_, ?_, (vHb l i hi).symm⟩
  show zKg k _ l l.length i s = _
  unfold zKg
  have hsl : s.length ≤ 900 := by
   rw [hs, zY6, List.length_take]; omega
  have h2 := yS5 (k := k) (by omega) l l.length i s hsl (l.getD i pd)
  simp only [pd] at h2
  simp only [qH, zY, vMu, vMm hi, vMs]
  rw [h2]
  simp only [vMr, qO hi (show l.length < 9223372036854775808 by omega)]
  rw [hs]) (s := []) (show l.length < k by omega) rfl
 have h1' : zNz k k l l.length 0 [] = some s' := h1
 rw [h1', h2, List.take_length]
 rfl
def jG (q : zB) (o : vL) : Bool := decide (o.2.2.1 = q.1) && (decide (o.1 = q.2.1) && (decide (o.2.1 = 21) || (decide (o.2.1 = 22) || decide (o.2.1 = 18))))
def zA0 (q : zB) (o : List vL) : Nat := o.countP (jG q)
theorem zIx (q : zB) (a b : List vL) : zA0 q (a ++ b) = zA0 q a + zA0 q b := List.countP_append
theorem qI3 {f : zB → Bool} {q : zB} : ∀ {ps : List zB}, qT ps → q ∈ ps → f q = true → (∀ p ∈ ps, f p = true → p.1 = q.1) → ps.countP f = 1
 | [], _, h, _, _ => by cases h
 | p :: ps, hd, hq, hf, hu => by
  have hc := List.pairwise_cons.1 hd
  rw [List.countP_cons]
  rcases List.mem_cons.1 hq with rfl | hq
  ·rw [hf, if_pos rfl]
   have : ps.countP f = 0 := by
    rw [List.countP_eq_zero]
    intro r hr hfr
    exact hc.1 r hr (hu r (List.mem_cons_of_mem _ hr) hfr).symm
   omega
  ·have : f p = false := by
    cases h : f p with
    | false => rfl
    | true => exact absurd (hu p (List.mem_cons_self ..) h) (hc.1 q hq)
   rw [this, qI3 hc.2 hq hf (fun r hr => hu r (List.mem_cons_of_mem _ hr))]
   rfl
def jA (kd : Int) (p : zB) : vL := (p.2.1, kd, p.1, 0, 0, 0, 0, 0)
theorem zM2 {kd : Int} (hk : kd = 21 ∨ kd = 22) {q : zB} {ps : List zB} (hd : qT ps) : (q ∈ ps → zA0 q (ps.map (jA kd)) = 1) ∧ ((∀ p ∈ ps, p.1 ≠ q.1) → zA0 q (ps.map (jA kd)) = 0) := by
 unfold zA0
 rw [List.countP_map]
 constructor
 ·intro h
  apply qI3 hd h
  ·show jG q (jA kd q) = true
   unfold jG jA
   rcases hk with rfl | rfl <;> simp
  ·intro p hp hf
   have hf' : jG q (jA kd p) = true := hf
   unfold jG jA at hf'
   rw [vMv, vMq] at hf'
   exact hf'.1
 ·intro h
  rw [List.countP_eq_zero]
  intro p hp hf
  have hf' : jG q (jA kd p) = true := hf
  unfold jG jA at hf'
  rw [vMv, vMq] at hf'
  exact h p hp hf'.1
theorem qWd (q : zB) : ∀ (d : List zB), zA0 q (wX d) = d.countP (fun p => jG q (jR p.2.1 p)) + d.countP (fun p => jG q (jR p.2.2.1 p))
 | [] => rfl
 | p :: d => by
  show zA0 q (zDr p ++ wX d) = _
  rw [zIx, qWd q d, List.countP_cons, List.countP_cons]
  have e : zA0 q (zDr p) = (if jG q (jR p.2.1 p) = true then 1 else 0) + (if jG q (jR p.2.2.1 p) = true then 1 else 0) := by
   unfold zA0 zDr
   rw [List.countP_cons, List.countP_cons, List.countP_nil]
   omega
  rw [e]
  omega
theorem qA8 {n : Nat} {q : zB} {d : List zB} (hd : qT d) (hm : ∀ p ∈ d, yM n p) : (q ∈ d → zA0 q (wX d) = 1) ∧ ((∀ p ∈ d, p.1 ≠ q.1) → zA0 q (wX d) = 0) := by
 have h2 : ∀ (l : List zB), qT l → (∀ p ∈ l, yM n p) → (q ∈ l ∨ ∀ p ∈ l, p.1 ≠ q.1) → l.countP (fun p => jG q (jR p.2.2.1 p)) = 0 := by
  intro l hdl hml hq
  rw [List.countP_eq_zero]
  intro p hp hf
  have hf' : jG q (jR p.2.2.1 p) = true := hf
  unfold jG jR at hf'
  rw [vMv, vMv, vMq, vMq] at hf'
  rcases hq with hq | hq
  ·have := hdl.eq_of hp hq hf'.1
   subst this
   exact (hml p hp).ne hf'.2.1.symm
  ·exact hq p hp hf'.1
 rw [qWd]
 constructor
 ·intro h
  rw [h2 d hd hm (.inl h), qI3 hd h]
  ·show jG q (jR q.2.1 q) = true
   unfold jG jR
   simp
  ·intro p hp hf
   have hf' : jG q (jR p.2.1 p) = true := hf
   unfold jG jR at hf'
   rw [vMv, vMq] at hf'
   exact hf'.1
 ·intro h
  rw [h2 d hd hm (.inr h)]
  have : d.countP (fun p => jG q (jR p.2.1 p)) = 0 := by
   rw [List.countP_eq_zero]
   intro p hp hf
   have hf' : jG q (jR p.2.1 p) = true := hf
   unfold jG jR at hf'
   rw [vMv, vMq] at hf'
   exact h p hp hf'.1
  omega
def zJd (B : BT) (i : Nat) : vL := ((i : Int), 23, (B.1.getD i ad).1, 0, 0, 0, 0, 0)
def zCy (B : BT) (n : Nat) : List vL := (List.range n).map (zJd B)
theorem qUi (q : zB) (B : BT) (n : Nat) : zA0 q (zCy B n) = 0 := by
 unfold zA0 zCy
 rw [List.countP_map, List.countP_eq_zero]
 intro i _ hf
 have hf' : jG q (zJd B i) = true := hf
 unfold jG zJd at hf'
 simp at hf'
theorem vJo (B : BT) (i : Nat) : zCy B (i + 1) = zCy B i ++ [zJd B i] := by
 unfold zCy
 rw [List.range_succ, List.map_append]; rfl
theorem yZb {α β : Type} (f : α → β) (l : List α) (i : Nat) (d : α) (h : i < l.length) : (l.take (i + 1)).map f = (l.take i).map f ++ [f (l.getD i d)] := by
 rw [← zAo l i d h, List.map_append]; rfl
theorem vAq {k : Nat} {B : BT} (hB : B.1.length ≤ 6) (hk : 200 ≤ k) {m : List zB} (hm : m.length ≤ 100) (t : Int) (pr : List Int) (ho : List (List Int)) (ids : List Int) (to : Int) (ov : Bool) :
  qAf k t B.1 B.2.1 B.2.2.1 B.2.2.2 pr ho m ids to ov = some (t, B.1, B.2.1, B.2.2.1, B.2.2.2, pr, ho, [], ids, to, true, m.map (jA 22) ++ zCy B B.1.length) := by
 unfold qAf
 obtain ⟨s', h1, h2⟩ := vO (L := fun n i (s : List vL) => zLk k n m m.length i t B.1 B.2.1 B.2.2.1 B.2.2.2 pr ho m ids to ov 0 0 false s) (N := m.length) (fun s => (t, B.1, B.2.1, B.2.2.1, B.2.2.2, pr, ho, m, ids, to, ov, 0, 0, false, s)) (fun i s => s = (m.take i).map (jA 22)) (fun n s _ => by
  show zL0 k _ m m.length m.length t B.1 B.2.1 B.2.2.1 B.2.2.2 pr ho m ids to ov 0 0 false s = _
  unfold zL0
  simp only [zY, vMn (Nat.lt_irrefl _), vMt]) (fun n i s hi hs => by
  refine ⟨_, ?_, (yZb (jA 22) m i pd hi).symm⟩
  show zL0 k _ m m.length i t B.1 B.2.1 B.2.2.1 B.2.2.2 pr ho m ids to ov 0 0 false s = _
  unfold zL0
  have hsl : s.length ≤ 900 := by rw [hs, List.length_map, List.length_take]; omega
  have ho2 : zC8 k (m.getD i pd).2.1 22 [(m.getD i pd).1] = some (jA 22 (m.getD i pd)) := rfl
  simp only [pd] at ho2
  simp only [qH, zY, vMu, vMm hi, vMs, ho2, vMr, zQk (show s.length ≤ 1000 by omega), qO hi (show m.length < 9223372036854775808 by omega)]
  rw [hs]) (s := []) (show m.length < k by omega) rfl
 have h1' : zLk k k m m.length 0 t B.1 B.2.1 B.2.2.1 B.2.2.2 pr ho m ids to ov 0 0 false [] = _ := h1
 rw [h1', h2, List.take_length]
 simp only [vMr]
 obtain ⟨s2, g1, g2⟩ := vO (L := fun n i (s : List vL) => zK8 k n B.1 B.1.length i t B.1 B.2.1 B.2.2.1 B.2.2.2 pr ho m ids to ov 0 0 false s) (N := B.1.length) (fun s => (t, B.1, B.2.1, B.2.2.1, B.2.2.2, pr, ho, m, ids, to, ov, 0, 0, false, s)) (fun i s => s = m.map (jA 22) ++ zCy B i) (fun n s _ => by
  show zLm k _ B.1 B.1.length B.1.length t B.1 B.2.1 B.2.2.1 B.2.2.2 pr ho m ids to ov 0 0 false s = _
  unfold zLm
  simp only [zY, vMn (Nat.lt_irrefl _), vMt]) (fun n i s hi hs => by
  refine ⟨_, ?_, (show m.map (jA 22) ++ zCy B i ++ [zJd B i] = m.map (jA 22) ++ zCy B (i + 1) by rw [vJo, List.append_assoc])⟩
  show zLm k _ B.1 B.1.length i t B.1 B.2.1 B.2.2.1 B.2.2.2 pr ho m ids to ov 0 0 false s = _
  unfold zLm
  have hsl : s.length ≤ 900 := by
   rw [hs, List.length_append, List.length_map]
   unfold zCy
   rw [List.length_map, List.length_range]
   omega
  have ho2 : zC8 k i 23 [(B.1.getD i ad).1] = some (zJd B i) := rfl
  have ho3 : zC8 k i 23 [(B.1.getD i (0, 0, 0)).1] = some (zJd B i) := ho2
  simp only [qH, zY, vMu, vMm hi, vMs, ho3, vMr, zQk (show s.length ≤ 1000 by omega), qO hi (show B.1.length < 9223372036854775808 by omega)]
  rw [hs]) (s := m.map (jA 22)) (show B.1.length < k by omega) (by show _ = _ ++ []; rw [List.append_nil])
 have g1' : zK8 k k B.1 B.1.length 0 t B.1 B.2.1 B.2.2.1 B.2.2.2 pr ho m ids to ov 0 0 false (m.map (jA 22)) = _ := g1
 rw [g1', g2]
 rfl
def wK (t : Int) (p : zB) : Bool := decide (t > p.2.2.2.2.2.2)
theorem vF2 {k : Nat} (hk : 200 ≤ k) {m : List zB} (hm : m.length ≤ 100) (pa : Int) (as : List (Int × Int)) (cu cl pe t : Int) (B : BT) (pr : List Int) (ho : List (List Int)) (ids : List Int) (to : Int) (ov : Bool) :
  zOk k k m m.length 0 pa as cu cl pe t B.1 B.2.1 B.2.2.1 B.2.2.2 pr ho m ids to ov 0 0 false [] [] = some (pa, as, cu, cl, pe, t, B.1, B.2.1, B.2.2.1, B.2.2.2, pr, ho, m, ids, to, ov, 0, 0, false, (m.filter (wK t)).map (jA 21), m.filter (fun p => !wK t p)) := by
 obtain ⟨s', h1, h2, h3⟩ := vO (L := fun n i (s : List vL × List zB) => zOk k n m m.length i pa as cu cl pe t B.1 B.2.1 B.2.2.1 B.2.2.2 pr ho m ids to ov 0 0 false s.1 s.2) (N := m.length) (fun s => (pa, as, cu, cl, pe, t, B.1, B.2.1, B.2.2.1, B.2.2.2, pr, ho, m, ids, to, ov, 0, 0, false, s.1, s.2)) (fun i s => s.1 = ((m.take i).filter (wK t)).map (jA 21) ∧ s.2 = (m.take i).filter (fun p => !wK t p)) (fun n s _ => by
  show zOe k _ m m.length m.length pa as cu cl pe t B.1 B.2.1 B.2.2.1 B.2.2.2 pr ho m ids to ov 0 0 false s.1 s.2 = _
  unfold zOe
  simp only [zY, vMn (Nat.lt_irrefl _), vMt]) (fun n i s hi hs => by
  have hl1 : s.1.length ≤ 900 := by
   rw [hs.1, List.length_map]
   have := List.length_filter_le (wK t) (m.take i)
   rw [List.length_take] at this
   omega
  have hl2 : s.2.length ≤ 900 := by
   rw [hs.2]
   have := List.length_filter_le (fun p => !wK t p) (m.take i)
   rw [List.length_take] at this
   omega
  show ∃ s', zOe k _ m m.length i pa as cu cl pe t B.1 B.2.1 B.2.2.1 B.2.2.2 pr ho m ids to ov 0 0 false s.1 s.2 = _ ∧ _
  unfold zOe qO0
  have ho2 : zC8 k (m.getD i pd).2.1 21 [(m.getD i pd).1] = some (jA 21 (m.getD i pd)) := rfl
  simp only [pd] at ho2
  simp only [qH, zY, vMu, vMm hi, vMs, ho2, vMr, zQk (show s.1.length ≤ 1000 by omega), zCq (show s.2.length ≤ 1000 by omega), qO hi (show m.length < 9223372036854775808 by omega)]
  have f1 := zQ5 (wK t) m i pd hi
  have f2 := zQ5 (fun p => !wK t p) m i pd hi
  cases hb : wK t (m.getD i pd) with
  | true =>
   have hb' : decide (t > (m.getD i (0, 0, 0, 0, 0, 0, 0)).2.2.2.2.2.2) = true := hb
   rw [hb']
   refine ⟨(s.1 ++ [jA 21 (m.getD i pd)], s.2), rfl, ?_, ?_⟩
   ·show s.1 ++ _ = _
    rw [f1, hb, hs.1]
    simp
   ·show s.2 = _
    rw [f2, hb, hs.2]
    simp
  | false =>
   have hb' : decide (t > (m.getD i (0, 0, 0, 0, 0, 0, 0)).2.2.2.2.2.2) = false := hb
   rw [hb']
   refine ⟨(s.1, s.2 ++ [m.getD i pd]), rfl, ?_, ?_⟩
   ·show s.1 = _
    rw [f1, hb, hs.1]
    simp
   ·show s.2 ++ _ = _
    rw [f2, hb, hs.2]
    simp) (s := ([], [])) (show m.length < k by omega) ⟨rfl, rfl⟩
 have := h1.trans (by rw [h2, h3, List.take_length])
 exact this
structure vIi (t cl : Int) (B C : BT) (m m' : List zB) (ov : Bool) (o : List vL) : Prop where
 bk : qY C
 bl : C.1.length = B.1.length
 sub : List.Sublist m' m
 over : ov = decide (t + 1 = cl)
 none : ov = true → m' = []
 late : ov = false → ∀ p ∈ m', wK (t + 1) p = false
 zQ3 : ∀ p ∈ m', zA0 p o = 0
 jS : ∀ p ∈ m, p ∉ m' → zA0 p o = 1
 quiet : ∀ q : zB, (∀ p ∈ m, p.1 ≠ q.1) → zA0 q o = 0
 room : o.length + 2 * m'.length ≤ 2 * m.length + (if ov = true then 6 else 0)
theorem qT.not_in {l m d : List zB} (hd : qT (d ++ m)) {p : zB} (hp : p ∈ m) : ∀ q ∈ d, q.1 ≠ p.1 := fun q hq => (List.pairwise_append.1 hd).2.2 q hq p hp
structure jO (B C : BT) : Prop where
 len : C.1.length = B.1.length
 sum : zW (fun i => (C.1.getD i ad).1) B.1.length = zW (fun i => (B.1.getD i ad).1) B.1.length
 cred : ∀ i, i < B.1.length → (C.1.getD i ad).2.1 = (B.1.getD i ad).2.1
 bil : C.2.1 = B.2.1
 mul : C.2.2.1 = B.2.2.1
theorem jO.refl (B : BT) : jO B B := ⟨rfl, rfl, fun _ _ => rfl, rfl, rfl⟩
theorem jO.trans {B C D : BT} (h : jO B C) (g : jO C D) : jO B D :=
 ⟨g.len.trans h.len, by have := g.sum; rw [h.len] at this; exact this.trans h.sum, fun i hi => (g.cred i (by rw [h.len]; exact hi)).trans (h.cred i hi), g.bil.trans h.bil, g.mul.trans h.mul⟩
theorem qRx {B : BT} (h : qY B) {l : List zB} {r : List qM × List (List Int) × List Int × List (List Int) × Int} (hp : zD4 B.1 B.2.1 B.2.2.1 B.2.2.2 l r) : jO B (r.1, r.2.1, r.2.2.1, r.2.2.2.1) := by
 have hs := (zQ3 h hp).1
 by_cases c : vI B.1.length l
 ·obtain ⟨a', p', x, e⟩ := hp.1 c
  cases hi : isB a' B.2.1 B.2.2.1 p' with
  | false => rw [hi] at e; subst e; exact jO.refl B
  | true =>
   rw [hi] at e; subst e
   exact ⟨x.al, hs, fun i hi' => by show (a'.getD i ad).2.1 = _; rw [x.acct i hi'], rfl, rfl⟩
 ·rw [hp.2 c]; exact jO.refl B
theorem yFz {k : Nat} (hk : 100 < k) {B C : BT} (h : qY B) {l : List zB} (hl : l.length ≤ 80) (hg : jS k B l = some C) : jO B C := by
 obtain ⟨r, h1, h3⟩ := zYu hk h hl
 unfold jS at hg
 rw [h1] at hg
 simp only at hg
 cases hc : decide (r.2.2.2.2 = 0) && zD1 B l with
 | false => rw [hc] at hg; cases hg
 | true =>
  rw [hc] at hg
  simp only [vMs, Option.some.injEq] at hg
  subst hg
  exact qRx h h3
theorem Ran.keptC {k : Nat} (hk : 100 < k) {t : Int} {B C : BT} {l done m : List zB} (h : Ran k t B l done C m) (hb : qY B) : jO B C := by
 induction h with
 | stop _ => exact jO.refl _
 | @step B C D l m done p h h' ih =>
  have hg := (zRs h).2
  exact (yFz hk hb (by simp) hg).trans (ih (zMh hk hb (by simp) hg).1)
theorem jQ.keptC {k : Nat} (hk : 100 < k) {t : Int} {B C : BT} {l done m : List zB} (h : jQ k t B l done C m) (hb : qY B) : jO B C := by
 induction h with
 | stop _ => exact jO.refl _
 | @step B C D l m done p q h h' ih =>
  have hg := (zZi h).2.2.2
  exact (yFz hk hb (by simp) hg).trans (ih (zMh hk hb (by simp) hg).1)
theorem Ran.bk {k : Nat} (hk : 100 < k) {t : Int} {B C : BT} {l done m : List zB} (h : Ran k t B l done C m) (hb : qY B) : qY C := by
 induction h with
 | stop _ => exact hb
 | step h h' ih => exact ih (zMh hk hb (by simp) (zRs h).2).1
theorem jQ.bk {k : Nat} (hk : 100 < k) {t : Int} {B C : BT} {l done m : List zB} (h : jQ k t B l done C m) (hb : qY B) : qY C := by
 induction h with
 | stop _ => exact hb
 | step h h' ih => exact ih (zMh hk hb (by simp) (zZi h).2.2.2).1
theorem zCe.keptC {k : Nat} (hk : 100 < k) {t : Int} {B C : BT} {l done m : List zB} (h : zCe k t B l done C m) (hb : qY B) : jO B C := by
 induction h with
 | stop h1 _ => exact h1.keptC hk hb
 | step h1 h2 ne h' ih =>
  have b1 := h1.bk hk hb
  exact ((h1.keptC hk hb).trans (h2.keptC hk b1)).trans (ih (h2.bk hk b1))
theorem vIq {k : Nat} (hk : 200 ≤ k) {B : BT} (hb : qY B) {l : List zB} (hl : ∀ q ∈ l, yM B.1.length q) (h64 : l.length ≤ 64) (t : Int) {C : BT} {m done : List zB} (hr : zKb k B.1 B.2.1 B.2.2.1 B.2.2.2 l t = some (C.1, C.2.1, C.2.2.1, C.2.2.2, m, done)) : jO B C := by
 obtain ⟨f, n, h, hn⟩ := yHu hb hl h64 t
 have hrl := zOx l t
 have hsub := zL4 (vU l t) f
 have hhl := hsub.length_le
 obtain ⟨r, h1, h3⟩ := zYu (k := k) (by omega) hb (l := vN (vU l t) f) (by omega)
 have g1 := qX7 (k := k) (by omega) hb hl h64 t (by omega) h h1
 unfold zT3 at g1
 rw [g1] at hr
 cases c : decide (r.2.2.2.2 = 0) with
 | false =>
  rw [c] at hr
  simp only [vMx, vMs, Option.some.injEq, Prod.mk.injEq] at hr
  obtain ⟨e1, e2, e3, e4, _⟩ := hr
  have : B = C := Prod.ext e1 (Prod.ext e2 (Prod.ext e3 e4))
  rw [← this]
  exact jO.refl B
 | true =>
  rw [c] at hr
  simp only [vMw, vMt, Option.some.injEq, Prod.mk.injEq] at hr
  obtain ⟨e1, e2, e3, e4, _⟩ := hr
  have : (r.1, r.2.1, r.2.2.1, r.2.2.2.1) = C := Prod.ext e1 (Prod.ext e2 (Prod.ext e3 e4))
  rw [← this]
  exact qRx hb h3
theorem qBu {C D : BT} {m n d e : List zB} (h : (C.1, C.2.1, C.2.2.1, C.2.2.2, m, d) = (D.1, D.2.1, D.2.2.1, D.2.2.2, n, e)) : C = D ∧ m = n ∧ d = e := by
 simp only [Prod.mk.injEq] at h
 obtain ⟨e1, e2, e3, e4, e5, e6⟩ := h
 exact ⟨Prod.ext e1 (Prod.ext e2 (Prod.ext e3 e4)), e5, e6⟩
theorem yJ7 {k : Nat} (hk : 200 ≤ k) {B : BT} (hb : qY B) {l : List zB} (hd : qT l) (hl : ∀ q ∈ l, yM B.1.length q) (h64 : l.length ≤ 64) (t : Int) (all : Bool) {X : BT} {mx dx : List zB}
  (hr : zHx k B.1 B.2.1 B.2.2.1 B.2.2.2 l t all = some (X.1, X.2.1, X.2.2.1, X.2.2.2, mx, dx)) : jO B X := by
 obtain ⟨C, m, d, f1, f2, f3, f4, f5⟩ := zVd hk hb hd (by omega) t
 have q1 := f2.keptC (by omega) hb
 have p1 := f2.perm hd
 have l1 := p1.length_eq
 rw [List.length_append] at l1
 unfold zHx at hr
 rw [f1] at hr
 simp only [vMr] at hr
 cases all with
 | false =>
  simp only [vMx, vMs, Option.some.injEq] at hr
  rw [← (qBu hr).1]; exact q1
 | true =>
  simp only [vMw, vMt] at hr
  have hm : qT m := List.Pairwise.sublist f5 hd
  have hlm : ∀ q ∈ m, yM C.1.length q := fun q hq => by rw [f4]; exact hl q (f5.subset hq)
  obtain ⟨D, n, x, g1, g2, g3, g4, g5, g6⟩ := yCr hk f3 hm hlm (by omega) t
  have q2 := vIq hk f3 hlm (by omega) t g1
  have l2 := g5.length_eq
  rw [List.length_append] at l2
  rw [g1] at hr
  simp only [vMr] at hr
  cases x with
  | nil =>
   obtain ⟨rfl, rfl⟩ := g6 rfl
   have hr' : some (D.1, D.2.1, D.2.2.1, D.2.2.2, n, d) = some (X.1, X.2.1, X.2.2.1, X.2.2.2, mx, dx) := hr
   rw [← (qBu (Option.some.inj hr')).1]; exact q1
  | cons p x =>
   have e1 : decide ((((p :: x).length : Nat) : Int) = 0) = false := vMn (by simp; omega)
   rw [e1] at hr
   simp only [vMt] at hr
   have hn : qT n := List.Pairwise.sublist g4 hm
   obtain ⟨E, o, y, k1, k2, k3, k4, k5⟩ := zVd hk g2 hn (by omega) t
   have q3 := k2.keptC (by omega) g2
   have p3 := k2.perm hn
   have l3 := p3.length_eq
   rw [List.length_append] at l3
   have r1 : qR (d.length + (p :: x).length) 56 = true := vR (by simp at l2 ⊢; omega) (by simp at l2 ⊢; omega)
   have r2 : qR ((d ++ (p :: x)).length + y.length) 56 = true := vR (by simp at l2 ⊢; omega) (by simp at l2 ⊢; omega)
   rw [k1] at hr
   simp only [vMr, r1, r2, vMs] at hr
   have hr' : some (E.1, E.2.1, E.2.2.1, E.2.2.2, o, d ++ (p :: x) ++ y) = some (X.1, X.2.1, X.2.2.1, X.2.2.2, mx, dx) := hr
   rw [← (qBu (Option.some.inj hr')).1]
   exact (q1.trans q2).trans q3
theorem vB8 {k : Nat} (hk : 200 ≤ k) {B : BT} (hb : qY B) {m : List zB} (hd : qT m) (hm : ∀ q ∈ m, yM B.1.length q) (h64 : m.length ≤ 64) (t : Int) (pr : List Int) (ho : List (List Int)) (ids : List Int) (to : Int) (ov all : Bool) :
  ∃ (C : BT) (m' d : List zB), zE1 k t B.1 B.2.1 B.2.2.1 B.2.2.2 pr ho m ids to ov all = some (t, C.1, C.2.1, C.2.2.1, C.2.2.2, pr, ho, m', ids, to, ov, wX d) ∧
   zHx k B.1 B.2.1 B.2.2.1 B.2.2.2 m t all = some (C.1, C.2.1, C.2.2.1, C.2.2.2, m', d) ∧ qY C ∧ jO B C ∧ List.Sublist m' m ∧ List.Perm (d ++ m') m ∧ wE k C (yY m' t) = none := by
 obtain ⟨C, m', d, f1, f2, f3, f4, f5, f6, f7⟩ := yL9 hk hb hd hm h64 t all
 have hlen := f5.length_eq
 rw [List.length_append] at hlen
 refine ⟨C, m', d, ?_, f1, f2, yJ7 hk hb hd hm h64 t all f1, f4, f5, f6⟩
 unfold zE1
 rw [f1]
 simp only [vMr]
 rw [qTt (by omega) (by omega)]
 rfl
theorem yWp {k : Nat} (hk : 200 ≤ k) {B : BT} (hb : qY B) {m : List zB} (hd : qT m) (hm : ∀ q ∈ m, yM B.1.length q) (h64 : m.length ≤ 64) (pa : Int) (sa : List (Int × Int)) (cu cl pe t : Int) (ht : 0 ≤ t ∧ t < 1099511627776) (hpe : pe ≠ 0) (pr : List Int) (ho : List (List Int)) (ids : List Int) (to : Int) :
  ∃ (C : BT) (m' : List zB) (ov : Bool) (o : List vL), zJy k pa sa cu cl pe t B.1 B.2.1 B.2.2.1 B.2.2.2 pr ho m ids to false = some (t + 1, C.1, C.2.1, C.2.2.1, C.2.2.2, pr, ho, m', ids, to, ov, o) ∧ vIi t cl B C m m' ov o ∧ jO B C ∧ (ov = false → wE k C (yY m' (t + 1)) = none) ∧
   ((ov = true ∧ m' = [] ∧ o = m.map (jA 22) ++ zCy B B.1.length) ∨ ∃ l d n, o = l.map (jA 21) ++ wX d ∧ List.Perm (l ++ n) m ∧ List.Perm (d ++ m') n) := by
 have hn6 := hb.n6
 have w : zA (t + 1) = t + 1 := zU (by omega) (by omega)
 unfold zJy zNy
 simp only [w, vMt, vMr]
 cases hc : decide (t + 1 = cl) with
 | true =>
  simp only [vMs]
  rw [vAq hn6 hk (by omega)]
  simp only [vMr]
  refine ⟨B, [], true, _, rfl, ⟨hb, rfl, List.nil_sublist m, hc.symm, fun _ => rfl, (fun e => by cases e), (fun p hp => by cases hp), fun p hp _ => ?_, fun q hq => ?_, ?_⟩, jO.refl B, (fun e => by cases e), .inl ⟨rfl, rfl, rfl⟩⟩
  ·rw [zIx, (zM2 (.inr rfl) hd).1 hp, qUi]
  ·rw [zIx, (zM2 (.inr rfl) hd).2 hq, qUi]
  ·rw [List.length_append, List.length_map]
   unfold zCy
   rw [List.length_map, List.length_range]
   simp
   omega
 | false =>
  simp only [vMt]
  rw [vF2 hk (by omega)]
  simp only [vMr]
  have hs : ∃ x, qA3 k pa sa cu cl pe (t + 1) = some x := by
   unfold qA3
   cases decide (t + 1 > 0) with
   | false => exact ⟨_, rfl⟩
   | true =>
    cases decide (t + 1 < cl) with
    | false => exact ⟨_, rfl⟩
    | true =>
     have : decide (pe = 0) = false := vMn hpe
     rw [this]
     exact ⟨_, rfl⟩
  obtain ⟨x, hx⟩ := hs
  rw [hx]
  simp only [vMr]
  have hsub : List.Sublist (m.filter (fun p => !wK (t + 1) p)) m := List.filter_sublist
  have hsl := hsub.length_le
  have hdl : qT (m.filter (fun p => !wK (t + 1) p)) := List.Pairwise.sublist hsub hd
  obtain ⟨C, m', d, f1, f2, f3, f4, f5, f6, f7⟩ := yL9 hk hb hdl (fun q hq => hm q (hsub.subset hq)) (by omega) (t + 1) x
  have hlen := f5.length_eq
  rw [List.length_append] at hlen
  have hSt : zE1 k (t + 1) B.1 B.2.1 B.2.2.1 B.2.2.2 pr ho (m.filter (fun p => !wK (t + 1) p)) ids to false x = some (t + 1, C.1, C.2.1, C.2.2.1, C.2.2.2, pr, ho, m', ids, to, false, wX d) := by
   unfold zE1
   rw [f1]
   simp only [vMr]
   rw [qTt (by omega) (by omega)]
   rfl
  rw [hSt]
  have hla : (m.filter (wK (t + 1))).length ≤ m.length := List.length_filter_le _ _
  have hpart : (m.filter (wK (t + 1))).length + (m.filter (fun p => !wK (t + 1) p)).length = m.length := by
   rw [← List.countP_eq_length_filter, ← List.countP_eq_length_filter]
   have := List.length_eq_countP_add_countP (wK (t + 1)) (l := m)
   simp only [Bool.not_eq_true, Bool.decide_eq_false] at this
   exact this.symm
  have htl := zY6 d
  have hr : qR (((m.filter (wK (t + 1))).map (jA 21)).length + (wX d).length) 64 = true := vR (by rw [List.length_map]; omega) (by rw [List.length_map]; omega)
  simp only [vMr, hr, vMs]
  have hdd : qT (d ++ m') := hdl.perm f5
  have hdd1 : qT d := (List.pairwise_append.1 hdd).1
  have hdm : ∀ p ∈ d, p ∈ m.filter (fun p => !wK (t + 1) p) := fun p hp => f5.subset (List.mem_append_left _ hp)
  have hdmay : ∀ p ∈ d, yM B.1.length p := fun p hp => hm p (hsub.subset (hdm p hp))
  have hdla : qT (m.filter (wK (t + 1))) := hd.filter _
  have cross : ∀ p ∈ m, wK (t + 1) p = false → ∀ q ∈ m.filter (wK (t + 1)), q.1 ≠ p.1 := by
   intro p hp hl q hq e
   have h1 := List.mem_filter.1 hq
   have := hd.eq_of h1.1 hp e
   subst this
   rw [hl] at h1
   exact absurd h1.2 (by simp)
  refine ⟨C, m', false, _, rfl, ⟨f2, f3, f4.trans hsub, hc.symm, (fun e => by cases e), fun _ p hp => ?_, fun p hp => ?_, fun p hp hn => ?_, fun q hq => ?_, ?_⟩, yJ7 hk hb hdl (fun q hq => hm q (hsub.subset hq)) (by omega) (t + 1) x f1, (fun _ => f6), .inr ⟨m.filter (wK (t + 1)), d, m.filter (fun p => !wK (t + 1) p), rfl, List.filter_append_perm _ _, f5⟩⟩
  ·have := (List.mem_filter.1 (f4.subset hp)).2
   simpa using this
  ·have h1 := List.mem_filter.1 (f4.subset hp)
   have hl : wK (t + 1) p = false := by simpa using h1.2
   rw [zIx, (zM2 (.inl rfl) hdla).2 (cross p h1.1 hl), (qA8 hdd1 hdmay).2 (hdd.not_in (l := d) hp)]
  ·cases hl : wK (t + 1) p with
   | true =>
    have h1 : p ∈ m.filter (wK (t + 1)) := List.mem_filter.2 ⟨hp, hl⟩
    have h2 : ∀ q ∈ d, q.1 ≠ p.1 := by
     intro q hq e
     have h3 := List.mem_filter.1 (hdm q hq)
     have := hd.eq_of h3.1 hp e
     subst this
     have h4 := h3.2
     rw [hl] at h4
     cases h4
    rw [zIx, (zM2 (.inl rfl) hdla).1 h1, (qA8 hdd1 hdmay).2 h2]
   | false =>
    have h1 : p ∈ m.filter (fun p => !wK (t + 1) p) := List.mem_filter.2 ⟨hp, by rw [hl]; rfl⟩
    have h2 : p ∈ d := by
     rcases List.mem_append.1 (f5.symm.subset h1) with h | h
     ·exact h
     ·exact absurd h hn
    rw [zIx, (zM2 (.inl rfl) hdla).2 (cross p hp hl), (qA8 hdd1 hdmay).1 h2]
  ·rw [zIx, (zM2 (.inl rfl) hdla).2 (fun p hp => hq p (List.mem_filter.1 hp).1), (qA8 hdd1 hdmay).2 (fun p hp => hq p (hsub.subset (hdm p hp)))]
  ·rw [List.length_append, List.length_map]
   simp
   omega
abbrev jN := List (List Int)
abbrev qU := Int × List zAj × Int × Int × Int
abbrev zAw := Int × Int × Int × Int × Int × Int × Int
abbrev yVm := Int × List zAj × Int × Int × Int × Int × List qM × jN × List Int × jN × List Int × jN × List zB × List Int × Int × Bool × Int × List vL
structure qP where
 t : Int
 B : BT
 pr : List Int
 ho : jN
 m : List zB
 ids : List Int
 to : Int
 ov : Bool
abbrev yF1 := Int × List qM × jN × List Int × jN × List Int × jN × List zB × List Int × Int × Bool
def qP.st (s : qP) : yF1 := (s.t, s.B.1, s.B.2.1, s.B.2.2.1, s.B.2.2.2, s.pr, s.ho, s.m, s.ids, s.to, s.ov)
def dk (r : qU) (s : qP) (who : Int) (l : List vL) : yVm := (r.1, r.2.1, r.2.2.1, r.2.2.2.1, r.2.2.2.2, s.t, s.B.1, s.B.2.1, s.B.2.2.1, s.B.2.2.2, s.pr, s.ho, s.m, s.ids, s.to, s.ov, who, l)
structure zAp (r : qU) : Prop where
 pa : 1 ≤ r.1 ∧ r.1 ≤ 6
 n3 : r.2.1.length ≤ 3
 price : ∀ i, i < r.2.1.length → 0 ≤ (r.2.1.getD i zFe).1 ∧ (r.2.1.getD i zFe).1 ≤ 1048576
 cut : ∀ i, i < r.2.1.length → 0 ≤ (r.2.1.getD i zFe).2 ∧ (r.2.1.getD i zFe).2 ≤ 10000
 cu : 0 ≤ r.2.2.1 ∧ r.2.2.1 ≤ r.2.2.2.1
 cl : 1 ≤ r.2.2.2.1 ∧ r.2.2.2.1 ≤ 1048576
 pe : 1 ≤ r.2.2.2.2 ∧ r.2.2.2.2 ≤ 1048576
def zCp (m : List zB) : Prop := List.Pairwise (fun p q => jJ p q = true) m
structure jC (n : Nat) (m : List zB) (ids : List Int) : Prop where
 dist : qT m
 len : m.length ≤ 40
 sort : zCp m
 may : ∀ p ∈ m, yM n p
 time : ∀ p ∈ m, 0 ≤ p.2.2.2.2.2.1 ∧ p.2.2.2.2.2.1 ≤ p.2.2.2.2.2.2 ∧ p.2.2.2.2.2.2 ≤ 1048576
 were : ∀ p ∈ m, p.1 ∈ ids
 asc : Asc ids
 pos : ∀ x ∈ ids, 1 ≤ x
 idl : ids.length ≤ 200
structure yK (r : qU) (s : qP) : Prop where
 tk : 0 ≤ s.t ∧ s.t ≤ r.2.2.2.1
 bk : qY s.B
 n : (s.B.1.length : Int) = r.1
 hol : s.ho.length = s.B.1.length
 laid : ∀ i, i < s.B.1.length → zA4 r.2.1 s.pr (s.ho.getD i [])
 cred : ∀ i, i < s.B.1.length → (s.B.1.getD i ad).2.1 = zBo r.2.1 s.pr (s.ho.getD i [])
 most : ∀ i, i < s.B.1.length → (s.B.1.getD i ad).2.1 ≤ 1152921504606846976
 waits : jC s.B.1.length s.m s.ids
 sum : zW (fun i => (s.B.1.getD i ad).1) s.B.1.length = s.to
 tot : 0 ≤ s.to ∧ s.to ≤ 1152921504606846976
 over : s.ov = decide (s.t = r.2.2.2.1)
 none : s.ov = true → s.m = []
theorem zBz (k : Nat) (a b c : Int) : yQ k a b c = some (decide (a ≥ b) && decide (a ≤ c)) := by
 unfold yQ
 cases decide (a ≥ b) <;> rfl
theorem zE0 {α : Type} (c : Bool) (a b : α) : (bif c then some a else some b) = some (bif c then a else b) := by cases c <;> rfl
theorem vD1 (c a : Bool) : (bif c then a else false) = (c && a) := by cases c <;> rfl
theorem vEw {α : Type} (c : Bool) (a : α) : (bif c then a else a) = a := by cases c <;> rfl
def zH6 (pa t : Int) (p : zB) : Bool :=
 decide (p.2.1 ≥ 0) && decide (p.2.1 < pa) && (decide (p.2.2.1 ≥ 0) && decide (p.2.2.1 < pa) && (decide (p.1 ≥ 1) && (decide (p.2.2.2.1 ≥ 1) && (decide (p.2.2.2.1 ≤ 1099511627776) && (decide (p.2.2.2.2.1 ≥ 1) && (!decide (p.2.1 = p.2.2.1) && (decide (p.2.2.2.2.1 ≤ 3) && (decide (p.2.2.2.2.2.1 ≥ 0) && (decide (p.2.2.2.2.2.1 ≤ p.2.2.2.2.2.2) && (decide (p.2.2.2.2.2.2 ≥ t) && decide (p.2.2.2.2.2.2 ≤ 1048576)))))))))))
theorem yR9 (k : Nat) (r : qU) (w : Int) : zO6 k r w = some (decide (w ≥ 0) && decide (w < r.1)) := by
 unfold zO6
 cases decide (w ≥ 0) <;> rfl
theorem yUd (k : Nat) (r : qU) (t : Int) (p : zB) : zYa k r t p = some (zH6 r.1 t p) := by
 unfold zYa zH6
 simp only [yR9, vMr, vEw, zE0, vD1]
def zFz (cu cl t c : Int) : Int := bif decide (t ≥ cl) then 7 else bif decide (c = 3) && decide (t ≥ cu) then 7 else 0
theorem yOi (k : Nat) (r : qU) (t c : Int) : zHh k r t c = some (zFz r.2.2.1 r.2.2.2.1 t c) := by
 unfold zHh zFz
 cases decide (t ≥ r.2.2.2.1) <;> cases decide (c = 3) <;> cases decide (t ≥ r.2.2.1) <;> rfl
def zI0 (r : qU) (t : Int) (p : zB) : Int := bif !zH6 r.1 t p then 1 else zFz r.2.2.1 r.2.2.2.1 t p.2.2.2.2.1
theorem vBa (k : Nat) (r : qU) (t : Int) (p : zB) : zJo k r t p = some (zI0 r t p) := by
 unfold zJo zI0
 rw [yUd]
 simp only [vMr, yOi]
 cases zH6 r.1 t p <;> rfl
def zB0 (who : Int) (f : zAw) : zB := (f.2.1, who, f.2.2)
def zFm (r : qU) (s : qP) (who : Int) (f : zAw) : Int × List zB × List Int :=
 bif !(decide (f.2.2.1 ≥ 0) && decide (f.2.2.1 ≤ r.1 - 1)) then (1, s.m, s.ids)
 else bif !(decide (f.2.2.2.2.1 ≥ 1) && decide (f.2.2.2.2.1 ≤ 3)) then (1, s.m, s.ids)
 else bif !decide (zI0 r s.t (zB0 who f) = 0) then (zI0 r s.t (zB0 who f), s.m, s.ids)
 else bif decide (f.2.1 ∈ s.ids) then (6, s.m, s.ids)
 else bif decide (200 ≤ s.ids.length) then (3, s.m, s.ids)
 else bif (wG s.m f.2.1).isSome then (6, s.m, s.ids)
 else bif decide (40 ≤ s.m.length) then (3, s.m, s.ids)
 else (0, zE5 s.m (zB0 who f), zIv s.ids f.2.1)
theorem yR5 {k : Nat} (hk : 1000 ≤ k) {r : qU} (hr : zAp r) {s : qP} (h : jC s.B.1.length s.m s.ids) (who : Int) (l : List vL) (f : zAw) :
  ∃ d, zT1 k (dk r s who l) f.2 = some ((zFm r s who f).1, d) ∧ ((zFm r s who f).1 = 0 → d = dk r { s with m := (zFm r s who f).2.1, ids := (zFm r s who f).2.2 } who l) := by
 have hp := hr.pa
 have hi := h.idl
 have hm := h.len
 have w1 : zA (r.1 - 1) = r.1 - 1 := zU (by omega) (by omega)
 have eD : zT1 k (dk r s who l) f.2 = (yQ k f.2.2.1 0 (zA (r.1 - 1))).bind fun x0 =>
  bif !x0 then some (1, dk r s who l)
  else (yQ k f.2.2.2.2.1 1 3).bind fun x1 =>
  bif !x1 then some (1, dk r s who l)
  else (zJo k r s.t (zB0 who f)).bind fun x2 =>
  bif !(decide (x2 = 0)) then some (x2, dk r s who l)
  else (zKv k s.ids f.2.1).bind fun x3 =>
  bif !(decide (x3.2 = 0)) then some (x3.2, dk r s who l)
  else (zF2 k s.m (zB0 who f)).bind fun x4 =>
  bif !(decide (x4.2 = 0)) then some (x4.2, dk r s who l)
  else some (0, dk r { s with m := x4.1, ids := x3.1 } who l) := rfl
 rw [eD, zBz, zBz, vBa, w1, yWe (by omega) (by omega) h.asc, qIc (by omega) (by omega) (by unfold qZ; omega)]
 simp only [vMr]
 unfold zFm
 cases decide (f.2.2.1 ≥ 0) && decide (f.2.2.1 ≤ r.1 - 1) with
 | false => exact ⟨_, rfl, fun e => by cases e⟩
 | true =>
 cases decide (f.2.2.2.2.1 ≥ 1) && decide (f.2.2.2.2.1 ≤ 3) with
 | false => exact ⟨_, rfl, fun e => by cases e⟩
 | true =>
 simp only [vMw, vMt]
 by_cases hc : zI0 r s.t (zB0 who f) = 0
 ·rw [vMm hc]
  simp only [vMw, vMt]
  by_cases h1 : f.2.1 ∈ s.ids
  ·rw [vMm h1]; exact ⟨_, rfl, fun e => by cases e⟩
  ·rw [vMn h1]
   by_cases h2 : 200 ≤ s.ids.length
   ·rw [vMm h2]; exact ⟨_, rfl, fun e => by cases e⟩
   ·rw [vMn h2]
    have e1 : (zB0 who f).1 = f.2.1 := rfl
    have e0 : decide ((0 : Int) = 0) = true := vMm rfl
    rw [e1]
    cases (wG s.m f.2.1).isSome with
    | true => exact ⟨_, rfl, fun e => by cases e⟩
    | false =>
     by_cases h3 : 40 ≤ s.m.length
     ·rw [vMm h3]; exact ⟨_, rfl, fun e => by cases e⟩
     ·rw [vMn h3]; exact ⟨_, rfl, fun _ => rfl⟩
 ·rw [vMn hc]
  exact ⟨_, rfl, fun e => absurd e hc⟩
def zRv (who kd a : Int) : vL := (who, kd, a, 0, 0, 0, 0, 0)
theorem yL4 {k : Nat} {l : List vL} (hl : l.length ≤ 1000) (r : qU) (s : qP) (who kd a : Int) : zF9 k (dk r s who l) kd [a] = some (dk r s who (l ++ [zRv who kd a])) := by
 have e : zF9 k (dk r s who l) kd [a] = bif qR (l.length + 1) 64 then some (dk r s who (l ++ [zRv who kd a])) else none := rfl
 rw [e, vR (by omega) (by omega)]
 rfl
def zEm (r : qU) (s : qP) (who : Int) (f : zAw) : Int × List zB × List vL := match wG s.m f.2.1 with
 | none => (4, s.m, [])
 | some x =>
  bif !decide ((s.m.getD x pd).2.1 = who) then (4, s.m, [])
  else bif decide (f.1 = 2) then (0, yU s.m x, [zRv who 20 f.2.1])
  else bif decide (f.1 = 4) then (bif !(decide (f.2.2.1 ≥ 1) && decide (f.2.2.1 ≤ 3)) then (1, s.m, [])
   else bif !decide (zFz r.2.2.1 r.2.2.2.1 s.t f.2.2.1 = 0) then (zFz r.2.2.1 r.2.2.2.1 s.t f.2.2.1, s.m, [])
   else (0, zE5 (yU s.m x) ((s.m.getD x pd).1, (s.m.getD x pd).2.1, (s.m.getD x pd).2.2.1, (s.m.getD x pd).2.2.2.1, f.2.2.1, (s.m.getD x pd).2.2.2.2.2.1, (s.m.getD x pd).2.2.2.2.2.2), []))
  else bif decide (f.2.2.1 = 0) then (0, zV6 (yU s.m x) (s.m.getD x pd), [])
  else bif decide (f.2.2.1 = 1) then (0, zE5 (yU s.m x) (s.m.getD x pd), [])
  else (1, s.m, [])
theorem yVy {k : Nat} (hk : 1000 ≤ k) {r : qU} {s : qP} (h : jC s.B.1.length s.m s.ids) (who : Int) {l : List vL} (hl : l.length ≤ 1000) (f : zAw) :
  ∃ d, zI4 k (dk r s who l) f = some ((zEm r s who f).1, d) ∧ ((zEm r s who f).1 = 0 → d = dk r { s with m := (zEm r s who f).2.1 } who (l ++ (zEm r s who f).2.2)) := by
 have hm := h.len
 have hsm : qZ s.m := by unfold qZ; omega
 have eD : zI4 k (dk r s who l) f = ((zCw k s.m f.2.1).bind fun x0 =>
   bif decide (x0 < 0) then some (((0, 0, 0, 0, 0, 0, 0) : zB), (4 : Int))
   else bif zE x0 s.m.length then (bif !(decide ((s.m.getD x0.toNat (0, 0, 0, 0, 0, 0, 0)).2.1 = who)) then some ((0, 0, 0, 0, 0, 0, 0), 4)
    else bif zE x0 s.m.length then some ((s.m.getD x0.toNat (0, 0, 0, 0, 0, 0, 0)), 0)
    else none)
   else none).bind fun x0 =>
  bif !(decide (x0.2 = 0)) then some (x0.2, dk r s who l)
  else bif decide (f.1 = 2) then ((zDv k s.m f.2.1).bind fun x1 =>
   (zF9 k (dk r { s with m := x1.1 } who l) 20 [f.2.1]).bind fun x2 =>
   some (x1.2.2.2.2.2.2.2.2, x2))
  else bif decide (f.1 = 4) then ((yQ k f.2.2.1 1 3).bind fun x3 =>
   bif !x3 then some (1, dk r s who l)
   else (zHh k r s.t f.2.2.1).bind fun x4 =>
   bif !(decide (x4 = 0)) then some (x4, dk r s who l)
   else (zJ7 k s.m f.2.1 f.2.2.1).bind fun x5 =>
   some (x5.2, dk r { s with m := x5.1 } who l))
  else bif decide (f.2.2.1 = 0) then ((zKl k s.m f.2.1).bind fun x6 =>
   some (x6.2, dk r { s with m := x6.1 } who l))
  else bif decide (f.2.2.1 = 1) then ((zOf k s.m f.2.1).bind fun x7 =>
   some (x7.2, dk r { s with m := x7.1 } who l))
  else some (1, dk r s who l) := rfl
 rw [eD, zKs (by omega) (by omega)]
 unfold zEm zDk
 cases hx : wG s.m f.2.1 with
 | none => exact ⟨_, rfl, fun e => by cases e⟩
 | some x =>
  have hx1 := zCu hx
  have e1 : decide ((x : Int) < 0) = false := vMn (by omega)
  simp only [vMr, e1, vMt, qH, vMm hx1.1, vMs, vMu]
  by_cases hw : (s.m.getD x (0, 0, 0, 0, 0, 0, 0)).2.1 = who
  ·have hw' : (s.m.getD x pd).2.1 = who := hw
   rw [vMm hw]
   simp only [vMw, vMt, vMr, decide_true]
   by_cases h2 : f.1 = 2
   ·rw [vMm h2]
    simp only [vMs, zIn (show s.m.length < k by omega) hsm, vMr, yL4 hl]
    unfold zDw
    rw [hx]
    exact ⟨_, rfl, fun _ => rfl⟩
   ·rw [vMn h2]
    simp only [vMt]
    by_cases h4 : f.1 = 4
    ·rw [vMm h4]
     simp only [vMs, zBz, vMr, yOi, vIn (show 3 ≤ k by omega) (show s.m.length < k by omega) hsm h.dist hm hx]
     cases decide (f.2.2.1 ≥ 1) && decide (f.2.2.1 ≤ 3) with
     | false => exact ⟨_, rfl, fun e => by cases e⟩
     | true =>
      simp only [vMw, vMt]
      by_cases hc : zFz r.2.2.1 r.2.2.2.1 s.t f.2.2.1 = 0
      ·rw [vMm hc]
       exact ⟨_, rfl, fun _ => by show dk r _ who l = dk r _ who (l ++ []); rw [List.append_nil]; rfl⟩
      ·rw [vMn hc]
       exact ⟨_, rfl, fun e => absurd e hc⟩
    ·rw [vMn h4]
     simp only [vMt]
     by_cases h0 : f.2.2.1 = 0
     ·rw [vMm h0]
      simp only [vMs, yQz (show 3 ≤ k by omega) (show s.m.length < k by omega) hsm hx, vMr]
      exact ⟨_, rfl, fun _ => by show dk r _ who l = dk r _ who (l ++ []); rw [List.append_nil]⟩
     ·rw [vMn h0]
      simp only [vMt]
      by_cases h1 : f.2.2.1 = 1
      ·rw [vMm h1]
       simp only [vMs, vJ0 (show 3 ≤ k by omega) (show s.m.length < k by omega) hsm h.dist hm hx, vMr]
       exact ⟨_, rfl, fun _ => by show dk r _ who l = dk r _ who (l ++ []); rw [List.append_nil]⟩
      ·rw [vMn h1]
       exact ⟨_, rfl, fun e => by cases e⟩
  ·have hw' : ¬ (s.m.getD x pd).2.1 = who := hw
   rw [vMn hw]
   exact ⟨_, rfl, fun e => by cases e⟩
def qB0 (s : qP) (a : List qM) (b : jN) (m : List Int) : qP := { s with B := (a, b, m, s.B.2.2.2) }
def zDx (r : qU) (s : qP) (who : Int) (f : zAw) : Int × qP :=
 bif decide (f.1 = 5) then (bif !((decide (f.2.1 ≥ 0) && decide (f.2.1 ≤ r.1 - 1)) && !decide (f.2.1 = who)) then (1, s)
  else bif !(decide (f.2.2.1 ≥ -1) && decide (f.2.2.1 ≤ 1152921504606846976)) then (1, s)
  else (0, qB0 s s.B.1 (s.B.2.1.set who.toNat ((s.B.2.1.getD who.toNat []).set f.2.1.toNat f.2.2.1)) s.B.2.2.1))
 else bif decide (f.1 = 6) then (bif !(decide (f.2.1 ≥ -1) && decide (f.2.1 ≤ 1152921504606846976)) then (1, s)
  else (0, qB0 s s.B.1 s.B.2.1 (s.B.2.2.1.set who.toNat f.2.1)))
 else bif !(decide (f.2.1 ≥ 0) && decide (f.2.1 ≤ 1152921504606846976)) then (1, s)
 else (0, qB0 s (s.B.1.set who.toNat ((s.B.1.getD who.toNat ad).1, (s.B.1.getD who.toNat ad).2.1, f.2.1)) s.B.2.1 s.B.2.2.1)
theorem yRo {k : Nat} (hk : 1000 ≤ k) {r : qU} (hr : zAp r) {s : qP} (hb : qY s.B) (hn : (s.B.1.length : Int) = r.1) {who : Int} (hw : 0 ≤ who ∧ who < r.1) (l : List vL) (f : zAw) :
    ∃ d, zHn k (dk r s who l) f = some ((zDx r s who f).1, d) ∧ ((zDx r s who f).1 = 0 → d = dk r (zDx r s who f).2 who l) := by
  have hp := hr.pa
  have w1 : zA (r.1 - 1) = r.1 - 1 := zU (by omega) (by omega)
  obtain ⟨w, rfl⟩ := Int.eq_ofNat_of_zero_le hw.1
  have hwn : w < s.B.1.length := by omega
  have eD : zHn k (dk r s w l) f = (jL k s.B.1 s.B.2.1 s.B.2.2.1 s.B.2.2.2).bind fun x0 =>
    bif decide (f.1 = 5) then (((yQ k f.2.1 0 (zA (r.1 - 1))).bind fun x0 => bif x0 then some (!(decide (f.2.1 = (w : Int)))) else some false).bind fun x1 =>
      bif !x1 then some (1, dk r s w l)
      else (yQ k f.2.2.1 (-1) 1152921504606846976).bind fun x2 =>
      bif !x2 then some (1, dk r s w l)
      else bif zE (w : Int) x0.2.1.length then (bif zE f.2.1 (x0.2.1.getD (w : Int).toNat []).length then
        some (0, dk r { s with B := (x0.1, (x0.2.1.set (w : Int).toNat ((x0.2.1.getD (w : Int).toNat []).set f.2.1.toNat f.2.2.1)), x0.2.2.1, x0.2.2.2) } w l)
       else none)
      else none)
    else bif decide (f.1 = 6) then ((yQ k f.2.1 (-1) 1152921504606846976).bind fun x3 =>
      bif !x3 then some (1, dk r s w l)
      else bif zE (w : Int) x0.2.2.1.length then some (0, dk r { s with B := (x0.1, x0.2.1, (x0.2.2.1.set (w : Int).toNat f.2.1), x0.2.2.2) } w l)
      else none)
    else (yQ k f.2.1 0 1152921504606846976).bind fun x4 =>
    bif !x4 then some (1, dk r s w l)
    else bif zE (w : Int) x0.1.length then some (0, dk r { s with B := ((x0.1.set (w : Int).toNat ((x0.1.getD (w : Int).toNat (0, 0, 0)).1, (x0.1.getD (w : Int).toNat (0, 0, 0)).2.1, f.2.1)), x0.2.1, x0.2.2.1, x0.2.2.2) } w l)
    else none := rfl
  rw [eD, zQq (by omega) hb.toSized, w1]
  simp only [vMr, zBz, qH, vMu]
  unfold zDx
  rw [vMu]
  by_cases h5 : f.1 = 5
  · rw [vMm h5]
    simp only [vMs]
    cases hc : decide (f.2.1 ≥ 0) && decide (f.2.1 ≤ r.1 - 1) with
    | false => exact ⟨_, rfl, fun e => by cases e⟩
    | true =>
      simp only [vMv, vMq] at hc
      cases decide (f.2.1 = (w : Int)) with
      | true => exact ⟨_, rfl, fun e => by cases e⟩
      | false =>
        cases decide (f.2.2.1 ≥ -1) && decide (f.2.2.1 ≤ 1152921504606846976) with
        | false => exact ⟨_, rfl, fun e => by cases e⟩
        | true =>
          have b1 : decide (w < s.B.2.1.length) = true := vMm (by rw [hb.bl]; exact hwn)
          have b2 : zE f.2.1 (s.B.2.1.getD w []).length = true := zZ8 hc.1 (by rw [hb.br w hwn]; omega)
          simp only [vMs, vMr, vMx, vMw, vMt, b1, b2, Bool.and_self]
          exact ⟨_, rfl, fun _ => rfl⟩
  · rw [vMn h5]
    simp only [vMt]
    by_cases h6 : f.1 = 6
    · rw [vMm h6]
      cases decide (f.2.1 ≥ -1) && decide (f.2.1 ≤ 1152921504606846976) with
      | false => exact ⟨_, rfl, fun e => by cases e⟩
      | true =>
        have b1 : decide (w < s.B.2.2.1.length) = true := vMm (by rw [hb.ml]; exact hwn)
        simp only [vMs, vMw, vMt, b1]
        exact ⟨_, rfl, fun _ => rfl⟩
    · rw [vMn h6]
      cases decide (f.2.1 ≥ 0) && decide (f.2.1 ≤ 1152921504606846976) with
      | false => exact ⟨_, rfl, fun e => by cases e⟩
      | true =>
        have b1 : decide (w < s.B.1.length) = true := vMm hwn
        simp only [vMs, vMw, vMt, b1]
        exact ⟨_, rfl, fun _ => rfl⟩
def zXu (s : qP) (w : Nat) (h : List Int) (n : Int) : Int × qP :=
 bif decide (n > 1152921504606846976) then (8, s)
 else bif decide (n < (s.B.1.getD w ad).2.1) && decide ((s.B.1.getD w ad).1 + n < 0) then (9, s)
 else (0, { s with B := (s.B.1.set w ((s.B.1.getD w ad).1, n, (s.B.1.getD w ad).2.2), s.B.2.1, s.B.2.2.1, s.B.2.2.2), ho := s.ho.set w h })
def zDa (r : qU) (s : qP) (who a many : Int) : Int × qP :=
 bif !(decide (a ≥ 0) && decide (a ≤ (r.2.1.length : Int) - 1)) then (1, s)
 else bif !(decide (many ≥ 0) && decide (many ≤ 1099511627776)) then (1, s)
 else zXu s who.toNat ((s.ho.getD who.toNat []).set a.toNat many) (zBo r.2.1 s.pr ((s.ho.getD who.toNat []).set a.toNat many))
theorem zA4.set {sa : List zAj} {pr h : List Int} (L : zA4 sa pr h) {i : Nat} (hi : i < sa.length) {v : Int} (hv : 0 ≤ v ∧ v ≤ 1099511627776) : zA4 sa pr (h.set i v) :=
 ⟨L.n3, L.pl, by rw [List.length_set]; exact L.hl, L.cut, L.price, fun j hj => by
  rw [wI]
  split
  ·exact hv
  ·exact L.hold j hj⟩
theorem zA4.setP {sa : List zAj} {pr h : List Int} (L : zA4 sa pr h) {i : Nat} (hi : i < sa.length) {v : Int} (hv : 0 ≤ v ∧ v ≤ 1048576) : zA4 sa (pr.set i v) h :=
 ⟨L.n3, by rw [List.length_set]; exact L.pl, L.hl, L.cut, fun j hj => by
  rw [wI]
  split
  ·exact hv
  ·exact L.price j hj, L.hold⟩
theorem vDx {k : Nat} {l : jN} (hl : l.length ≤ 1000) : zJg k l = some l := by
 unfold zJg
 rw [vR (by omega) (by omega)]
 rfl
theorem vBk {k : Nat} (hk : 1000 ≤ k) {r : qU} (hr : zAp r) {s : qP} (h : yK r s) {who : Int} (hw : 0 ≤ who ∧ who < r.1) (l : List vL) (a many : Int) :
    ∃ d, zUb k (dk r s who l) a many = some ((zDa r s who a many).1, d) ∧ ((zDa r s who a many).1 = 0 → d = dk r (zDa r s who a many).2 who l) := by
  have hp := hr.pa
  have h3 := hr.n3
  have hn := h.n
  have hn6 := h.bk.n6
  have hol := h.hol
  have w1 : zA ((r.2.1.length : Int) - 1) = (r.2.1.length : Int) - 1 := zU (by omega) (by omega)
  obtain ⟨w, rfl⟩ := Int.eq_ofNat_of_zero_le hw.1
  have hwn : w < s.B.1.length := by omega
  have eD : zUb k (dk r s w l) a many = ((yQ k a 0 (zA ((r.2.1.length : Int) - 1))).bind fun x0 => some x0).bind fun x0 =>
    bif !x0 then some (1, dk r s w l)
    else (yQ k many 0 1099511627776).bind fun x1 =>
    bif !x1 then some (1, dk r s w l)
    else (zJg k s.ho).bind fun x2 =>
    bif zE (w : Int) x2.length then ((zDj k (x2.getD (w : Int).toNat []) a many).bind fun x3 =>
      bif zE (w : Int) x2.length then (
       bif zE (w : Int) (x2.set (w : Int).toNat x3).length then ((zEh k r.2.1 s.pr ((x2.set (w : Int).toNat x3).getD (w : Int).toNat [])).bind fun x4 =>
        bif zE (w : Int) s.B.1.length then (bif !x4.2 then some (8, dk r s w l)
         else bif decide (x4.1 > 1152921504606846976) then some (8, dk r s w l)
         else bif decide (x4.1 < (s.B.1.getD (w : Int).toNat (0, 0, 0)).2.1) then (bif decide ((zA ((s.B.1.getD (w : Int).toNat (0, 0, 0)).1 + x4.1)) < 0) then some (9, dk r s w l)
          else (jL k s.B.1 s.B.2.1 s.B.2.2.1 s.B.2.2.2).bind fun x5 =>
          bif zE (w : Int) x5.1.length then
           some (0, dk r { s with B := ((x5.1.set (w : Int).toNat ((x5.1.getD (w : Int).toNat (0, 0, 0)).1, x4.1, (x5.1.getD (w : Int).toNat (0, 0, 0)).2.2)), x5.2.1, x5.2.2.1, x5.2.2.2), ho := x2.set (w : Int).toNat x3 } w l)
          else none)
         else (jL k s.B.1 s.B.2.1 s.B.2.2.1 s.B.2.2.2).bind fun x6 =>
         bif zE (w : Int) x6.1.length then
          some (0, dk r { s with B := ((x6.1.set (w : Int).toNat ((x6.1.getD (w : Int).toNat (0, 0, 0)).1, x4.1, (x6.1.getD (w : Int).toNat (0, 0, 0)).2.2)), x6.2.1, x6.2.2.1, x6.2.2.2), ho := x2.set (w : Int).toNat x3 } w l)
         else none)
        else none)
       else none)
      else none)
    else none := rfl
  rw [eD, w1, zBz, zBz, zQq (by omega) h.bk.toSized, vDx (by omega)]
  simp only [vMr, qH, vMu]
  unfold zDa
  simp only [vMu]
  cases hc : decide (a ≥ 0) && decide (a ≤ (r.2.1.length : Int) - 1) with
  | false => exact ⟨_, rfl, fun e => by cases e⟩
  | true =>
  simp only [vMv, vMq] at hc
  cases hm : decide (many ≥ 0) && decide (many ≤ 1099511627776) with
  | false => exact ⟨_, rfl, fun e => by cases e⟩
  | true =>
  simp only [vMv, vMq] at hm
  obtain ⟨i, rfl⟩ := Int.eq_ofNat_of_zero_le hc.1
  have hi : i < r.2.1.length := by omega
  have L := h.laid w hwn
  have L2 := L.set hi (v := many) ⟨by omega, by omega⟩
  have b1 : decide (w < s.ho.length) = true := vMm (by omega)
  have b2 : decide (w < s.B.1.length) = true := vMm hwn
  have eset : zDj k (s.ho.getD w []) (i : Int) many = some ((s.ho.getD w []).set i many) := by
    have := qZn (k := k) (l := s.ho.getD w []) (by rw [L.hl]; omega) (i := (i : Int)) (by omega) (by rw [L.hl]; omega) many
    rw [vMu] at this
    exact this
  have eget : (s.ho.set w ((s.ho.getD w []).set i many)).getD w [] = (s.ho.getD w []).set i many := by
    rw [wI, if_pos ⟨rfl, by omega⟩]
  have hv := qKm (k := k) L2 (by omega)
  have hb := h.bk.nums.bal w hwn
  have hv0 := zX8 L2
  simp only [vMw, vMt, b1, vMs, eset, vMr, List.length_set, eget, hv, b2, vMu]
  clear hv L2 eget eD
  generalize zBo r.2.1 s.pr ((s.ho.getD w []).set i many) = n at hv0 ⊢
  unfold zXu
  cases h8' : decide (n > 1152921504606846976) with
  | true => exact ⟨_, rfl, fun e => by cases e⟩
  | false =>
    have h8 : ¬ n > 1152921504606846976 := vMp h8'
    have w2 : zA ((s.B.1.getD w (0, 0, 0)).1 + n) = (s.B.1.getD w (0, 0, 0)).1 + n := zU (by have := hb.1; simp only [ad] at this; omega) (by have := hb.2; simp only [ad] at this; omega)
    simp only [w2, vMt]
    cases decide (n < (s.B.1.getD w (0, 0, 0)).2.1) with
    | false => exact ⟨_, rfl, fun _ => rfl⟩
    | true =>
      cases decide ((s.B.1.getD w (0, 0, 0)).1 + n < 0) with
      | true => exact ⟨_, rfl, fun e => by cases e⟩
      | false => exact ⟨_, rfl, fun _ => rfl⟩
def zAe (a : qM) (n : Int) : qM × Int := bif jH (a.1 + n, a.2.1, a.2.2) then ((a.1 + n, a.2.1, a.2.2), 0) else (a, 8)
theorem yM0 {k : Nat} {a : qM} (ha : -4611686018427387904 < a.1 ∧ a.1 < 4611686018427387904) {n : Int} (hn : -1099511627776 ≤ n ∧ n ≤ 1099511627776) : zSc k a n = some (zAe a n) := by
 have hadd : zQf k a.1 n = some (a.1 + n, true) := by
  unfold zQf
  have w1 : n > 0 → zA (9223372036854775807 - n) = 9223372036854775807 - n := fun h => zU (by omega) (by omega)
  have w2 : n < 0 → zA (-9223372036854775808 - n) = -9223372036854775808 - n := fun h => zU (by omega) (by omega)
  have w3 : zA (a.1 + n) = a.1 + n := zU (by omega) (by omega)
  rw [w3]
  by_cases h1 : n > 0
  ·rw [vMm h1, w1 h1, vMn (show ¬ a.1 > 9223372036854775807 - n by omega), vMn (show ¬ n < 0 by omega)]; rfl
  ·rw [vMn h1]
   by_cases h2 : n < 0
   ·rw [vMm h2, w2 h2, vMn (show ¬ a.1 < -9223372036854775808 - n by omega)]; rfl
   ·rw [vMn h2]; rfl
 unfold zSc zAe
 rw [hadd]
 simp only [vMr, vMw, vMt, yMv]
 cases jH (a.1 + n, a.2.1, a.2.2) <;> rfl
abbrev vAc := Int × List zAj × Int × Int × Int × Int × List qM × jN × List Int × jN × List Int × jN × List zB × List Int × Int × Bool × Int
def jX (r : qU) (s : qP) (who : Int) : vAc := (r.1, r.2.1, r.2.2.1, r.2.2.2.1, r.2.2.2.2, s.t, s.B.1, s.B.2.1, s.B.2.2.1, s.B.2.2.2, s.pr, s.ho, s.m, s.ids, s.to, s.ov, who)
def zZb (s : qP) (i : Nat) (a : qM) (to : Int) : qP := { s with B := (s.B.1.set i a, s.B.2.1, s.B.2.2.1, s.B.2.2.2), to := to }
def zXj (s : qP) (i : Nat) (n : Int) : Int × qP :=
 bif decide ((s.B.1.getD i ad).1 + (s.B.1.getD i ad).2.1 - (s.B.1.getD i ad).2.2 < n) then (9, s)
 else bif decide (s.to - n < 0) then (9, s)
 else bif !decide ((zAe (s.B.1.getD i ad) (-n)).2 = 0) then ((zAe (s.B.1.getD i ad) (-n)).2, s)
 else bif decide (s.to - n > 1152921504606846976) then (8, s)
 else (0, zZb s i (zAe (s.B.1.getD i ad) (-n)).1 (s.to - n))
def inN (s : qP) (i : Nat) (n : Int) : Int × qP :=
 bif !decide ((zAe (s.B.1.getD i ad) n).2 = 0) then ((zAe (s.B.1.getD i ad) n).2, s)
 else bif decide (s.to + n > 1152921504606846976) then (8, s)
 else (0, zZb s i (zAe (s.B.1.getD i ad) n).1 (s.to + n))
def zB8 (r : qU) (s : qP) (kd to n : Int) : Int × qP :=
 bif !(decide (to ≥ 0) && decide (to ≤ r.1 - 1)) then (1, s)
 else bif !(decide (n ≥ 1) && decide (n ≤ 1099511627776)) then (1, s)
 else bif decide (kd = 11) then zXj s to.toNat n else inN s to.toNat n
theorem vBv {k : Nat} (hk : 1000 ≤ k) {r : qU} (hr : zAp r) {s : qP} (h : yK r s) (who kd to n : Int) :
    ∃ d, zJh k (jX r s who) kd to n = some ((zB8 r s kd to n).1, d) ∧ ((zB8 r s kd to n).1 = 0 → d = dk r (zB8 r s kd to n).2 who []) := by
  have hp := hr.pa
  have hn := h.n
  have ht := h.tot
  have w1 : zA (r.1 - 1) = r.1 - 1 := zU (by omega) (by omega)
  have eD : zJh k (jX r s who) kd to n = (yQ k to 0 (zA (r.1 - 1))).bind fun x0 =>
    bif !x0 then some (1, dk r s who [])
    else (yQ k n 1 1099511627776).bind fun x1 =>
    bif !x1 then some (1, dk r s who [])
    else bif zE to s.B.1.length then ((zLn k (s.B.1.getD to.toNat (0, 0, 0)) n).bind fun x2 =>
      bif decide (kd = 11) then ((zK0 k (s.B.1.getD to.toNat (0, 0, 0)) n 3).bind fun x3 =>
       (zJw k (s.B.1.getD to.toNat (0, 0, 0)) 3).bind fun x4 =>
       bif decide (x4 < n) then some (9, dk r s who [])
       else bif decide ((zA (s.to - n)) < 0) then some (9, dk r s who [])
       else bif !(decide (x3.2 = 0)) then some (x3.2, dk r s who [])
       else bif decide ((zA (s.to - n)) > 1152921504606846976) then some (8, dk r s who [])
       else (jL k s.B.1 s.B.2.1 s.B.2.2.1 s.B.2.2.2).bind fun x5 =>
       bif zE to x5.1.length then some (0, dk r { s with B := (x5.1.set to.toNat x3.1, x5.2.1, x5.2.2.1, x5.2.2.2), to := zA (s.to - n) } who [])
       else none)
      else bif !(decide (x2.2 = 0)) then some (x2.2, dk r s who [])
      else bif decide ((zA (s.to + n)) > 1152921504606846976) then some (8, dk r s who [])
      else (jL k s.B.1 s.B.2.1 s.B.2.2.1 s.B.2.2.2).bind fun x6 =>
      bif zE to x6.1.length then some (0, dk r { s with B := (x6.1.set to.toNat x2.1, x6.2.1, x6.2.2.1, x6.2.2.2), to := zA (s.to + n) } who [])
      else none)
    else none := rfl
  rw [eD, w1, zBz, zBz, zQq (by omega) h.bk.toSized]
  simp only [vMr]
  unfold zB8
  cases hc : decide (to ≥ 0) && decide (to ≤ r.1 - 1) with
  | false => exact ⟨_, rfl, fun e => by cases e⟩
  | true =>
  simp only [vMv, vMq] at hc
  cases hm : decide (n ≥ 1) && decide (n ≤ 1099511627776) with
  | false => exact ⟨_, rfl, fun e => by cases e⟩
  | true =>
  simp only [vMv, vMq] at hm
  obtain ⟨i, rfl⟩ := Int.eq_ofNat_of_zero_le hc.1
  have hi : i < s.B.1.length := by omega
  have hb := h.bk.nums.bal i hi
  have hres := h.bk.nums.res i hi
  have hcr := h.most i hi
  have hcr0 : 0 ≤ (s.B.1.getD i ad).2.1 := by rw [h.cred i hi]; exact zX8 (h.laid i hi)
  have b0 : zE (i : Int) s.B.1.length = true := by rw [qH, vMm hi]
  have eIn : zLn k (s.B.1.getD i (0, 0, 0)) n = some (zAe (s.B.1.getD i ad) n) := by
    unfold zLn
    rw [yM0 hb (by omega)]
    rfl
  have eOut : zK0 k (s.B.1.getD i (0, 0, 0)) n 3 = some (zAe (s.B.1.getD i ad) (-n)) := by
    unfold zK0
    rw [show zA (0 - n) = -n by rw [zU (by omega) (by omega)]; omega, yM0 hb (by omega)]
    simp only [vMr]
    have d1 : decide ((3 : Int) = 1) = false := rfl
    have d2 : decide ((3 : Int) = 2) = false := rfl
    rw [d1, d2]
    cases decide ((zAe (s.B.1.getD i ad) (-n)).2 = 0) <;> rfl
  have eRoom : zJw k (s.B.1.getD i (0, 0, 0)) 3 = some ((s.B.1.getD i ad).1 + (s.B.1.getD i ad).2.1 - (s.B.1.getD i ad).2.2) := by
    unfold zJw
    have d1 : decide ((3 : Int) = 3) = true := rfl
    rw [d1, vMs]
    have q1 : zA ((s.B.1.getD i (0, 0, 0)).1 + (s.B.1.getD i (0, 0, 0)).2.1) = (s.B.1.getD i ad).1 + (s.B.1.getD i ad).2.1 := zU (by simp only [ad] at *; omega) (by simp only [ad] at *; omega)
    rw [q1]
    exact congrArg some (zU (by simp only [ad] at *; omega) (by simp only [ad] at *; omega))
  have q2 : zA (s.to - n) = s.to - n := zU (by omega) (by omega)
  have q3 : zA (s.to + n) = s.to + n := zU (by omega) (by omega)
  simp only [vMw, vMt, b0, vMs, vMu, eIn, eOut, eRoom, vMr, q2, q3]
  clear eIn eOut eRoom eD
  cases decide (kd = 11) with
  | true =>
    simp only [vMs]
    unfold zXj
    cases decide ((s.B.1.getD i ad).1 + (s.B.1.getD i ad).2.1 - (s.B.1.getD i ad).2.2 < n) with
    | true => exact ⟨_, rfl, fun e => by cases e⟩
    | false =>
    cases decide (s.to - n < 0) with
    | true => exact ⟨_, rfl, fun e => by cases e⟩
    | false =>
    cases hz : decide ((zAe (s.B.1.getD i ad) (-n)).2 = 0) with
    | false => exact ⟨_, rfl, fun e => absurd e (vMp hz)⟩
    | true =>
    cases decide (s.to - n > 1152921504606846976) with
    | true => exact ⟨_, rfl, fun e => by cases e⟩
    | false => exact ⟨_, rfl, fun _ => rfl⟩
  | false =>
    simp only [vMt]
    unfold inN
    cases hz : decide ((zAe (s.B.1.getD i ad) n).2 = 0) with
    | false => exact ⟨_, rfl, fun e => absurd e (vMp hz)⟩
    | true =>
    cases decide (s.to + n > 1152921504606846976) with
    | true => exact ⟨_, rfl, fun e => by cases e⟩
    | false => exact ⟨_, rfl, fun _ => rfl⟩
def zA7 (sa : List zAj) (pr : List Int) (ho : jN) (j : Nat) : Int := zBo sa pr (ho.getD j [])
def zAx (sa : List zAj) (pr : List Int) (ho : jN) (a : List qM) : List qM := (List.range a.length).map fun j => ((a.getD j ad).1, zA7 sa pr ho j, (a.getD j ad).2.2)
def zYc (r : qU) (s : qP) (pr : List Int) : Int × qP :=
 bif qI (fun j => !decide (zA7 r.2.1 pr s.ho j > 1152921504606846976)) s.B.1.length 0 then (0, { s with B := (zAx r.2.1 pr s.ho s.B.1, s.B.2.1, s.B.2.2.1, s.B.2.2.2), pr := pr }) else (8, s)
def zDz (r : qU) (s : qP) (a p : Int) : Int × qP :=
 bif !(decide (a ≥ 0) && decide (a ≤ (r.2.1.length : Int) - 1)) then (1, s)
 else bif !(decide (p ≥ 0) && decide (p ≤ 1048576)) then (1, s)
 else zYc r s (s.pr.set a.toNat p)
theorem yB3 (sa : List zAj) (pr : List Int) (ho : jN) (a : List qM) : (zAx sa pr ho a).length = a.length := by simp [zAx]
theorem qWr (sa : List zAj) (pr : List Int) (ho : jN) (a : List qM) {j : Nat} (hj : j < a.length) : (zAx sa pr ho a).getD j ad = ((a.getD j ad).1, zA7 sa pr ho j, (a.getD j ad).2.2) := by
 unfold zAx
 rw [List.getD_eq_getElem?_getD, List.getElem?_map, List.getElem?_range hj]
 rfl
theorem yTh {k : Nat} (hk : 1000 ≤ k) {r : qU} {s : qP} (who : Int) {pr : List Int} (hL : ∀ i, i < s.B.1.length → zA4 r.2.1 pr (s.ho.getD i [])) (hol : s.ho.length = s.B.1.length) (hn6 : s.B.1.length ≤ 6) :
  (qI (fun j => !decide (zA7 r.2.1 pr s.ho j > 1152921504606846976)) s.B.1.length 0 = true ∧ zE9 k k s.ho s.ho.length 0 (jX r s who) pr s.B.1 s.B.2.1 s.B.2.2.1 s.B.2.2.2 = some (.inl (jX r s who, pr, zAx r.2.1 pr s.ho s.B.1, s.B.2.1, s.B.2.2.1, s.B.2.2.2))) ∨
  (qI (fun j => !decide (zA7 r.2.1 pr s.ho j > 1152921504606846976)) s.B.1.length 0 = false ∧ zE9 k k s.ho s.ho.length 0 (jX r s who) pr s.B.1 s.B.2.1 s.B.2.2.1 s.B.2.2.2 = some (.inr (8, jX r s who))) := by
 rw [hol]
 have := qJx (L := fun n i (a : List qM) => zE9 k n s.ho s.B.1.length i (jX r s who) pr a s.B.2.1 s.B.2.2.1 s.B.2.2.2) (N := s.B.1.length) (fun j => !decide (zA7 r.2.1 pr s.ho j > 1152921504606846976))
  (fun a => .inl (jX r s who, pr, a, s.B.2.1, s.B.2.2.1, s.B.2.2.2)) (.inr (8, jX r s who))
  (fun i a => a.length = s.B.1.length ∧ ∀ j, j < s.B.1.length → a.getD j ad = if j < i then ((s.B.1.getD j ad).1, zA7 r.2.1 pr s.ho j, (s.B.1.getD j ad).2.2) else s.B.1.getD j ad) (fun n a _ => by
   show zLa k _ s.ho s.B.1.length s.B.1.length (jX r s who) pr a s.B.2.1 s.B.2.2.1 s.B.2.2.2 = _
   unfold zLa
   simp only [zY, vMn (Nat.lt_irrefl _), vMt]) (fun n i a hi ha => by
   have hv := qKm (k := k) (hL i hi) (by omega)
   have hstep : zE9 k (n + 1) s.ho s.B.1.length i (jX r s who) pr a s.B.2.1 s.B.2.2.1 s.B.2.2.2 = bif decide (zA7 r.2.1 pr s.ho i > 1152921504606846976) then some (.inr (8, jX r s who)) else zE9 k n s.ho s.B.1.length ((i + 1 : Nat) : Int) (jX r s who) pr (a.set i ((a.getD i ad).1, zA7 r.2.1 pr s.ho i, (a.getD i ad).2.2)) s.B.2.1 s.B.2.2.1 s.B.2.2.2 := by
    show zLa k _ s.ho s.B.1.length i (jX r s who) pr a s.B.2.1 s.B.2.2.1 s.B.2.2.2 = _
    unfold zLa
    have hv' : zEh k (jX r s who).2.1 pr (s.ho.getD i []) = some (zA7 r.2.1 pr s.ho i, true) := hv
    simp only [zY, qH, vMu, vMm hi, vMm (show i < s.ho.length by omega), vMm (show i < a.length by rw [ha.1]; exact hi), vMs, hv', vMr, vMw, vMt, qO hi (show s.B.1.length < 9223372036854775808 by omega)]
    rfl
   refine ⟨fun ho => ?_, fun ho => ?_⟩
   ·have h1 : decide (zA7 r.2.1 pr s.ho i > 1152921504606846976) = false := by simpa using ho
    refine ⟨_, by rw [hstep, h1]; rfl, by rw [List.length_set]; exact ha.1, fun j hj => ?_⟩
    rw [wI]
    by_cases e : i = j
    ·subst e
     rw [if_pos ⟨rfl, by rw [ha.1]; exact hi⟩, if_pos (by omega), ha.2 i hi, if_neg (Nat.lt_irrefl _)]
    ·rw [if_neg (by omega), ha.2 j hj]
     by_cases h : j < i
     ·rw [if_pos h, if_pos (by omega)]
     ·rw [if_neg h, if_neg (by omega)]
   ·have h1 : decide (zA7 r.2.1 pr s.ho i > 1152921504606846976) = true := by simpa using ho
    rw [hstep, h1]; rfl) s.B.1.length 0 k s.B.1 (by omega) (by omega) ⟨rfl, fun j _ => by rw [if_neg (Nat.not_lt_zero _)]⟩
 rcases this with ⟨h1, a, h2, h3, h4⟩ | ⟨h1, h2⟩
 ·refine .inl ⟨h1, ?_⟩
  have e : a = zAx r.2.1 pr s.ho s.B.1 := zU3 ad (by rw [h3, yB3]) fun j hj => by
   rw [h3] at hj
   rw [h4 j hj, if_pos hj, qWr _ _ _ _ hj]
  rw [← e]
  exact h2
 ·exact .inr ⟨h1, h2⟩
theorem vGs {k : Nat} (hk : 1000 ≤ k) {r : qU} (hr : zAp r) {s : qP} (h : yK r s) (who a p : Int) :
  ∃ d, zYt k (jX r s who) a p = some ((zDz r s a p).1, d) ∧ ((zDz r s a p).1 = 0 → d = dk r (zDz r s a p).2 who []) := by
 have h3 := hr.n3
 have hn6 := h.bk.n6
 have hn1 := h.bk.n1
 have w1 : zA ((r.2.1.length : Int) - 1) = (r.2.1.length : Int) - 1 := zU (by omega) (by omega)
 have eD : zYt k (jX r s who) a p = ((yQ k a 0 (zA ((r.2.1.length : Int) - 1))).bind fun x0 => some x0).bind fun x0 =>
  bif !x0 then some (1, dk r s who [])
  else (yQ k p 0 1048576).bind fun x1 =>
  bif !x1 then some (1, dk r s who [])
  else (zDj k s.pr a p).bind fun x2 =>
  (jL k s.B.1 s.B.2.1 s.B.2.2.1 s.B.2.2.2).bind fun x3 =>
  (zE9 k k s.ho (s.ho.length : Int) 0 (jX r s who) x2 x3.1 x3.2.1 x3.2.2.1 x3.2.2.2).bind fun z =>
  match z with
  | .inl z1 => some (0, (zAr z1.1 (qGc z1 (z1.2.1, (qKw z1.1 [])))))
  | .inr z2 => some (zAb z2 []) := rfl
 rw [eD, w1, zBz, zBz, zQq (by omega) h.bk.toSized]
 simp only [vMr]
 unfold zDz
 cases hc : decide (a ≥ 0) && decide (a ≤ (r.2.1.length : Int) - 1) with
 | false => exact ⟨_, rfl, fun e => by cases e⟩
 | true =>
 simp only [vMv, vMq] at hc
 cases hm : decide (p ≥ 0) && decide (p ≤ 1048576) with
 | false => exact ⟨_, rfl, fun e => by cases e⟩
 | true =>
 simp only [vMv, vMq] at hm
 obtain ⟨i, rfl⟩ := Int.eq_ofNat_of_zero_le hc.1
 have hi : i < r.2.1.length := by omega
 have L0 := h.laid 0 (by omega)
 have eset : zDj k s.pr (i : Int) p = some (s.pr.set i p) := by
  have := qZn (k := k) (l := s.pr) (by rw [L0.pl]; omega) (i := (i : Int)) (by omega) (by rw [L0.pl]; omega) p
  rw [vMu] at this
  exact this
 simp only [vMw, vMt, eset, vMr, vMu]
 unfold zYc
 rcases yTh (r := r) (s := s) hk who (pr := s.pr.set i p) (fun j hj => (h.laid j hj).setP hi ⟨by omega, by omega⟩) h.hol hn6 with ⟨g1, g2⟩ | ⟨g1, g2⟩
 ·rw [g2, g1]
  exact ⟨_, rfl, fun _ => rfl⟩
 ·rw [g2, g1]
  exact ⟨_, rfl, fun e => by cases e⟩
theorem zO1 {q p : zB} : jJ q p = true ↔ q.2.1 < p.2.1 ∨ (q.2.1 = p.2.1 ∧ q.2.2.2.2.1 ≤ p.2.2.2.2.1) := by
 unfold jJ; simp
theorem qNw {q p : zB} : ltP q p = true ↔ q.2.1 < p.2.1 ∨ (q.2.1 = p.2.1 ∧ q.2.2.2.2.1 < p.2.2.2.2.1) := by
 unfold ltP; simp
theorem vBt {a b c : zB} (h : jJ a b = true) (g : jJ b c = true) : jJ a c = true := by
 rw [zO1] at *; omega
theorem yWh {a b : zB} (h : ¬ jJ a b = true) : jJ b a = true := by
 rw [zO1] at *; omega
theorem ySp {a b : zB} (h : ltP a b = true) : jJ a b = true := by
 rw [qNw] at h; rw [zO1]; omega
theorem yX6 {a b : zB} (h : ¬ ltP a b = true) : jJ b a = true := by
 rw [qNw] at h; rw [zO1]; omega
theorem yHl (f : zB → Bool) (l : List zB) (p : zB) : List.Perm (l.takeWhile f ++ (p :: l.dropWhile f)) (p :: l) := by
 have := List.perm_middle (a := p) (l₁ := l.takeWhile f) (l₂ := l.dropWhile f)
 rwa [List.takeWhile_append_dropWhile] at this
theorem yFh {l : List zB} (hs : zCp l) (p : zB) (f : zB → Bool) (h1 : ∀ q, f q = true → jJ q p = true) (h2 : ∀ q, ¬ f q = true → jJ p q = true) : zCp (l.takeWhile f ++ (p :: l.dropWhile f)) := by
 have hs' := hs
 unfold zCp at hs hs' ⊢
 rw [← List.takeWhile_append_dropWhile (p := f) (l := l)] at hs
 obtain ⟨a1, a2, a3⟩ := List.pairwise_append.1 hs
 have htw : ∀ q ∈ l.takeWhile f, f q = true := fun q hq => List.all_eq_true.1 (List.all_takeWhile (p := f) (l := l)) q hq
 have hdw : ∀ q ∈ l.dropWhile f, jJ p q = true := by
  cases hd : l.dropWhile f with
  | nil => intro q hq; cases hq
  | cons x m =>
   have hx : ¬ f x = true := by
    have hne : l.dropWhile f ≠ [] := by rw [hd]; simp
    have := List.head_dropWhile_not f hne
    have e : (l.dropWhile f).head hne = x := by simp only [hd, List.head_cons]
    rw [e] at this
    simp [this]
   intro q hq
   rcases List.mem_cons.1 hq with rfl | hq
   ·exact h2 _ hx
   ·rw [hd] at a2
    exact vBt (h2 x hx) ((List.pairwise_cons.1 a2).1 q hq)
 refine List.pairwise_append.2 ⟨a1, List.pairwise_cons.2 ⟨hdw, a2⟩, fun a ha b hb => ?_⟩
 rcases List.mem_cons.1 hb with rfl | hb
 ·exact h1 a (htw a ha)
 ·exact a3 a ha b hb
theorem qLq {l : List zB} (hs : zCp l) (p : zB) : zCp (zE5 l p) := yFh hs p _ (fun _ h => h) (fun _ h => yWh h)
theorem vEz {l : List zB} (hs : zCp l) (p : zB) : zCp (zV6 l p) := yFh hs p _ (fun _ h => ySp h) (fun _ h => yX6 h)
theorem qD4 (l : List zB) (p : zB) : List.Perm (zE5 l p) (p :: l) := yHl _ l p
theorem yTu (l : List zB) (p : zB) : List.Perm (zV6 l p) (p :: l) := yHl _ l p
theorem zCp.cut {l : List zB} (h : zCp l) (x : Nat) : zCp (yU l x) := List.Pairwise.sublist (zFg l x) h
theorem yUb {l : List Int} (ha : Asc l) {id : Int} (hn : id ∉ l) : Asc (zIv l id) := by
 unfold zIv
 have ha' := ha
 unfold Asc at ha ha' ⊢
 rw [← List.takeWhile_append_dropWhile (p := fun x => decide (x < id)) (l := l)] at ha
 obtain ⟨a1, a2, a3⟩ := List.pairwise_append.1 ha
 have htw : ∀ q ∈ l.takeWhile (fun x => decide (x < id)), q < id := fun q hq => by simpa using List.all_eq_true.1 (List.all_takeWhile (p := fun x => decide (x < id)) (l := l)) q hq
 have hdw : ∀ q ∈ l.dropWhile (fun x => decide (x < id)), id < q := by
  cases hd : l.dropWhile (fun x => decide (x < id)) with
  | nil => intro q hq; cases hq
  | cons x m =>
   have hxm : x ∈ l := (List.dropWhile_sublist _).subset (by rw [hd]; exact List.mem_cons_self ..)
   have hx : ¬ x < id := by
    have hne : l.dropWhile (fun x => decide (x < id)) ≠ [] := by rw [hd]; simp
    have := List.head_dropWhile_not (fun x => decide (x < id)) hne
    have e : (l.dropWhile (fun x => decide (x < id))).head hne = x := by simp only [hd, List.head_cons]
    rw [e] at this
    simpa using this
   have hne : x ≠ id := fun e => hn (e ▸ hxm)
   intro q hq
   rcases List.mem_cons.1 hq with rfl | hq
   ·omega
   ·rw [hd] at a2
    have := (List.pairwise_cons.1 a2).1 q hq
    omega
 refine List.pairwise_append.2 ⟨a1, List.pairwise_cons.2 ⟨hdw, a2⟩, fun a ha b hb => ?_⟩
 rcases List.mem_cons.1 hb with rfl | hb
 ·exact htw a ha
 ·exact a3 a ha b hb
theorem yRu (l : List Int) (id : Int) : List.Perm (zIv l id) (id :: l) := by
 have := List.perm_middle (a := id) (l₁ := l.takeWhile (fun x => decide (x < id))) (l₂ := l.dropWhile (fun x => decide (x < id)))
 rwa [List.takeWhile_append_dropWhile] at this
theorem jC.sub {n : Nat} {m m' : List zB} {ids : List Int} (h : jC n m ids) (hs : List.Sublist m' m) : jC n m' ids :=
 ⟨List.Pairwise.sublist hs h.dist, by have := hs.length_le; have := h.len; omega, List.Pairwise.sublist hs h.sort, fun p hp => h.may p (hs.subset hp), fun p hp => h.time p (hs.subset hp), fun p hp => h.were p (hs.subset hp), h.asc, h.pos, h.idl⟩
theorem jC.turn {n : Nat} {m : List zB} {ids : List Int} (h : jC n m ids) {x : Nat} (hx : x < m.length) {p : zB} {m' : List zB} (hp : List.Perm m' (p :: yU m x)) (hs : zCp m') (h1 : p.1 = (m.getD x pd).1)
  (h2 : yM n p) (h3 : 0 ≤ p.2.2.2.2.2.1 ∧ p.2.2.2.2.2.1 ≤ p.2.2.2.2.2.2 ∧ p.2.2.2.2.2.2 ≤ 1048576) : jC n m' ids := by
 have hc := zFg m x
 have hl := zDl hx
 have hd : qT (p :: yU m x) := by
  refine List.pairwise_cons.2 ⟨fun q hq => ?_, h.dist.cut x⟩
  rw [h1]
  have hd := h.dist
  unfold qT at hd
  rw [zOy m x pd hx] at hd
  have hd2 := List.pairwise_append.1 hd
  have hd3 := List.pairwise_cons.1 hd2.2.1
  unfold yU at hq
  rcases List.mem_append.1 hq with hq | hq
  ·exact fun e => hd2.2.2 _ hq _ (List.mem_cons_self ..) e.symm
  ·exact hd3.1 _ hq
 have hlen := hp.length_eq
 rw [List.length_cons] at hlen
 refine ⟨hd.perm hp, by have := h.len; omega, hs, fun q hq => ?_, fun q hq => ?_, fun q hq => ?_, h.asc, h.pos, h.idl⟩
 all_goals rcases List.mem_cons.1 (hp.subset hq) with rfl | hq'
 ·exact h2
 ·exact h.may q (hc.subset hq')
 ·exact h3
 ·exact h.time q (hc.subset hq')
 ·rw [h1]; exact h.were _ (wH hx)
 ·exact h.were q (hc.subset hq')
theorem vFe {r : qU} {s : qP} (hr : zAp r) (h : yK r s) {who : Int} {f : zAw} (h0 : (zFm r s who f).1 = 0) : jC s.B.1.length (zFm r s who f).2.1 (zFm r s who f).2.2 := by
 have hw := h.waits
 have hn := h.n
 have ht := h.tk
 unfold zFm at h0 ⊢
 cases hc : decide (f.2.2.1 ≥ 0) && decide (f.2.2.1 ≤ r.1 - 1) with
 | false => rw [hc] at h0; cases h0
 | true =>
 cases hc2 : decide (f.2.2.2.2.1 ≥ 1) && decide (f.2.2.2.2.1 ≤ 3) with
 | false => rw [hc, hc2] at h0; cases h0
 | true =>
 cases hc3 : decide (zI0 r s.t (zB0 who f) = 0) with
 | false => rw [hc, hc2, hc3] at h0; exact absurd h0 (vMp hc3)
 | true =>
 cases hc4 : decide (f.2.1 ∈ s.ids) with
 | true => rw [hc, hc2, hc3, hc4] at h0; cases h0
 | false =>
 cases hc5 : decide (200 ≤ s.ids.length) with
 | true => rw [hc, hc2, hc3, hc4, hc5] at h0; cases h0
 | false =>
 cases hc6 : (wG s.m f.2.1).isSome with
 | true => rw [hc, hc2, hc3, hc4, hc5, hc6] at h0; cases h0
 | false =>
 cases hc7 : decide (40 ≤ s.m.length) with
 | true => rw [hc, hc2, hc3, hc4, hc5, hc6, hc7] at h0; cases h0
 | false =>
 show jC s.B.1.length (zE5 s.m (zB0 who f)) (zIv s.ids f.2.1)
 have hni : f.2.1 ∉ s.ids := vMp hc4
 have hi := vMp hc5
 have hm := vMp hc7
 have hchk := vMo hc3
 have hip : zH6 r.1 s.t (zB0 who f) = true := by
  unfold zI0 at hchk
  cases hb : zH6 r.1 s.t (zB0 who f) with
  | true => rfl
  | false => rw [hb] at hchk; cases hchk
 unfold zH6 at hip
 simp only [vMv, vMq, Bool.not_eq_true', decide_eq_false_iff_not] at hip
 obtain ⟨⟨p1, p2⟩, ⟨p3, p4⟩, p5, p6, p7, p8, p9, p10, p11, p12, p13, p14⟩ := hip
 have hpm := qD4 s.m (zB0 who f)
 have hpi := yRu s.ids f.2.1
 have hlen := hpm.length_eq
 have hlen2 := hpi.length_eq
 rw [List.length_cons] at hlen hlen2
 have hmay : yM s.B.1.length (zB0 who f) := ⟨p1, by omega, p3, by omega, p9, p6, p7, p8, p10⟩
 have hin : ∀ x, x ∈ s.ids → x ∈ zIv s.ids f.2.1 := fun x hx => hpi.symm.subset (List.mem_cons_of_mem _ hx)
 have hdist : qT (zB0 who f :: s.m) := List.pairwise_cons.2 ⟨fun q hq e => hni (by have := hw.were q hq; rw [← e] at this; exact this), hw.dist⟩
 refine ⟨hdist.perm hpm, by omega, qLq hw.sort _, fun q hq => ?_, fun q hq => ?_, fun q hq => ?_, yUb hw.asc hni, fun x hx => ?_, by omega⟩
 ·rcases List.mem_cons.1 (hpm.subset hq) with rfl | hq'
  ·exact hmay
  ·exact hw.may q hq'
 ·rcases List.mem_cons.1 (hpm.subset hq) with rfl | hq'
  ·exact ⟨p11, p12, p14⟩
  ·exact hw.time q hq'
 ·rcases List.mem_cons.1 (hpm.subset hq) with rfl | hq'
  ·exact hpi.symm.subset (List.mem_cons_self ..)
  ·exact hin _ (hw.were q hq')
 ·rcases List.mem_cons.1 (hpi.subset hx) with rfl | hx'
  ·exact p5
  ·exact hw.pos x hx'
theorem yWo {r : qU} {s : qP} (h : yK r s) {who : Int} {f : zAw} (h0 : (zEm r s who f).1 = 0) : jC s.B.1.length (zEm r s who f).2.1 s.ids := by
 have hw := h.waits
 unfold zEm at h0 ⊢
 cases hx : wG s.m f.2.1 with
 | none => rw [hx] at h0; cases h0
 | some x =>
 rw [hx] at h0
 have hx1 := (zCu hx).1
 have hmem : s.m.getD x pd ∈ s.m := wH hx1
 have hm := hw.may _ hmem
 have ht := hw.time _ hmem
 simp only at h0 ⊢
 cases hc : decide ((s.m.getD x pd).2.1 = who) with
 | false => rw [hc] at h0; cases h0
 | true =>
 rw [hc] at h0
 simp only [vMw, vMt] at h0 ⊢
 cases hc2 : decide (f.1 = 2) with
 | true => exact hw.sub (zFg _ _)
 | false =>
 rw [hc2] at h0
 simp only [vMt] at h0 ⊢
 cases hc3 : decide (f.1 = 4) with
 | true =>
  rw [hc3] at h0
  simp only [vMs] at h0 ⊢
  cases hc4 : decide (f.2.2.1 ≥ 1) && decide (f.2.2.1 ≤ 3) with
  | false => rw [hc4] at h0; cases h0
  | true =>
  cases hc5 : decide (zFz r.2.2.1 r.2.2.2.1 s.t f.2.2.1 = 0) with
  | false => rw [hc4, hc5] at h0; exact absurd h0 (vMp hc5)
  | true =>
  simp only [vMv, vMq] at hc4
  obtain ⟨m1, m2, m3, m4, m5, m6, m7, m8, m9⟩ := hm
  exact hw.turn hx1 (qD4 _ _) (qLq (hw.sort.cut x) _) rfl ⟨m1, m2, m3, m4, m5, m6, m7, hc4.1, hc4.2⟩ ht
 | false =>
  rw [hc3] at h0
  simp only [vMt] at h0 ⊢
  cases hc4 : decide (f.2.2.1 = 0) with
  | true => exact hw.turn hx1 (yTu _ _) (vEz (hw.sort.cut x) _) rfl hm ht
  | false =>
   cases hc5 : decide (f.2.2.1 = 1) with
   | true => exact hw.turn hx1 (qD4 _ _) (qLq (hw.sort.cut x) _) rfl hm ht
   | false => rw [hc4, hc5] at h0; cases h0
theorem yGg {n : Int} (h : -1 ≤ n ∧ n ≤ 1152921504606846976) : vW n = true := by
 unfold vW; simp; omega
theorem zG9 {a : qM} : jH a = true ↔ (-4611686018427387904 < a.1 ∧ a.1 < 4611686018427387904) ∧ (0 ≤ a.2.1 ∧ a.2.1 ≤ 2305843009213693952) ∧ (0 ≤ a.2.2 ∧ a.2.2 ≤ 2305843009213693952) := by
 unfold jH; simp only [vMv, vMq]; omega
theorem vY.setBil {a : List qM} {b : jN} {m : List Int} {p : jN} (h : vY a b m p) {w i : Nat} (hw : w < a.length) (hi : i < a.length) {n : Int} (hn : -1 ≤ n ∧ n ≤ 1152921504606846976) : vY a (b.set w ((b.getD w []).set i n)) m p :=
  { h with
    bl := by rw [List.length_set]; exact h.bl
    br := fun j hj => by
      rw [wI]
      split
      · rw [List.length_set]; exact h.br w hw
      · exact h.br j hj
    bil := fun j hj k hk => by
      unfold cell
      rw [wI]
      split
      · rename_i e
        rw [wI]
        split
        · exact yGg hn
        · exact h.bil w hw k hk
      · exact h.bil j hj k hk }
theorem vY.setMul {a : List qM} {b : jN} {m : List Int} {p : jN} (h : vY a b m p) (w : Nat) {n : Int} (hn : -1 ≤ n ∧ n ≤ 1152921504606846976) : vY a b (m.set w n) p :=
  { h with
    ml := by rw [List.length_set]; exact h.ml
    mul := fun j hj => by
      rw [wI]
      split
      · exact yGg hn
      · exact h.mul j hj }
theorem vY.setAcct {a : List qM} {b : jN} {m : List Int} {p : jN} (h : vY a b m p) {a' : List qM} (hl : a'.length = a.length) (ha : ∀ i, i < a.length → jH (a'.getD i ad) = true) : vY a' b m p where
 n1 := by rw [hl]; exact h.n1
 n6 := by rw [hl]; exact h.n6
 bl := by rw [hl]; exact h.bl
 br := by rw [hl]; exact h.br
 ml := by rw [hl]; exact h.ml
 pl := by rw [hl]; exact h.pl
 pr := by rw [hl]; exact h.pr
 mul := by rw [hl]; exact h.mul
 bil := by rw [hl]; exact h.bil
 acct := by rw [hl]; exact ha
 net := by rw [hl]; exact h.net
 turn := by rw [hl]; exact h.turn
theorem vEg {n : Nat} {g : Nat → Int} {i : Nat} (hi : i < n) (d : Int) : zW (fun j => if j = i then g j + d else g j) n = zW g n + d := by
 have e : zW (fun j => if j = i then g j + d else g j) n = zW (fun j => g j + (if j = i then d else 0)) n := zBb fun j _ => by
  by_cases h : j = i
  ·rw [if_pos h, if_pos h]
  ·rw [if_neg h, if_neg h]; omega
 rw [e, zHw, zHv, if_pos hi]
theorem yK.books {r : qU} {s : qP} (h : yK r s) {B : BT} (hb : qY B) (hl : B.1.length = s.B.1.length) (hbal : ∀ i, i < s.B.1.length → (B.1.getD i ad).1 = (s.B.1.getD i ad).1) (hc : ∀ i, i < s.B.1.length → (B.1.getD i ad).2.1 = (s.B.1.getD i ad).2.1) : yK r { s with B := B } where
 tk := h.tk
 bk := hb
 n := by show ((B.1.length : Nat) : Int) = r.1; rw [hl]; exact h.n
 hol := by show s.ho.length = B.1.length; rw [hl]; exact h.hol
 laid := by show ∀ i, i < B.1.length → _; rw [hl]; exact h.laid
 cred := by show ∀ i, i < B.1.length → _; rw [hl]; intro i hi; show (B.1.getD i ad).2.1 = _; rw [hc i hi]; exact h.cred i hi
 most := by show ∀ i, i < B.1.length → _; rw [hl]; intro i hi; show (B.1.getD i ad).2.1 ≤ _; rw [hc i hi]; exact h.most i hi
 waits := by show jC B.1.length s.m s.ids; rw [hl]; exact h.waits
 sum := by show zW (fun i => (B.1.getD i ad).1) B.1.length = s.to; rw [hl, zBb hbal]; exact h.sum
 tot := h.tot
 over := h.over
 none := h.none
theorem yK.queue {r : qU} {s : qP} (h : yK r s) (ho : s.ov = false) {m : List zB} {ids : List Int} (hw : jC s.B.1.length m ids) : yK r { s with m := m, ids := ids } where
 tk := h.tk
 bk := h.bk
 n := h.n
 hol := h.hol
 laid := h.laid
 cred := h.cred
 most := h.most
 waits := hw
 sum := h.sum
 tot := h.tot
 over := h.over
 none := fun e => by rw [show s.ov = true from e] at ho; cases ho
theorem qPm {a : List qM} {w i : Nat} {x : qM} (hw : w < a.length) : (a.set w x).getD i ad = if i = w then x else a.getD i ad := by
 rw [wI]
 by_cases e : i = w
 ·rw [if_pos e, if_pos ⟨e.symm, hw⟩]
 ·rw [if_neg e, if_neg (fun h => e h.1.symm)]
theorem vAl {r : qU} {s : qP} (h : yK r s) {who : Int} (hw : 0 ≤ who ∧ who < r.1) {f : zAw} (h0 : (zDx r s who f).1 = 0) : yK r (zDx r s who f).2 := by
 have hn := h.n
 have hb : vY s.B.1 s.B.2.1 s.B.2.2.1 s.B.2.2.2 := h.bk
 obtain ⟨w, rfl⟩ := Int.eq_ofNat_of_zero_le hw.1
 have hwn : w < s.B.1.length := by omega
 unfold zDx at h0 ⊢
 simp only [vMu] at h0 ⊢
 cases hc : decide (f.1 = 5) with
 | true =>
  rw [hc] at h0
  simp only [vMs] at h0 ⊢
  cases hc2 : decide (f.2.1 ≥ 0) && decide (f.2.1 ≤ r.1 - 1) with
  | false => rw [hc2] at h0; cases h0
  | true =>
  cases hc3 : decide (f.2.1 = (w : Int)) with
  | true => rw [hc2, hc3] at h0; cases h0
  | false =>
  cases hc4 : decide (f.2.2.1 ≥ -1) && decide (f.2.2.1 ≤ 1152921504606846976) with
  | false => rw [hc2, hc3, hc4] at h0; cases h0
  | true =>
  simp only [vMv, vMq] at hc2 hc4
  exact h.books (B := (s.B.1, s.B.2.1.set w ((s.B.2.1.getD w []).set f.2.1.toNat f.2.2.1), s.B.2.2.1, s.B.2.2.2)) (hb.setBil hwn (by omega) ⟨by omega, by omega⟩) rfl (fun _ _ => rfl) (fun _ _ => rfl)
 | false =>
  rw [hc] at h0
  simp only [vMt] at h0 ⊢
  cases hc2 : decide (f.1 = 6) with
  | true =>
   rw [hc2] at h0
   simp only [vMs] at h0 ⊢
   cases hc3 : decide (f.2.1 ≥ -1) && decide (f.2.1 ≤ 1152921504606846976) with
   | false => rw [hc3] at h0; cases h0
   | true =>
   simp only [vMv, vMq] at hc3
   exact h.books (B := (s.B.1, s.B.2.1, s.B.2.2.1.set w f.2.1, s.B.2.2.2)) (hb.setMul w ⟨by omega, by omega⟩) rfl (fun _ _ => rfl) (fun _ _ => rfl)
  | false =>
   rw [hc2] at h0
   simp only [vMt] at h0 ⊢
   cases hc3 : decide (f.2.1 ≥ 0) && decide (f.2.1 ≤ 1152921504606846976) with
   | false => rw [hc3] at h0; cases h0
   | true =>
   simp only [vMv, vMq] at hc3
   have hg : ∀ i, (s.B.1.set w ((s.B.1.getD w ad).1, (s.B.1.getD w ad).2.1, f.2.1)).getD i ad = if i = w then ((s.B.1.getD w ad).1, (s.B.1.getD w ad).2.1, f.2.1) else s.B.1.getD i ad := fun i => qPm hwn
   refine h.books (B := (s.B.1.set w ((s.B.1.getD w ad).1, (s.B.1.getD w ad).2.1, f.2.1), s.B.2.1, s.B.2.2.1, s.B.2.2.2)) (hb.setAcct (by rw [List.length_set]) fun i hi => ?_) (by show (s.B.1.set _ _).length = _; rw [List.length_set]) (fun i hi => ?_) (fun i hi => ?_)
   ·rw [hg]
    split
    ·have := zG9.1 (hb.acct w hwn)
     rw [zG9]
     exact ⟨this.1, this.2.1, by show 0 ≤ f.2.1 ∧ f.2.1 ≤ 2305843009213693952; omega⟩
    ·exact hb.acct i hi
   ·show ((s.B.1.set w _).getD i ad).1 = _
    rw [hg]
    split
    ·rename_i e; rw [e]
    ·rfl
   ·show ((s.B.1.set w _).getD i ad).2.1 = _
    rw [hg]
    split
    ·rename_i e; rw [e]
    ·rfl
theorem yRx {r : qU} (hr : zAp r) {s : qP} (h : yK r s) {who : Int} (hw : 0 ≤ who ∧ who < r.1) {a many : Int} (h0 : (zDa r s who a many).1 = 0) : yK r (zDa r s who a many).2 := by
  have hn := h.n
  have hb : vY s.B.1 s.B.2.1 s.B.2.2.1 s.B.2.2.2 := h.bk
  obtain ⟨w, rfl⟩ := Int.eq_ofNat_of_zero_le hw.1
  have hwn : w < s.B.1.length := by omega
  have hol := h.hol
  unfold zDa at h0 ⊢
  simp only [vMu] at h0 ⊢
  cases hc : decide (a ≥ 0) && decide (a ≤ (r.2.1.length : Int) - 1) with
  | false => rw [hc] at h0; cases h0
  | true =>
  cases hc2 : decide (many ≥ 0) && decide (many ≤ 1099511627776) with
  | false => rw [hc, hc2] at h0; cases h0
  | true =>
  rw [hc, hc2] at h0
  simp only [vMw, vMt] at h0 ⊢
  simp only [vMv, vMq] at hc hc2
  have L2 := (h.laid w hwn).set (i := a.toNat) (by omega) (v := many) ⟨by omega, by omega⟩
  have hv0 := zX8 L2
  obtain ⟨n, hne⟩ : ∃ n, n = zBo r.2.1 s.pr ((s.ho.getD w []).set a.toNat many) := ⟨_, rfl⟩
  rw [← hne] at h0 hv0 ⊢
  unfold zXu at h0 ⊢
  cases hc3 : decide (n > 1152921504606846976) with
  | true => rw [hc3] at h0; cases h0
  | false =>
  cases hc4 : decide (n < (s.B.1.getD w ad).2.1) && decide ((s.B.1.getD w ad).1 + n < 0) with
  | true => rw [hc3, hc4] at h0; cases h0
  | false =>
  have hc3 := vMp hc3
  have hg : ∀ i, (s.B.1.set w ((s.B.1.getD w ad).1, n, (s.B.1.getD w ad).2.2)).getD i ad = if i = w then ((s.B.1.getD w ad).1, n, (s.B.1.getD w ad).2.2) else s.B.1.getD i ad := fun i => qPm hwn
  have hgh : ∀ i, (s.ho.set w ((s.ho.getD w []).set a.toNat many)).getD i [] = if i = w then (s.ho.getD w []).set a.toNat many else s.ho.getD i [] := fun i => by
    rw [wI]
    by_cases e : i = w
    · rw [if_pos e, if_pos ⟨e.symm, by omega⟩]
    · rw [if_neg e, if_neg (fun h => e h.1.symm)]
  simp only [vMt]
  have ebl : (s.B.1.set w ((s.B.1.getD w ad).1, n, (s.B.1.getD w ad).2.2)).length = s.B.1.length := List.length_set ..
  exact {
    tk := h.tk
    bk := hb.setAcct ebl fun i hi => by
      rw [hg]
      split
      · have := zG9.1 (hb.acct w hwn)
        rw [zG9]
        exact ⟨this.1, by show 0 ≤ n ∧ n ≤ 2305843009213693952; omega, this.2.2⟩
      · exact hb.acct i hi
    n := by show (((s.B.1.set w _).length : Nat) : Int) = r.1; rw [ebl]; exact h.n
    hol := by show (s.ho.set w _).length = (s.B.1.set w _).length; rw [ebl, List.length_set]; exact hol
    laid := by
      show ∀ i, i < (s.B.1.set w _).length → zA4 r.2.1 s.pr ((s.ho.set w _).getD i [])
      rw [ebl]
      intro i hi
      rw [hgh]
      split
      · exact L2
      · exact h.laid i hi
    cred := by
      show ∀ i, i < (s.B.1.set w _).length → ((s.B.1.set w _).getD i ad).2.1 = zBo r.2.1 s.pr ((s.ho.set w _).getD i [])
      rw [ebl]
      intro i hi
      rw [hg, hgh]
      split
      · exact hne
      · exact h.cred i hi
    most := by
      show ∀ i, i < (s.B.1.set w _).length → ((s.B.1.set w _).getD i ad).2.1 ≤ _
      rw [ebl]
      intro i hi
      rw [hg]
      split
      · show n ≤ _; omega
      · exact h.most i hi
    waits := by show jC (s.B.1.set w _).length s.m s.ids; rw [ebl]; exact h.waits
    sum := by
      show zW (fun i => ((s.B.1.set w _).getD i ad).1) (s.B.1.set w _).length = s.to
      rw [ebl, zBb (h := fun i => (s.B.1.getD i ad).1) fun i _ => by
        rw [hg]
        split
        · rename_i e; rw [e]
        · rfl]
      exact h.sum
    tot := h.tot
    over := h.over
    none := h.none }
theorem qTa {r : qU} {s : qP} (h : yK r s) {i : Nat} (hi : i < s.B.1.length) {n : Int} (hz : (zAe (s.B.1.getD i ad) n).2 = 0) (ht : 0 ≤ s.to + n ∧ s.to + n ≤ 1152921504606846976) :
    yK r (zZb s i (zAe (s.B.1.getD i ad) n).1 (s.to + n)) := by
  have hb : vY s.B.1 s.B.2.1 s.B.2.2.1 s.B.2.2.2 := h.bk
  unfold zAe at hz ⊢
  cases hc : jH ((s.B.1.getD i ad).1 + n, (s.B.1.getD i ad).2.1, (s.B.1.getD i ad).2.2) with
  | false => rw [hc] at hz; cases hz
  | true =>
  simp only [vMs]
  have hg : ∀ j, (s.B.1.set i ((s.B.1.getD i ad).1 + n, (s.B.1.getD i ad).2.1, (s.B.1.getD i ad).2.2)).getD j ad = if j = i then ((s.B.1.getD i ad).1 + n, (s.B.1.getD i ad).2.1, (s.B.1.getD i ad).2.2) else s.B.1.getD j ad := fun j => qPm hi
  have ebl : (s.B.1.set i ((s.B.1.getD i ad).1 + n, (s.B.1.getD i ad).2.1, (s.B.1.getD i ad).2.2)).length = s.B.1.length := List.length_set ..
  unfold zZb
  exact {
    tk := h.tk
    bk := hb.setAcct ebl fun j hj => by
      rw [hg]
      split
      · exact hc
      · exact hb.acct j hj
    n := by show (((s.B.1.set i _).length : Nat) : Int) = r.1; rw [ebl]; exact h.n
    hol := by show s.ho.length = (s.B.1.set i _).length; rw [ebl]; exact h.hol
    laid := by show ∀ j, j < (s.B.1.set i _).length → _; rw [ebl]; exact h.laid
    cred := by
      show ∀ j, j < (s.B.1.set i _).length → ((s.B.1.set i _).getD j ad).2.1 = _
      rw [ebl]
      intro j hj
      rw [hg]
      split
      · rename_i e; rw [e]; exact h.cred i hi
      · exact h.cred j hj
    most := by
      show ∀ j, j < (s.B.1.set i _).length → ((s.B.1.set i _).getD j ad).2.1 ≤ _
      rw [ebl]
      intro j hj
      rw [hg]
      split
      · exact h.most i hi
      · exact h.most j hj
    waits := by show jC (s.B.1.set i _).length s.m s.ids; rw [ebl]; exact h.waits
    sum := by
      show zW (fun j => ((s.B.1.set i _).getD j ad).1) (s.B.1.set i _).length = s.to + n
      rw [ebl, zBb (h := fun j => if j = i then (s.B.1.getD j ad).1 + n else (s.B.1.getD j ad).1) fun j _ => by
        rw [hg]
        by_cases e : j = i
        · rw [if_pos e, if_pos e, e]
        · rw [if_neg e, if_neg e], vEg hi, h.sum]
    tot := ht
    over := h.over
    none := h.none }
theorem vCg {r : qU} {s : qP} (h : yK r s) {kd to n : Int} (h0 : (zB8 r s kd to n).1 = 0) : yK r (zB8 r s kd to n).2 ∧ (zB8 r s kd to n).2.to = s.to + (if kd = 11 then -n else n) ∧ (zB8 r s kd to n).2.m = s.m ∧ (zB8 r s kd to n).2.ids = s.ids ∧ (zB8 r s kd to n).2.t = s.t := by
 have hn := h.n
 have ht := h.tot
 unfold zB8 at h0 ⊢
 cases hc : decide (to ≥ 0) && decide (to ≤ r.1 - 1) with
 | false => rw [hc] at h0; cases h0
 | true =>
 cases hc2 : decide (n ≥ 1) && decide (n ≤ 1099511627776) with
 | false => rw [hc, hc2] at h0; cases h0
 | true =>
 rw [hc, hc2] at h0
 simp only [vMw, vMt] at h0 ⊢
 simp only [vMv, vMq] at hc hc2
 have hi : to.toNat < s.B.1.length := by omega
 by_cases hk : kd = 11
 ·rw [vMm hk] at h0 ⊢
  simp only [vMs] at h0 ⊢
  rw [if_pos hk]
  unfold zXj at h0 ⊢
  cases hc3 : decide ((s.B.1.getD to.toNat ad).1 + (s.B.1.getD to.toNat ad).2.1 - (s.B.1.getD to.toNat ad).2.2 < n) with
  | true => rw [hc3] at h0; cases h0
  | false =>
  cases hc4 : decide (s.to - n < 0) with
  | true => rw [hc3, hc4] at h0; cases h0
  | false =>
  cases hz : decide ((zAe (s.B.1.getD to.toNat ad) (-n)).2 = 0) with
  | false => rw [hc3, hc4, hz] at h0; exact absurd h0 (vMp hz)
  | true =>
  cases hc5 : decide (s.to - n > 1152921504606846976) with
  | true => rw [hc3, hc4, hz, hc5] at h0; cases h0
  | false =>
  have hc4 := vMp hc4
  have := qTa h hi (n := -n) (vMo hz) (by omega)
  exact ⟨this, rfl, rfl, rfl, rfl⟩
 ·rw [vMn hk] at h0 ⊢
  simp only [vMt] at h0 ⊢
  rw [if_neg hk]
  unfold inN at h0 ⊢
  cases hz : decide ((zAe (s.B.1.getD to.toNat ad) n).2 = 0) with
  | false => rw [hz] at h0; exact absurd h0 (vMp hz)
  | true =>
  cases hc5 : decide (s.to + n > 1152921504606846976) with
  | true => rw [hz, hc5] at h0; cases h0
  | false =>
  have hc5 := vMp hc5
  exact ⟨qTa h hi (vMo hz) (by omega), rfl, rfl, rfl, rfl⟩
theorem yW9 {r : qU} {s : qP} (h : yK r s) {a p : Int} (h0 : (zDz r s a p).1 = 0) : yK r (zDz r s a p).2 := by
  have hb : vY s.B.1 s.B.2.1 s.B.2.2.1 s.B.2.2.2 := h.bk
  unfold zDz at h0 ⊢
  cases hc : decide (a ≥ 0) && decide (a ≤ (r.2.1.length : Int) - 1) with
  | false => rw [hc] at h0; cases h0
  | true =>
  cases hc2 : decide (p ≥ 0) && decide (p ≤ 1048576) with
  | false => rw [hc, hc2] at h0; cases h0
  | true =>
  rw [hc, hc2] at h0
  simp only [vMw, vMt] at h0 ⊢
  simp only [vMv, vMq] at hc hc2
  have hL : ∀ i, i < s.B.1.length → zA4 r.2.1 (s.pr.set a.toNat p) (s.ho.getD i []) := fun i hi => (h.laid i hi).setP (by omega) ⟨by omega, by omega⟩
  generalize s.pr.set a.toNat p = pr at *
  unfold zYc at h0 ⊢
  cases hc3 : qI (fun j => !decide (zA7 r.2.1 pr s.ho j > 1152921504606846976)) s.B.1.length 0 with
  | false => rw [hc3] at h0; cases h0
  | true =>
  simp only [vMs]
  have hle : ∀ i, i < s.B.1.length → zA7 r.2.1 pr s.ho i ≤ 1152921504606846976 := fun i hi => by
    have := jU.1 hc3 i hi
    simp only [Bool.not_eq_true', decide_eq_false_iff_not] at this
    omega
  have ebl := yB3 r.2.1 pr s.ho s.B.1
  have hg := fun (j : Nat) (hj : j < s.B.1.length) => qWr r.2.1 pr s.ho s.B.1 hj
  exact {
    tk := h.tk
    bk := hb.setAcct ebl fun i hi => by
      rw [hg i hi]
      have := zG9.1 (hb.acct i hi)
      have h1 := zX8 (hL i hi)
      have h2 := hle i hi
      rw [zG9]
      exact ⟨this.1, ⟨h1, by show zA7 r.2.1 pr s.ho i ≤ _; omega⟩, this.2.2⟩
    n := by show (((zAx r.2.1 pr s.ho s.B.1).length : Nat) : Int) = r.1; rw [ebl]; exact h.n
    hol := by show s.ho.length = (zAx r.2.1 pr s.ho s.B.1).length; rw [ebl]; exact h.hol
    laid := by show ∀ i, i < (zAx r.2.1 pr s.ho s.B.1).length → _; rw [ebl]; exact hL
    cred := by
      show ∀ i, i < (zAx r.2.1 pr s.ho s.B.1).length → ((zAx r.2.1 pr s.ho s.B.1).getD i ad).2.1 = zBo r.2.1 pr (s.ho.getD i [])
      rw [ebl]
      intro i hi
      rw [hg i hi]; rfl
    most := by
      show ∀ i, i < (zAx r.2.1 pr s.ho s.B.1).length → ((zAx r.2.1 pr s.ho s.B.1).getD i ad).2.1 ≤ _
      rw [ebl]
      intro i hi
      rw [hg i hi]; exact hle i hi
    waits := by show jC (zAx r.2.1 pr s.ho s.B.1).length s.m s.ids; rw [ebl]; exact h.waits
    sum := by
      show zW (fun i => ((zAx r.2.1 pr s.ho s.B.1).getD i ad).1) (zAx r.2.1 pr s.ho s.B.1).length = s.to
      rw [ebl, zBb (h := fun i => (s.B.1.getD i ad).1) fun i hi => by rw [hg i hi]]
      exact h.sum
    tot := h.tot
    over := h.over
    none := h.none }
abbrev zI2 := Int × zAw
theorem vFp (k : Nat) (kd : Int) : ∃ n, zUp k kd = some n ∧ -1 ≤ n ∧ n ≤ 6 := by
 have c : ∀ (b : Bool) (x y : Option Int), (∃ n, x = some n ∧ -1 ≤ n ∧ n ≤ 6) → (∃ n, y = some n ∧ -1 ≤ n ∧ n ≤ 6) → ∃ n, (bif b then x else y) = some n ∧ -1 ≤ n ∧ n ≤ 6 := by
  intro b x y hx hy
  cases b
  ·exact hy
  ·exact hx
 unfold zUp
 iterate 23 (refine c _ _ _ ⟨_, rfl, by decide, by decide⟩ ?_)
 exact ⟨_, rfl, by decide, by decide⟩
theorem yEd {k : Nat} {s : List Int} (hs : s.length ≤ 6) : ∀ (n i : Nat), s.length < i + n → i ≤ s.length → ∃ x, zSn k n s (s.length : Int) (i : Int) = some x
 | 0, i, h, g => by omega
 | n + 1, i, h, g => by
  show ∃ x, zXs k (zSn k n) s (s.length : Int) (i : Int) = some x
  unfold zXs
  by_cases hi : i < s.length
  ·simp only [zY, vMm hi, vMs, qH, vMu]
   cases decide (s.getD i 0 = 0) with
   | false => exact ⟨_, rfl⟩
   | true =>
    simp only [vMw, vMt]
    rw [qO hi (by omega)]
    exact yEd hs n (i + 1) (by omega) hi
  ·simp only [zY, vMn hi, vMt]
   exact ⟨_, rfl⟩
theorem vHy {k : Nat} (hk : 10 ≤ k) (f : zAw) : ∃ b, zP9 k f = some b := by
 unfold zP9
 obtain ⟨n, h1, h2, h3⟩ := vFp k f.1
 rw [h1]
 simp only [vMr]
 by_cases h0 : n < 0
 ·rw [vMm h0]; exact ⟨_, rfl⟩
 ·rw [vMn h0, vMm (show (0 : Int) ≤ n by omega), vMm h3]
  simp only [vMt, Bool.and_true, vMs]
  have hl : (yB [f.2.1, f.2.2.1, f.2.2.2.1, f.2.2.2.2.1, f.2.2.2.2.2.1, f.2.2.2.2.2.2] n.toNat (6 - n.toNat)).length ≤ 6 := by
   unfold yB
   rw [List.length_take, List.length_drop]
   omega
  obtain ⟨x, hx⟩ := yEd (k := k) hl k 0 (by omega) (Nat.zero_le _)
  rw [show ((0 : Nat) : Int) = 0 from rfl] at hx
  rw [hx]
  cases x <;> exact ⟨_, rfl⟩
theorem yWu (k : Nat) (a : Int) : qAm k a = some (decide (a ≥ 10) && decide (a ≤ 14)) := by
 unfold qAm; cases decide (a ≥ 10) <;> rfl
theorem vGo (k : Nat) (a : Int) : zPa k a = some (decide (a ≥ 1) && decide (a ≤ 14)) := by
 unfold zPa; cases decide (a ≥ 1) <;> rfl
def yFd (A B C D E F G b o : Bool) : Int :=
 bif !(D && C) then 5 else bif !b then 5 else bif B && C then (bif !E then 5 else bif o && !G then 7 else 0) else bif !(A && F) then 5 else bif o && !G then 7 else 0
theorem yXf : ∀ {A B C D E F G b o : Bool}, yFd A B C D E F G b o = 0 → (D && C && ((B && E) || (!B && A && F)) && (!o || G)) = true := by
 intro A B C D E F G b o h
 cases A <;> cases B <;> cases C <;> cases D <;> cases E <;> cases F <;> cases G <;> cases b <;> cases o <;> first | rfl | exact absurd h (by decide)
theorem yUt {k : Nat} (hk : 10 ≤ k) (r : qU) (s : qP) (c : zI2) : ∃ b, zR3 k r s.st c = some (yFd (decide (c.1 ≥ 0)) (decide (c.2.1 ≥ 10)) (decide (c.2.1 ≤ 14)) (decide (c.2.1 ≥ 1)) (decide (c.1 = -1)) (decide (c.1 < r.1)) (decide (c.2.1 = 9)) b s.ov) := by
 unfold zR3
 rw [yWu, vGo]
 simp only [vMr]
 obtain ⟨b, hb⟩ := vHy hk c.2
 rw [hb]
 simp only [vMr]
 have eo : s.st.2.2.2.2.2.2.2.2.2.2 = s.ov := rfl
 rw [eo]
 refine ⟨b, ?_⟩
 generalize decide (c.1 ≥ 0) = A
 generalize decide (c.2.1 ≥ 10) = B
 generalize decide (c.2.1 ≤ 14) = C
 generalize decide (c.2.1 ≥ 1) = D
 generalize decide (c.1 = -1) = E
 generalize decide (c.1 < r.1) = F
 generalize decide (c.2.1 = 9) = G
 generalize s.ov = o
 cases A <;> cases B <;> cases C <;> cases D <;> cases E <;> cases F <;> cases G <;> cases b <;> cases o <;> rfl
theorem yY0 {k : Nat} (hk : 10 ≤ k) (r : qU) (s : qP) (c : zI2) : ∃ e, zR3 k r s.st c = some e ∧
  (e = 0 → ((10 ≤ c.2.1 ∧ c.2.1 ≤ 14 ∧ c.1 = -1) ∨ (1 ≤ c.2.1 ∧ c.2.1 ≤ 9 ∧ 0 ≤ c.1 ∧ c.1 < r.1)) ∧ (s.ov = true → c.2.1 = 9)) := by
 obtain ⟨b, hb⟩ := yUt hk r s c
 refine ⟨_, hb, fun e => ?_⟩
 have := yXf e
 simp only [vMv, Bool.or_eq_true, Bool.not_eq_true', vMq, decide_eq_false_iff_not] at this
 refine ⟨by omega, fun ho => ?_⟩
 rcases this.2 with g | g
 ·rw [ho] at g; cases g
 ·exact g
structure zM3 (r : qU) (s : qP) (f : zAw) (t : qP) (l : List vL) : Prop where
 inv : yK r t
 tk : t.t = s.t
 ov : t.ov = s.ov
 few : l.length ≤ 2
 to : t.to = s.to + (if f.1 = 10 then f.2.2.1 else if f.1 = 11 then -f.2.2.1 else 0)
theorem vA3 (r : qU) (s : qP) (who : Int) (f : zAw) : (zDx r s who f).2.t = s.t ∧ (zDx r s who f).2.ov = s.ov ∧ (zDx r s who f).2.to = s.to := by
 unfold zDx
 cases decide (f.1 = 5) with
 | true =>
  cases !((decide (f.2.1 ≥ 0) && decide (f.2.1 ≤ r.1 - 1)) && !decide (f.2.1 = who)) <;> cases !(decide (f.2.2.1 ≥ -1) && decide (f.2.2.1 ≤ 1152921504606846976)) <;> exact ⟨rfl, rfl, rfl⟩
 | false =>
  cases decide (f.1 = 6) with
  | true => cases !(decide (f.2.1 ≥ -1) && decide (f.2.1 ≤ 1152921504606846976)) <;> exact ⟨rfl, rfl, rfl⟩
  | false => cases !(decide (f.2.1 ≥ 0) && decide (f.2.1 ≤ 1152921504606846976)) <;> exact ⟨rfl, rfl, rfl⟩
theorem yO9 (r : qU) (s : qP) (who a n : Int) : (zDa r s who a n).2.t = s.t ∧ (zDa r s who a n).2.ov = s.ov ∧ (zDa r s who a n).2.to = s.to := by
 unfold zDa
 cases !(decide (a ≥ 0) && decide (a ≤ (r.2.1.length : Int) - 1)) with
 | true => exact ⟨rfl, rfl, rfl⟩
 | false =>
 cases !(decide (n ≥ 0) && decide (n ≤ 1099511627776)) with
 | true => exact ⟨rfl, rfl, rfl⟩
 | false =>
 simp only [vMt]
 unfold zXu
 generalize (s.ho.getD who.toNat []).set a.toNat n = h
 cases decide (zBo r.2.1 s.pr h > 1152921504606846976) with
 | true => exact ⟨rfl, rfl, rfl⟩
 | false => cases decide (zBo r.2.1 s.pr h < (s.B.1.getD who.toNat ad).2.1) && decide ((s.B.1.getD who.toNat ad).1 + zBo r.2.1 s.pr h < 0) <;> exact ⟨rfl, rfl, rfl⟩
theorem yYg (r : qU) (s : qP) (a p : Int) : (zDz r s a p).2.t = s.t ∧ (zDz r s a p).2.ov = s.ov ∧ (zDz r s a p).2.to = s.to := by
 unfold zDz
 cases !(decide (a ≥ 0) && decide (a ≤ (r.2.1.length : Int) - 1)) with
 | true => exact ⟨rfl, rfl, rfl⟩
 | false =>
 cases !(decide (p ≥ 0) && decide (p ≤ 1048576)) with
 | true => exact ⟨rfl, rfl, rfl⟩
 | false =>
 simp only [vMt]
 unfold zYc
 cases qI (fun j => !decide (zA7 r.2.1 (s.pr.set a.toNat p) s.ho j > 1152921504606846976)) s.B.1.length 0 <;> exact ⟨rfl, rfl, rfl⟩
theorem ySn {r : qU} {s : qP} {kd to n : Int} : (zB8 r s kd to n).2.ov = s.ov := by
 unfold zB8
 cases !(decide (to ≥ 0) && decide (to ≤ r.1 - 1)) with
 | true => rfl
 | false =>
 cases !(decide (n ≥ 1) && decide (n ≤ 1099511627776)) with
 | true => rfl
 | false =>
 simp only [vMt]
 cases decide (kd = 11) with
 | true =>
  simp only [vMs]
  unfold zXj
  cases decide ((s.B.1.getD to.toNat ad).1 + (s.B.1.getD to.toNat ad).2.1 - (s.B.1.getD to.toNat ad).2.2 < n) <;> cases decide (s.to - n < 0) <;> cases decide ((zAe (s.B.1.getD to.toNat ad) (-n)).2 = 0) <;> cases decide (s.to - n > 1152921504606846976) <;> rfl
 | false =>
  simp only [vMt]
  unfold inN
  cases decide ((zAe (s.B.1.getD to.toNat ad) n).2 = 0) <;> cases decide (s.to + n > 1152921504606846976) <;> rfl
theorem vGr {r : qU} {s : qP} {who : Int} {f : zAw} : (zEm r s who f).2.2.length ≤ 1 := by
 unfold zEm
 cases wG s.m f.2.1 with
 | none => exact Nat.zero_le _
 | some x =>
  simp only []
  cases !decide ((s.m.getD x pd).2.1 = who) with
  | true => exact Nat.zero_le _
  | false =>
  cases decide (f.1 = 2) with
  | true => exact Nat.le_refl _
  | false =>
  cases decide (f.1 = 4) with
  | true =>
   cases !(decide (f.2.2.1 ≥ 1) && decide (f.2.2.1 ≤ 3)) <;> cases !decide (zFz r.2.2.1 r.2.2.2.1 s.t f.2.2.1 = 0) <;> exact Nat.zero_le _
  | false =>
  cases decide (f.2.2.1 = 0) <;> cases decide (f.2.2.1 = 1) <;> exact Nat.zero_le _
theorem yYk {k : Nat} (hk : 1000 ≤ k) {r : qU} (hr : zAp r) {s : qP} (h : yK r s) (ho : s.ov = false) {who : Int} (hw : 0 ≤ who ∧ who < r.1) {f : zAw} (hf : 1 ≤ f.1 ∧ f.1 ≤ 8) (x : vL) :
  ∃ e d, zZ3 k (dk r s who [x]) f = some (e, d) ∧ (e = 0 → ∃ t l, d = dk r t who l ∧ zM3 r s f t l) := by
 unfold zZ3
 have h10 : ¬ f.1 = 10 := by omega
 have h11 : ¬ f.1 = 11 := by omega
 have h0 : s.to = s.to + (if f.1 = 10 then f.2.2.1 else if f.1 = 11 then -f.2.2.1 else 0) := by rw [if_neg h10, if_neg h11]; omega
 by_cases h1 : f.1 = 1
 ·rw [vMm h1]
  obtain ⟨d, e1, e2⟩ := yR5 hk hr h.waits who [x] f
  simp only [vMs]
  rw [e1]
  refine ⟨_, d, rfl, fun e => ⟨_, _, e2 e, h.queue ho (vFe hr h e), rfl, rfl, by simp, h0⟩⟩
 rw [vMn h1]
 by_cases hq : f.1 = 2 ∨ f.1 = 3 ∨ f.1 = 4
 ·obtain ⟨d, e1, e2⟩ := yVy hk h.waits who (l := [x]) (by simp) f
  have g : ∃ e d, (zI4 k (dk r s who [x]) f).bind (fun x => some (x.1, x.2)) = some (e, d) ∧ (e = 0 → ∃ t l, d = dk r t who l ∧ zM3 r s f t l) := by
   rw [e1]
   refine ⟨_, d, rfl, fun e => ⟨_, _, e2 e, h.queue ho (yWo h e), rfl, rfl, ?_, h0⟩⟩
   have := vGr (r := r) (s := s) (who := who) (f := f)
   rw [List.length_append]
   simp
   omega
  rcases hq with e | e | e
  ·rw [vMm e]; exact g
  ·rw [vMn (show ¬ f.1 = 2 by omega), vMm e]; exact g
  ·rw [vMn (show ¬ f.1 = 2 by omega), vMn (show ¬ f.1 = 3 by omega), vMm e]; exact g
 rw [vMn (show ¬ f.1 = 2 by omega), vMn (show ¬ f.1 = 3 by omega), vMn (show ¬ f.1 = 4 by omega)]
 by_cases hq : f.1 = 5 ∨ f.1 = 6 ∨ f.1 = 7
 ·obtain ⟨d, e1, e2⟩ := yRo hk hr h.bk h.n hw [x] f
  have g : ∃ e d, (zHn k (dk r s who [x]) f).bind (fun x => some (x.1, x.2)) = some (e, d) ∧ (e = 0 → ∃ t l, d = dk r t who l ∧ zM3 r s f t l) := by
   rw [e1]
   have hrest := vA3 r s who f
   refine ⟨_, d, rfl, fun e => ⟨_, _, e2 e, vAl h hw e, hrest.1, hrest.2.1, by simp, hrest.2.2.trans h0⟩⟩
  rcases hq with e | e | e
  ·rw [vMm e]; exact g
  ·rw [vMn (show ¬ f.1 = 5 by omega), vMm e]; exact g
  ·rw [vMn (show ¬ f.1 = 5 by omega), vMn (show ¬ f.1 = 6 by omega), vMm e]; exact g
 rw [vMn (show ¬ f.1 = 5 by omega), vMn (show ¬ f.1 = 6 by omega), vMn (show ¬ f.1 = 7 by omega), vMm (show f.1 = 8 by omega)]
 obtain ⟨d, e1, e2⟩ := vBk hk hr h hw [x] f.2.1 f.2.2.1
 simp only [vMs, vMt]
 rw [e1]
 have hrest := yO9 r s who f.2.1 f.2.2.1
 exact ⟨_, d, rfl, fun e => ⟨_, _, e2 e, yRx hr h hw e, hrest.1, hrest.2.1, by simp, hrest.2.2.trans h0⟩⟩
theorem vJd {k : Nat} (hk : 1000 ≤ k) {r : qU} (hr : zAp r) {s : qP} (h : yK r s) (who : Int) {f : zAw} (hf : 10 ≤ f.1 ∧ f.1 ≤ 14) :
  ∃ e d, zWp k (jX r s who) f = some (e, d) ∧ (e = 0 → ∃ t l, d = dk r t who l ∧ zM3 r s f t l) := by
 unfold zWp
 rw [vMn (show ¬ f.1 = 1 by omega), vMn (show ¬ f.1 = 2 by omega), vMn (show ¬ f.1 = 3 by omega), vMn (show ¬ f.1 = 4 by omega), vMn (show ¬ f.1 = 5 by omega), vMn (show ¬ f.1 = 6 by omega), vMn (show ¬ f.1 = 7 by omega), vMn (show ¬ f.1 = 8 by omega)]
 by_cases hq : f.1 = 10 ∨ f.1 = 11
 ·obtain ⟨d, e1, e2⟩ := vBv hk hr h who f.1 f.2.1 f.2.2.1
  have g : ∃ e d, (zJh k (jX r s who) f.1 f.2.1 f.2.2.1).bind (fun x => some (x.1, x.2)) = some (e, d) ∧ (e = 0 → ∃ t l, d = dk r t who l ∧ zM3 r s f t l) := by
   rw [e1]
   refine ⟨_, d, rfl, fun e => ?_⟩
   obtain ⟨g1, g2, g3, g4, g5⟩ := vCg h e
   refine ⟨_, _, e2 e, g1, g5, ySn, by simp, ?_⟩
   rw [g2]
   rcases hq with e | e
   ·rw [if_neg (by omega), if_pos e]
   ·rw [if_pos e, if_neg (by omega), if_pos e]
  rcases hq with e | e
  ·rw [vMm e]; exact g
  ·rw [vMn (show ¬ f.1 = 10 by omega), vMm e]; exact g
 have h0 : s.to = s.to + (if f.1 = 10 then f.2.2.1 else if f.1 = 11 then -f.2.2.1 else 0) := by rw [if_neg (by omega), if_neg (by omega)]; omega
 rw [vMn (show ¬ f.1 = 10 by omega), vMn (show ¬ f.1 = 11 by omega)]
 by_cases hp : f.1 = 12
 ·rw [vMm hp]
  obtain ⟨d, e1, e2⟩ := vGs hk hr h who f.2.1 f.2.2.1
  simp only [vMs, vMt]
  rw [e1]
  have hrest := yYg r s f.2.1 f.2.2.1
  exact ⟨_, d, rfl, fun e => ⟨_, _, e2 e, yW9 h e, hrest.1, hrest.2.1, by simp, hrest.2.2.trans h0⟩⟩
 ·rw [vMn hp]
  exact ⟨_, _, rfl, fun _ => ⟨s, [], rfl, h, rfl, rfl, by simp, h0⟩⟩
theorem yRk {k : Nat} (hk : 1000 ≤ k) {r : qU} {s : qP} (h : yK r s) {who : Int} (hw : 0 ≤ who ∧ who < r.1) : ∃ o, zXp k s.st who = some o := by
 have hm := h.waits.len
 have hn := h.n
 have hb : zE who s.B.1.length = true := zZ8 hw.1 (by omega)
 unfold zXp
 have e1 : s.st.2.1 = s.B.1 := rfl
 have e2 : s.st.2.2.2.2.2.2.2.1 = s.m := rfl
 rw [e1, e2, hb, qUb (by omega) (by unfold qZ; omega)]
 exact ⟨_, rfl⟩
structure Did (k : Nat) (r : qU) (s : qP) (c : zI2) (t : qP) (o : List vL) (e : Int) : Prop where
 inv : yK r t
 bad : e ≠ 0 → t = s ∧ o = []
 to : e = 0 → t.to = s.to + (if c.2.1 = 10 then c.2.2.2.1 else if c.2.1 = 11 then -c.2.2.2.1 else 0)
 still : t = s ∨ (t.ov = false → wE k t.B (yY t.m t.t) = none)
theorem yK.settled {r : qU} {s : qP} (h : yK r s) (ho : s.ov = false) {C : BT} (hc : qY C) (kc : jO s.B C) {m : List zB} (hm : List.Sublist m s.m) : yK r { s with B := C, m := m } := by
  have hl := kc.len
  exact {
    tk := h.tk
    bk := hc
    n := by show ((C.1.length : Nat) : Int) = r.1; rw [hl]; exact h.n
    hol := by show s.ho.length = C.1.length; rw [hl]; exact h.hol
    laid := by show ∀ i, i < C.1.length → _; rw [hl]; exact h.laid
    cred := by show ∀ i, i < C.1.length → _; rw [hl]; intro i hi; show (C.1.getD i ad).2.1 = _; rw [kc.cred i hi]; exact h.cred i hi
    most := by show ∀ i, i < C.1.length → _; rw [hl]; intro i hi; show (C.1.getD i ad).2.1 ≤ _; rw [kc.cred i hi]; exact h.most i hi
    waits := by show jC C.1.length m s.ids; rw [hl]; exact h.waits.sub hm
    sum := by show zW (fun i => (C.1.getD i ad).1) C.1.length = s.to; rw [hl, kc.sum]; exact h.sum
    tot := h.tot
    over := h.over
    none := fun e => by rw [show s.ov = true from e] at ho; cases ho }
theorem vJz {k : Nat} (hk : 1000 ≤ k) {r : qU} (hr : zAp r) {s : qP} (h : yK r s) (ho : s.ov = false) (c : zI2) (hc : c.2.1 = 14) :
    ∃ t o, (zJy k r.1 r.2.1 r.2.2.1 r.2.2.2.1 r.2.2.2.2 s.t s.B.1 s.B.2.1 s.B.2.2.1 s.B.2.2.2 s.pr s.ho s.m s.ids s.to s.ov).bind (fun x4 => some ((vK x4), x4.2.2.2.2.2.2.2.2.2.2.2, (0 : Int))) = some (t.st, o, (0 : Int)) ∧ Did k r s c t o 0 := by
  have hcl := hr.cl
  have hpe := hr.pe
  have htk := h.tk
  have hn := h.n
  have hlt : s.t ≠ r.2.2.2.1 := by
    have := h.over
    rw [ho] at this
    exact vMp this.symm
  have hbk := h.bk
  have hm := h.waits.len
  rw [ho]
  obtain ⟨C, m', ov, o, e1, e2, e3, e4, e5⟩ := yWp (k := k) (by omega) hbk h.waits.dist h.waits.may (by omega) r.1 r.2.1 r.2.2.1 r.2.2.2.1 r.2.2.2.2 s.t (by omega) (by omega) s.pr s.ho s.ids s.to
  rw [e1]
  simp only [vMr]
  have hl := e3.len
  refine ⟨{ s with t := s.t + 1, B := C, m := m', ov := ov }, o, rfl, ?_, fun e => absurd rfl e, fun _ => ?_, .inr e4⟩
  · exact {
      tk := by show 0 ≤ s.t + 1 ∧ s.t + 1 ≤ _; omega
      bk := e2.bk
      n := by show ((C.1.length : Nat) : Int) = r.1; rw [hl]; exact h.n
      hol := by show s.ho.length = C.1.length; rw [hl]; exact h.hol
      laid := by show ∀ i, i < C.1.length → _; rw [hl]; exact h.laid
      cred := by show ∀ i, i < C.1.length → _; rw [hl]; intro i hi; show (C.1.getD i ad).2.1 = _; rw [e3.cred i hi]; exact h.cred i hi
      most := by show ∀ i, i < C.1.length → _; rw [hl]; intro i hi; show (C.1.getD i ad).2.1 ≤ _; rw [e3.cred i hi]; exact h.most i hi
      waits := by show jC C.1.length m' s.ids; rw [hl]; exact h.waits.sub e2.sub
      sum := by show zW (fun i => (C.1.getD i ad).1) C.1.length = s.to; rw [hl, e3.sum]; exact h.sum
      tot := h.tot
      over := e2.over
      none := e2.none }
  · show s.to = _
    rw [if_neg (by omega), if_neg (by omega)]
    omega
theorem yCo {k : Nat} (hk : 1000 ≤ k) {r : qU} (hr : zAp r) {t : qP} (h : yK r t) (ho : t.ov = false) (who : Int) {l : List vL} (hl : l.length ≤ 2) (f : zAw) :
    ∃ u o, ((zE1 k t.t t.B.1 t.B.2.1 t.B.2.2.1 t.B.2.2.2 t.pr t.ho t.m t.ids t.to t.ov (decide (f.1 = 13))).bind fun x5 =>
      bif qR (l.length + x5.2.2.2.2.2.2.2.2.2.2.2.length) 64 then (let y0 : List vL := (l ++ x5.2.2.2.2.2.2.2.2.2.2.2)
       bif decide (f.1 = 1) then ((zCw k x5.2.2.2.2.2.2.2.1 f.2.1).bind fun x6 =>
        bif decide (x6 ≥ 0) then ((zF9 k (zWy ((0 : Int), dk r t who l) y0) 19 [f.2.1]).bind fun x7 =>
         some ((vK x5), x7.2.2.2.2.2.2.2.2.2.2.2.2.2.2.2.2.2, (0 : Int)))
        else some ((vK x5), y0, 0))
       else some ((vK x5), y0, 0))
      else none) = some (u.st, o, (0 : Int)) ∧ yK r u ∧ u.to = t.to ∧ wE k u.B (yY u.m u.t) = none := by
  have hm := h.waits.len
  obtain ⟨C, m', d, e1, e2, e3, e4, e5, e6, e7⟩ := vB8 (k := k) (by omega) h.bk h.waits.dist h.waits.may (by omega) t.t t.pr t.ho t.ids t.to t.ov (decide (f.1 = 13))
  rw [e1]
  have hd : d.length ≤ 40 := by
    have := e6.length_eq
    rw [List.length_append] at this
    omega
  have hm' := e5.length_le
  have htl := zY6 d
  simp only [vMr]
  rw [vR (n := l.length + (wX d).length) (by omega) (by omega)]
  simp only [vMs]
  have hu := h.settled ho e3 e4 e5
  have fin : ∀ o : List vL, ∃ u o', some (({ t with B := C, m := m' } : qP).st, o, (0 : Int)) = some (u.st, o', (0 : Int)) ∧ yK r u ∧ u.to = t.to ∧ wE k u.B (yY u.m u.t) = none := fun o => ⟨{ t with B := C, m := m' }, o, rfl, hu, rfl, e7⟩
  cases decide (f.1 = 1) with
  | false => exact fin _
  | true =>
    simp only [vMs]
    rw [zKs (by omega) (by omega)]
    simp only [vMr]
    cases decide (zDk m' f.2.1 ≥ 0) with
    | false => exact fin _
    | true =>
      simp only [vMs]
      have ej : zWy ((0 : Int), dk r t who l) (l ++ wX d) = dk r t who (l ++ wX d) := rfl
      rw [ej, yL4 (by rw [List.length_append]; omega)]
      exact fin _
theorem vCy {k : Nat} (hk : 1000 ≤ k) {r : qU} (hr : zAp r) {s : qP} (h : yK r s) (c : zI2) :
  ∃ t o e, zYy k r s.st c = some (t.st, o, e) ∧ Did k r s c t o e := by
 unfold zYy
 obtain ⟨e, he, hm⟩ := yY0 (k := k) (by omega) r s c
 rw [he]
 simp only [vMr]
 by_cases h0 : e = 0
 ·obtain ⟨hw, hov⟩ := hm h0
  rw [vMm h0]
  simp only [vMw, vMt]
  by_cases h9 : c.2.1 = 9
  ·rw [vMm h9]
   have hw' : 0 ≤ c.1 ∧ c.1 < r.1 := by omega
   obtain ⟨o, ho⟩ := yRk hk h hw'
   simp only [vMs]
   rw [ho]
   refine ⟨s, o, 0, rfl, h, fun e => absurd rfl e, fun _ => ?_, .inl rfl⟩
   rw [if_neg (by omega), if_neg (by omega)]
   omega
  ·rw [vMn h9]
   simp only [vMt]
   have ho : s.ov = false := by
    cases g : s.ov with
    | false => rfl
    | true => exact absurd (hov g) h9
   have fin : ∀ {t : qP} {l : List vL}, zM3 r s c.2 t l → ∀ {x : Option (yF1 × List vL × Int)}, (∃ u o, x = some (u.st, o, (0 : Int)) ∧ yK r u ∧ u.to = t.to ∧ wE k u.B (yY u.m u.t) = none) → ∃ t o e, x = some (t.st, o, e) ∧ Did k r s c t o e := by
    intro t l hd x ⟨u, o, g1, g2, g3, g4⟩
    exact ⟨u, o, 0, g1, g2, fun e => absurd rfl e, fun _ => g3.trans hd.to, .inr fun _ => g4⟩
   by_cases hp : c.1 = -1
   ·rw [vMm hp]
    have hf : 10 ≤ c.2.1 ∧ c.2.1 ≤ 14 := by omega
    obtain ⟨e, d, g1, g2⟩ := vJd hk hr h c.1 (f := c.2) hf
    have ed : zBg r (zBq s.st c.1) = jX r s c.1 := rfl
    simp only [vMw, vMt]
    rw [ed, g1]
    simp only [vMr]
    by_cases hz : e = 0
    ·obtain ⟨t, l, rfl, hd⟩ := g2 hz
     rw [vMm hz]
     simp only [vMw, vMt]
     by_cases h14 : c.2.1 = 14
     ·rw [vMm h14]
      simp only [vMs]
      obtain ⟨t, o, q1, q2⟩ := vJz hk hr h ho c h14
      exact ⟨t, o, 0, q1, q2⟩
     ·rw [vMn h14]
      simp only [vMt]
      exact fin hd (yCo hk hr hd.inv (hd.ov.trans ho) c.1 hd.few c.2)
    ·rw [vMn hz]
     exact ⟨s, [], e, rfl, h, fun _ => ⟨rfl, rfl⟩, fun e' => absurd e' hz, .inl rfl⟩
   ·rw [vMn hp]
    have hf : 1 ≤ c.2.1 ∧ c.2.1 ≤ 8 := by omega
    have hw' : 0 ≤ c.1 ∧ c.1 < r.1 := by omega
    have ed : zZw k (zBg r (zBq s.st c.1)) 15 [] = some (dk r s c.1 [zRv c.1 15 0]) := rfl
    obtain ⟨e, d, g1, g2⟩ := yYk hk hr h ho hw' (f := c.2) hf (zRv c.1 15 0)
    simp only [vMx, vMs]
    rw [ed]
    simp only [vMr]
    rw [g1]
    simp only [vMr]
    by_cases hz : e = 0
    ·obtain ⟨t, l, rfl, hd⟩ := g2 hz
     rw [vMm hz, vMn (show ¬ c.2.1 = 14 by omega)]
     simp only [vMw, vMt]
     exact fin hd (yCo hk hr hd.inv (hd.ov.trans ho) c.1 hd.few c.2)
    ·rw [vMn hz]
     exact ⟨s, [], e, rfl, h, fun _ => ⟨rfl, rfl⟩, fun e' => absurd e' hz, .inl rfl⟩
 ·rw [vMn h0]
  exact ⟨s, [], e, rfl, h, fun _ => ⟨rfl, rfl⟩, fun e' => absurd e' h0, .inl rfl⟩
theorem zCh {α : Type} {d : α} (l : List α) {i : Nat} (h : i < l.length) : l.getD i d = l[i] := by
 rw [List.getD_eq_getElem?_getD, List.getElem?_eq_getElem h]; rfl
theorem zDq {X : Type} {L : Nat → Int → Option X} {N : Nat} {e : X} (hend : ∀ n, L (n + 1) (N : Int) = some e) (hstep : ∀ n i, i < N → L (n + 1) (i : Int) = L n ((i + 1 : Nat) : Int)) {n : Nat} (hn : N < n) : L n 0 = some e := by
 obtain ⟨_, h, _⟩ := vO (L := fun n i (_ : Unit) => L n i) (N := N) (fun _ => e) (fun _ _ => True) (fun n _ _ => hend n) (fun n i _ hi _ => ⟨(), hstep n i hi, trivial⟩) (n := n) (s := ()) hn trivial
 exact h
theorem yO4 {m : List zB} (hd : qT m) {i : Nat} (hi : i < m.length) : zDk m (m.getD i pd).1 = (i : Int) := by
 obtain ⟨x, hx⟩ := zZg (wH (d := pd) hi)
 have h := zCu hx
 unfold zDk
 rw [hx]
 have : x = i := by
  rcases Nat.lt_trichotomy x i with g | g | g
  ·exfalso
   have := List.pairwise_iff_getElem.1 hd x i h.1 hi g
   rw [← zCh (d := pd) m h.1, ← zCh (d := pd) m hi] at this
   exact this h.2
  ·exact g
  ·exfalso
   have := List.pairwise_iff_getElem.1 hd i x hi h.1 g
   rw [← zCh (d := pd) m h.1, ← zCh (d := pd) m hi] at this
   exact this h.2.symm
 show (x : Int) = i
 rw [this]
theorem vFs {k : Nat} (hk : 1000 ≤ k) {n : Nat} {m : List zB} {ids : List Int} (h : jC n m ids) : zR1 k m = some true := by
 have hm := h.len
 have e1 : zHt k k m m (m.length : Int) 0 = some (.inl m) := zDq (L := fun n i => zHt k n m m (m.length : Int) i) (fun n => by
  show zLi k _ m m (m.length : Int) (m.length : Int) = _
  unfold zLi
  rw [vMn (Int.lt_irrefl _)]
  rfl) (fun n i hi => by
  show zLi k (zHt k n) m m (m.length : Int) (i : Int) = _
  unfold zLi
  have e : m.getD i (0, 0, 0, 0, 0, 0, 0) = m.getD i pd := rfl
  rw [vMm (show (i : Int) < m.length by omega), qH, vMm hi, vMu, e, zKs (by omega) (by omega), yO4 h.dist hi, qO hi (by omega)]
  simp only [vMs, vMr, decide_true, vMw, vMt]) (by omega)
 have e2 : zY4 k m = some true := by
  have down : ∀ (i n : Nat), i < n → i < m.length ∨ i = 0 → zRw k n m (i : Int) = some (.inl ()) := by
   intro i
   induction i with
   | zero =>
    intro n hn _
    obtain ⟨n, rfl⟩ : ∃ x, n = x + 1 := ⟨n - 1, by omega⟩
    rfl
   | succ i ih =>
    intro n hn hi
    obtain ⟨n, rfl⟩ : ∃ x, n = x + 1 := ⟨n - 1, by omega⟩
    have hi' : i + 1 < m.length := by omega
    show zTa k (zRw k n) m ((i + 1 : Nat) : Int) = _
    unfold zTa
    have w : zA (((i + 1 : Nat) : Int) - 1) = (i : Int) := by rw [zU (by omega) (by omega)]; omega
    rw [vMm (show ((i + 1 : Nat) : Int) > 0 by omega), w, qH, qH, vMm hi', vMm (show i < m.length by omega), vMu, vMu]
    simp only [vMs]
    obtain ⟨x, x1, x2, x3⟩ := qOi (k := k) (by omega) (m.getD (i + 1) pd) (m.getD i pd)
    have hs := List.pairwise_iff_getElem.1 h.sort i (i + 1) (by omega) hi' (by omega)
    rw [← zCh (d := pd) m (by omega), ← zCh (d := pd) m hi'] at hs
    have nx : ¬ x < 0 := fun q => by
     have : ltP (m.getD (i + 1) pd) (m.getD i pd) = true := by rw [← x3]; exact vMm q
     rw [qNw] at this
     rw [zO1] at hs
     omega
    refine (congrArg (fun z => Option.bind z _) x1).trans ?_
    simp only [vMr]
    rw [vMn nx]
    exact ih n (by omega) (.inl (by omega))
  unfold zY4
  by_cases hz : m.length = 0
  ·have : m = [] := List.eq_nil_of_length_eq_zero hz
   subst this
   have w : zA (((([] : List zB).length : Nat) : Int) - 1) = -1 := by rw [zU (by decide) (by decide)]; rfl
   rw [w]
   obtain ⟨j, rfl⟩ : ∃ x, k = x + 1 := ⟨k - 1, by omega⟩
   rfl
  ·have w : zA ((m.length : Int) - 1) = ((m.length - 1 : Nat) : Int) := by rw [zU (by omega) (by omega)]; omega
   rw [w, down (m.length - 1) k (by omega) (.inl (by omega))]
   rfl
 unfold zR1
 rw [e1]
 simp only [vMr]
 rw [vMm (show (m.length : Int) ≤ 40 by omega), e2]
 rfl
theorem yYx {k : Nat} (hk : 1000 ≤ k) {n : Nat} {m : List zB} {ids : List Int} (h : jC n m ids) : zPb k ids = some true := by
 have hl := h.idl
 obtain ⟨s, e1, _⟩ := vO (L := fun n i (p : Int) => zPd k n ids p ids (ids.length : Int) i) (N := ids.length) (fun _ => (.inl ids : List Int ⊕ Bool)) (fun i p => p = if i = 0 then 0 else ids.getD (i - 1) 0) (fun n p _ => by
  show zK1 k _ ids p ids (ids.length : Int) (ids.length : Int) = _
  unfold zK1
  rw [vMn (Int.lt_irrefl _)]
  rfl) (fun n i p hi hp => by
  refine ⟨ids.getD i 0, ?_, by rw [if_neg (by omega)]; rfl⟩
  show zK1 k (zPd k n) ids p ids (ids.length : Int) (i : Int) = _
  unfold zK1
  have hlt : ¬ ids.getD i 0 ≤ p := by
   rw [hp]
   by_cases z : i = 0
   ·rw [if_pos z]
    have := h.pos _ (wH (d := 0) hi)
    omega
   ·rw [if_neg z]
    have := List.pairwise_iff_getElem.1 h.asc (i - 1) i (by omega) hi (by omega)
    rw [← zCh (d := 0) ids (by omega), ← zCh (d := 0) ids hi] at this
    omega
  rw [vMm (show (i : Int) < ids.length by omega), qH, vMm hi, vMu, vMn hlt, qO hi (by omega)]
  rfl) (n := k) (s := 0) (by omega) rfl
 unfold zPb
 rw [e1]
 simp only [vMr]
 rw [vMm (show (ids.length : Int) ≤ 200 by omega)]
theorem yPh {k : Nat} (hk : 1000 ≤ k) {r : qU} {s : qP} (h : yK r s) : zQn k s.st = some true := by
 have hw := h.waits
 have hm := hw.len
 have e1 : zQn k s.st = (zR1 k s.m).bind fun x0 => bif x0 then ((zPb k s.ids).bind fun x1 => bif x1 then ((zX7 k s.m s.t s.B.1 s.B.2.1 s.B.2.2.1 s.B.2.2.2 s.pr s.ho s.m s.ids s.to s.ov).bind fun x2 => some (!x2)) else some false) else some false := rfl
 rw [e1, vFs hk hw, yYx hk hw]
 simp only [vMr, vMs]
 have e2 : zHd k k s.m (s.m.length : Int) 0 s.t s.B.1 s.B.2.1 s.B.2.2.1 s.B.2.2.2 s.pr s.ho s.m s.ids s.to s.ov = some (.inl ()) := zDq (L := fun n i => zHd k n s.m (s.m.length : Int) i s.t s.B.1 s.B.2.1 s.B.2.2.1 s.B.2.2.2 s.pr s.ho s.m s.ids s.to s.ov) (fun n => by
  show zNm k _ s.m (s.m.length : Int) (s.m.length : Int) s.t s.B.1 s.B.2.1 s.B.2.2.1 s.B.2.2.2 s.pr s.ho s.m s.ids s.to s.ov = _
  unfold zNm
  rw [vMn (Int.lt_irrefl _)]
  rfl) (fun n i hi => by
  show zNm k (zHd k n) s.m (s.m.length : Int) (i : Int) s.t s.B.1 s.B.2.1 s.B.2.2.1 s.B.2.2.2 s.pr s.ho s.m s.ids s.to s.ov = _
  unfold zNm
  have hmem : s.m.getD i pd ∈ s.m := wH hi
  have ht := hw.time _ hmem
  have hid := hw.were _ hmem
  have f1 : zS8 k (s.m.getD i pd) (s.t, s.B.1, s.B.2.1, s.B.2.2.1, s.B.2.2.2, s.pr, s.ho, s.m, s.ids, s.to, s.ov) = some false := by
   unfold zS8
   rw [qAz]
   have hmay : zB2 s.B.1.length (s.m.getD i pd) = true := zUi.2 (hw.may _ hmem)
   have hmay' : zB2 s.B.1.length ((s.m.getD i pd).1, (s.m.getD i pd).2.1, (s.m.getD i pd).2.2.1, (s.m.getD i pd).2.2.2.1, (s.m.getD i pd).2.2.2.2.1, (s.m.getD i pd).2.2.2.2.2.1, (s.m.getD i pd).2.2.2.2.2.2) = true := hmay
   rw [hmay']
   simp only [vMr, vMw, vMt]
   rw [vMn (show ¬ (s.m.getD i pd).2.2.2.2.2.1 < 0 by omega), zBz, vMm (show (s.m.getD i pd).2.2.2.2.2.2 ≥ (s.m.getD i pd).2.2.2.2.2.1 by omega), vMm (show (s.m.getD i pd).2.2.2.2.2.2 ≤ 1048576 by omega)]
   have hI := hw.idl
   rw [vJt (by omega) (by omega) hw.asc, vMm hid]
   rfl
  have e : s.m.getD i (0, 0, 0, 0, 0, 0, 0) = s.m.getD i pd := rfl
  rw [vMm (show (i : Int) < s.m.length by omega), qH, vMm hi, vMu, e, f1, qO hi (by omega)]
  rfl) (by omega)
 unfold zX7 qE5
 rw [e2]
 rfl
theorem vId {k : Nat} (hk : 1000 ≤ k) {r : qU} (hr : zAp r) {s : qP} (h : yK r s) : zR5 k s.pr = some false := by
 have hn1 := h.bk.n1
 have L := h.laid 0 (by omega)
 have h3 := L.n3
 have hp := L.pl
 have e2 : zI9 k k s.pr (s.pr.length : Int) 0 = some (.inl ()) := zDq (L := fun n i => zI9 k n s.pr (s.pr.length : Int) i) (fun n => by
  show zJn k _ s.pr (s.pr.length : Int) (s.pr.length : Int) = _
  unfold zJn
  rw [vMn (Int.lt_irrefl _)]
  rfl) (fun n i hi => by
  show zJn k (zI9 k n) s.pr (s.pr.length : Int) (i : Int) = _
  unfold zJn qD1
  have hv := L.price i (by omega)
  rw [vMm (show (i : Int) < s.pr.length by omega), qH, vMm hi, vMu, zBz, vMm (show s.pr.getD i 0 ≥ 0 by omega), vMm (show s.pr.getD i 0 ≤ 1048576 by omega), qO hi (by omega)]
  rfl) (by omega)
 unfold zR5 qNc
 rw [e2]
 rfl
theorem vCw {k : Nat} (hk : 1000 ≤ k) {sa : List zAj} {pr h : List Int} (L : zA4 sa pr h) : zXf k h = some false := by
 have h3 := L.n3
 have hp := L.hl
 have e2 : zHl k k h (h.length : Int) 0 = some (.inl ()) := zDq (L := fun n i => zHl k n h (h.length : Int) i) (fun n => by
  show zNd k _ h (h.length : Int) (h.length : Int) = _
  unfold zNd
  rw [vMn (Int.lt_irrefl _)]
  rfl) (fun n i hi => by
  show zNd k (zHl k n) h (h.length : Int) (i : Int) = _
  unfold zNd qH3
  have hv := L.hold i (by omega)
  rw [vMm (show (i : Int) < h.length by omega), qH, vMm hi, vMu, vMn (show ¬ h.getD i 0 > 1099511627776 by omega), qO hi (by omega)]
  rfl) (by omega)
 unfold zXf qPg
 rw [e2]
 rfl
theorem yXb {k : Nat} (hk : 1000 ≤ k) {r : qU} (hr : zAp r) {s : qP} (h : yK r s) : zRf k r s.st = some true := by
 have hn1 := h.bk.n1
 have hn6 := h.bk.n6
 have hn := h.n
 have hol := h.hol
 have L := h.laid 0 (by omega)
 have e0 : zRf k r s.st = bif !(decide ((s.pr.length : Int) = (r.2.1.length : Int))) then some false
  else bif !(decide ((s.ho.length : Int) = r.1)) then some false
  else (zR5 k s.pr).bind fun x0 =>
  bif x0 then some false
  else (zGg k k s.ho (s.ho.length : Int) 0 r s.st).bind fun z =>
  match z with
  | .inl z1 => some true
  | .inr z2 => some z2 := rfl
 have e2 : zGg k k s.ho (s.ho.length : Int) 0 r s.st = some (.inl ()) := zDq (L := fun n i => zGg k n s.ho (s.ho.length : Int) i r s.st) (fun n => by
  show zOo k (zGg k n) s.ho (s.ho.length : Int) (s.ho.length : Int) r s.st = _
  unfold zOo
  rw [vMn (Int.lt_irrefl _)]
  rfl) (fun n i hi => by
  show zOo k (zGg k n) s.ho (s.ho.length : Int) (i : Int) r s.st = _
  unfold zOo
  have hi' : i < s.B.1.length := by omega
  have Li := h.laid i hi'
  have hc : (s.B.1.getD i ad).2.1 = _ := h.cred i hi'
  have hm : (s.B.1.getD i ad).2.1 ≤ _ := h.most i hi'
  have ep : s.st.2.2.2.2.2.1 = s.pr := rfl
  have ea : s.st.2.1 = s.B.1 := rfl
  have ed : s.B.1.getD i (0, 0, 0) = s.B.1.getD i ad := rfl
  rw [vMm (show (i : Int) < s.ho.length by omega), qH, vMm hi, vMu, ep, qKm Li (by omega), ea, qH, vMm hi', ed, vCw hk Li, qO hi (by omega)]
  simp only [vMs, vMr, vMw, vMt]
  rw [vMn (show ¬ zBo r.2.1 s.pr (s.ho.getD i []) > 1152921504606846976 by omega), vMm hc.symm]
  rfl) (by omega)
 rw [e0, vMm (show (s.pr.length : Int) = (r.2.1.length : Int) by rw [L.pl]), vMm (show (s.ho.length : Int) = r.1 by omega), vId hk hr h, e2]
 rfl
theorem yTb (s : qP) : wR ((List.range s.B.1.length).map fun j => (s.B.1.getD j ad).1) = zW (fun j => (s.B.1.getD j ad).1) s.B.1.length := qB6 _ _
theorem vBm {k : Nat} (hk : 1000 ≤ k) {r : qU} (hr : zAp r) {s : qP} (h : yK r s) : zQr k r s.st = some true := by
  have hn6 := h.bk.n6
  have ht := h.tk
  have hto := h.tot
  have hlim : zIc k s.B.1 s.B.2.1 s.B.2.2.1 s.B.2.2.2 = some true := by rw [yB6 (by omega), zPe.2 h.bk]
  obtain ⟨x, h1, h2⟩ := vO (L := fun n j (x : List Int) => zJk k n s.B.1 (s.B.1.length : Int) j r s.st x) (N := s.B.1.length) (fun x => (r, s.st, x)) (fun j x => x = (List.range j).map fun j => (s.B.1.getD j ad).1) (fun n x _ => by
    show zMt k _ s.B.1 (s.B.1.length : Int) (s.B.1.length : Int) r s.st x = _
    unfold zMt
    rw [vMn (Int.lt_irrefl _)]
    rfl) (fun n j x hj hx => by
    refine ⟨x ++ [(s.B.1.getD j ad).1], ?_, ?_⟩
    · show zMt k (zJk k n) s.B.1 (s.B.1.length : Int) (j : Int) r s.st x = _
      unfold zMt
      have hl : x.length = j := by rw [hx]; simp
      rw [vMm (show (j : Int) < s.B.1.length by omega), qH, vMm hj, vR (by omega) (by omega), vMu, qO hj (by omega)]
      rfl
    · rw [hx, List.range_succ, List.map_append]
      rfl) (n := k) (s := []) (by omega) rfl
  have hb : ∀ i, i < x.length → -9223372036854775808 ≤ x.getD i 0 ∧ x.getD i 0 < 9223372036854775808 := by
    intro i hi
    have hm : x.getD i 0 ∈ x := wH hi
    rw [h2] at hm
    obtain ⟨j, hj, e⟩ := List.mem_map.1 hm
    have := zG9.1 (h.bk.acct j (List.mem_range.1 hj))
    have this : -4611686018427387904 < (s.B.1.getD j ad).1 ∧ (s.B.1.getD j ad).1 < 4611686018427387904 := this.1
    rw [h2, ← e]
    omega
  have hlen : x.length = s.B.1.length := by rw [h2]; simp
  have hsum : wR x = s.to := by rw [h2, yTb]; exact h.sum
  have hin : zF5 (wR x) = true := by rw [hsum]; unfold zF5; simp; omega
  have eU : zQr k r s.st = (yQ k s.t 0 r.2.2.2.1).bind fun x0 =>
     bif !x0 then some false
     else (zIc k s.B.1 s.B.2.1 s.B.2.2.1 s.B.2.2.2).bind fun x1 =>
     bif !x1 then some false
     else bif !(decide ((s.B.1.length : Int) = r.1)) then some false
     else (zRf k r s.st).bind fun x2 =>
     bif !x2 then some false
     else (zQn k s.st).bind fun x3 =>
     bif !x3 then some false
     else (zJk k k s.B.1 (s.B.1.length : Int) 0 r s.st []).bind fun z =>
     (zHz k z.2.2).bind fun x4 =>
     bif !x4.2 then some false
     else bif !(decide (x4.1 = z.2.1.2.2.2.2.2.2.2.2.2.1)) then some false
     else (yQ k x4.1 0 1152921504606846976).bind fun x5 =>
     bif !x5 then some false
     else (zNy k z.1.1 z.1.2.1 z.1.2.2.1 z.1.2.2.2.1 z.1.2.2.2.2 z.2.1.1).bind fun x6 =>
     bif zBj z.2.1.2.2.2.2.2.2.2.2.2.2 x6 then (bif !z.2.1.2.2.2.2.2.2.2.2.2.2 then some true
      else some (decide ((z.2.1.2.2.2.2.2.2.2.1.length : Int) = 0)))
     else some false := rfl
  have ec : ∀ b : Bool, zBj b b = true := fun b => by cases b <;> rfl
  have eo : s.st.2.2.2.2.2.2.2.2.2.2 = s.ov := rfl
  have em : s.st.2.2.2.2.2.2.2.1 = s.m := rfl
  have et : s.st.2.2.2.2.2.2.2.2.2.1 = s.to := rfl
  have e1 : s.st.1 = s.t := rfl
  have ecl : zNy k r.1 r.2.1 r.2.2.1 r.2.2.2.1 r.2.2.2.2 s.t = some (decide (s.t = r.2.2.2.1)) := rfl
  rw [eU, zBz, vMm (show s.t ≥ 0 by omega), vMm (show s.t ≤ r.2.2.2.1 by omega), hlim, vMm h.n, yXb hk hr h, yPh hk h, h1]
  simp only [vMr, Bool.and_self, vMw, vMt]
  rw [qD6 (by omega) (by omega) hb, hin, hsum]
  simp only [vMr, vMs, vMw, vMt]
  rw [et, vMm (show s.to = s.to from rfl), zBz, vMm (show s.to ≥ 0 by omega), vMm (show s.to ≤ 1152921504606846976 by omega)]
  simp only [vMr, Bool.and_self, vMw, vMt]
  rw [e1, ecl, eo, em, ← h.over]
  simp only [vMr]
  rw [ec]
  cases ho : s.ov with
  | false => rfl
  | true => rw [h.none ho]; rfl
theorem zWs (x : Int) (s : Nat) (h : s ≤ 62) : shr .i64 x (s : Int) = x / 2 ^ s := by
 have e : shr .i64 x (s : Int) = x.fdiv (2 ^ (min (s : Int).toNat 64)) := rfl
 rw [e, vMu, Nat.min_eq_left (by omega), Int.fdiv_eq_ediv_of_nonneg _ (Int.le_of_lt (Int.pow_pos (by decide)))]
theorem zD3 (x : Int) : shr .i64 x 16 = x / 65536 := zWs x 16 (by decide)
theorem qTk (x : Int) : shr .i64 x 32 = x / 4294967296 := zWs x 32 (by decide)
theorem yOn (x : Int) : shr .i64 x 48 = x / 281474976710656 := zWs x 48 (by decide)
theorem yU0 (x : Int) : shr .i64 x 0 = x := (zWs x 0 (by decide)).trans (Int.ediv_one x)
theorem zEw (x : Int) : qV .i64 x 65535 = x % 65536 := yOm 16 (by decide) x
theorem qPx (m : Nat) (hm : m ≤ 62) {x y : Int} (hx : 0 ≤ x) (hy : 0 ≤ y ∧ y < 2 ^ m) (hs : x * 2 ^ m + y < 9223372036854775808) : bor .i64 (x * 2 ^ m) y = x * 2 ^ m + y := by
 obtain ⟨a, rfl⟩ := Int.eq_ofNat_of_zero_le hx
 obtain ⟨b, rfl⟩ := Int.eq_ofNat_of_zero_le hy.1
 have hp : (2 : Int) ^ m = ((2 ^ m : Nat) : Int) := (Int.natCast_pow 2 m).symm
 rw [hp] at hs hy ⊢
 have e1 : (a : Int) * ((2 ^ m : Nat) : Int) = ((a * 2 ^ m : Nat) : Int) := (Int.natCast_mul a (2 ^ m)).symm
 rw [e1] at hs ⊢
 have hb : b < 2 ^ m := by omega
 unfold bor zE7
 have h63 : IntKind.i64.bits = 64 := rfl
 have e2 : (BitVec.ofInt IntKind.i64.bits ((a * 2 ^ m : Nat) : Int) ||| BitVec.ofInt IntKind.i64.bits (b : Int)).toNat = a * 2 ^ m + b := by
  rw [BitVec.toNat_or, BitVec.ofInt_natCast, BitVec.ofInt_natCast, BitVec.toNat_ofNat, BitVec.toNat_ofNat, h63, Nat.mod_eq_of_lt (by have : (2 : Nat) ^ 64 = 18446744073709551616 := rfl; omega), Nat.mod_eq_of_lt (by have : (2 : Nat) ^ 64 = 18446744073709551616 := rfl; omega)]
  have := Nat.shiftLeft_add_eq_or_of_lt hb a
  rw [Nat.shiftLeft_eq] at this
  exact this.symm
 rw [e2]
 exact zU (by omega) (by omega)
def V9 (l0 l1 l2 l3 l4 l5 l6 l7 l8 : Int) : Int := l0 + 65536 * (l1 + 65536 * (l2 + 65536 * (l3 + 65536 * (l4 + 65536 * (l5 + 65536 * (l6 + 65536 * (l7 + 65536 * l8)))))))
theorem vIj (l0 l1 l2 l3 l4 l5 l6 l7 l8 : Int) {c1 c2 c3 c4 c5 c6 c7 c8 : Int} (h1 : c1 = zA (l1 + shr .i64 l0 16)) (h2 : c2 = zA (l2 + shr .i64 c1 16)) (h3 : c3 = zA (l3 + shr .i64 c2 16)) (h4 : c4 = zA (l4 + shr .i64 c3 16)) (h5 : c5 = zA (l5 + shr .i64 c4 16)) (h6 : c6 = zA (l6 + shr .i64 c5 16)) (h7 : c7 = zA (l7 + shr .i64 c6 16)) (h8 : c8 = zA (l8 + shr .i64 c7 16)) :
  zH5 1000 [l0, l1, l2, l3, l4, l5, l6, l7, l8] = some [qV .i64 l0 65535, qV .i64 c1 65535, qV .i64 c2 65535, qV .i64 c3 65535, qV .i64 c4 65535, qV .i64 c5 65535, qV .i64 c6 65535, qV .i64 c7 65535, c8] := by
 subst h8; subst h7; subst h6; subst h5; subst h4; subst h3; subst h2; subst h1
 kernel_rfl
theorem qVc {l0 l1 l2 l3 l4 l5 l6 l7 l8 : Int} (g0 : 0 ≤ l0 ∧ l0 ≤ 1099511627776) (g1 : 0 ≤ l1 ∧ l1 ≤ 1099511627776) (g2 : 0 ≤ l2 ∧ l2 ≤ 1099511627776) (g3 : 0 ≤ l3 ∧ l3 ≤ 1099511627776) (g4 : 0 ≤ l4 ∧ l4 ≤ 1099511627776) (g5 : 0 ≤ l5 ∧ l5 ≤ 1099511627776) (g6 : 0 ≤ l6 ∧ l6 ≤ 1099511627776) (g7 : 0 ≤ l7 ∧ l7 ≤ 1099511627776) (g8 : 0 ≤ l8 ∧ l8 ≤ 1099511627776) : ∃ d0 d1 d2 d3 d4 d5 d6 d7 d8,
  zH5 1000 [l0, l1, l2, l3, l4, l5, l6, l7, l8] = some [d0, d1, d2, d3, d4, d5, d6, d7, d8] ∧ V9 d0 d1 d2 d3 d4 d5 d6 d7 d8 = V9 l0 l1 l2 l3 l4 l5 l6 l7 l8 ∧ (0 ≤ d0 ∧ d0 < 65536) ∧ (0 ≤ d1 ∧ d1 < 65536) ∧ (0 ≤ d2 ∧ d2 < 65536) ∧ (0 ≤ d3 ∧ d3 < 65536) ∧ (0 ≤ d4 ∧ d4 < 65536) ∧ (0 ≤ d5 ∧ d5 < 65536) ∧ (0 ≤ d6 ∧ d6 < 65536) ∧ (0 ≤ d7 ∧ d7 < 65536) ∧ 0 ≤ d8 := by
 obtain ⟨c1, hc1⟩ : ∃ c, c = l1 + l0 / 65536 := ⟨_, rfl⟩
 have b1 : 0 ≤ c1 ∧ c1 ≤ 2199023255552 := by omega
 have h1 : c1 = zA (l1 + shr .i64 l0 16) := by rw [zD3, ← hc1, zU (by omega) (by omega)]
 obtain ⟨c2, hc2⟩ : ∃ c, c = l2 + c1 / 65536 := ⟨_, rfl⟩
 have b2 : 0 ≤ c2 ∧ c2 ≤ 2199023255552 := by omega
 have h2 : c2 = zA (l2 + shr .i64 c1 16) := by rw [zD3, ← hc2, zU (by omega) (by omega)]
 obtain ⟨c3, hc3⟩ : ∃ c, c = l3 + c2 / 65536 := ⟨_, rfl⟩
 have b3 : 0 ≤ c3 ∧ c3 ≤ 2199023255552 := by omega
 have h3 : c3 = zA (l3 + shr .i64 c2 16) := by rw [zD3, ← hc3, zU (by omega) (by omega)]
 obtain ⟨c4, hc4⟩ : ∃ c, c = l4 + c3 / 65536 := ⟨_, rfl⟩
 have b4 : 0 ≤ c4 ∧ c4 ≤ 2199023255552 := by omega
 have h4 : c4 = zA (l4 + shr .i64 c3 16) := by rw [zD3, ← hc4, zU (by omega) (by omega)]
 obtain ⟨c5, hc5⟩ : ∃ c, c = l5 + c4 / 65536 := ⟨_, rfl⟩
 have b5 : 0 ≤ c5 ∧ c5 ≤ 2199023255552 := by omega
 have h5 : c5 = zA (l5 + shr .i64 c4 16) := by rw [zD3, ← hc5, zU (by omega) (by omega)]
 obtain ⟨c6, hc6⟩ : ∃ c, c = l6 + c5 / 65536 := ⟨_, rfl⟩
 have b6 : 0 ≤ c6 ∧ c6 ≤ 2199023255552 := by omega
 have h6 : c6 = zA (l6 + shr .i64 c5 16) := by rw [zD3, ← hc6, zU (by omega) (by omega)]
 obtain ⟨c7, hc7⟩ : ∃ c, c = l7 + c6 / 65536 := ⟨_, rfl⟩
 have b7 : 0 ≤ c7 ∧ c7 ≤ 2199023255552 := by omega
 have h7 : c7 = zA (l7 + shr .i64 c6 16) := by rw [zD3, ← hc7, zU (by omega) (by omega)]
 obtain ⟨c8, hc8⟩ : ∃ c, c = l8 + c7 / 65536 := ⟨_, rfl⟩
 have b8 : 0 ≤ c8 ∧ c8 ≤ 2199023255552 := by omega
 have h8 : c8 = zA (l8 + shr .i64 c7 16) := by rw [zD3, ← hc8, zU (by omega) (by omega)]
 have run := vIj l0 l1 l2 l3 l4 l5 l6 l7 l8 h1 h2 h3 h4 h5 h6 h7 h8
 simp only [zEw] at run
 refine ⟨_, _, _, _, _, _, _, _, _, run, ?_, ⟨Int.emod_nonneg _ (by decide), Int.emod_lt_of_pos _ (by decide)⟩, ⟨Int.emod_nonneg _ (by decide), Int.emod_lt_of_pos _ (by decide)⟩, ⟨Int.emod_nonneg _ (by decide), Int.emod_lt_of_pos _ (by decide)⟩, ⟨Int.emod_nonneg _ (by decide), Int.emod_lt_of_pos _ (by decide)⟩, ⟨Int.emod_nonneg _ (by decide), Int.emod_lt_of_pos _ (by decide)⟩, ⟨Int.emod_nonneg _ (by decide), Int.emod_lt_of_pos _ (by decide)⟩, ⟨Int.emod_nonneg _ (by decide), Int.emod_lt_of_pos _ (by decide)⟩, ⟨Int.emod_nonneg _ (by decide), Int.emod_lt_of_pos _ (by decide)⟩, b8.1⟩
 unfold V9
 clear run h1 h2 h3 h4 h5 h6 h7 h8
 omega
theorem vD5 (l0 l1 l2 l3 l4 l5 l6 l7 l8 n : Int) : zVs 1000 [l0, l1, l2, l3, l4, l5, l6, l7, l8] n = zH5 1000 [zA (l0 * n), zA (l1 * n), zA (l2 * n), zA (l3 * n), zA (l4 * n), zA (l5 * n), zA (l6 * n), zA (l7 * n), zA (l8 * n)] := by
 have e : zV3 1000 1000 n 0 [l0, l1, l2, l3, l4, l5, l6, l7, l8] = some [zA (l0 * n), zA (l1 * n), zA (l2 * n), zA (l3 * n), zA (l4 * n), zA (l5 * n), zA (l6 * n), zA (l7 * n), zA (l8 * n)] := by kernel_rfl
 unfold zVs
 rw [e]
 simp only [vMr]
 cases zH5 1000 [zA (l0 * n), zA (l1 * n), zA (l2 * n), zA (l3 * n), zA (l4 * n), zA (l5 * n), zA (l6 * n), zA (l7 * n), zA (l8 * n)] <;> rfl
theorem zGy (x W n : Int) : (x + 65536 * W) * n = x * n + 65536 * (W * n) := by rw [Int.add_mul, Int.mul_assoc]
theorem yPd (l0 l1 l2 l3 l4 l5 l6 l7 l8 n : Int) : V9 l0 l1 l2 l3 l4 l5 l6 l7 l8 * n = V9 (l0 * n) (l1 * n) (l2 * n) (l3 * n) (l4 * n) (l5 * n) (l6 * n) (l7 * n) (l8 * n) := by
 unfold V9
 rw [zGy, zGy, zGy, zGy, zGy, zGy, zGy, zGy]
theorem yT2 (l0 l1 l2 l3 l4 l5 l6 l7 l8 : Int) {x0 x1 x2 x3 x4 x5 x6 x7 x8 r0 r1 r2 r3 r4 r5 r6 r7 r8 r9 : Int} (h8 : x8 = zA (shl .i64 r9 16 + l8)) (h7 : x7 = zA (shl .i64 r8 16 + l7)) (h6 : x6 = zA (shl .i64 r7 16 + l6)) (h5 : x5 = zA (shl .i64 r6 16 + l5)) (h4 : x4 = zA (shl .i64 r5 16 + l4)) (h3 : x3 = zA (shl .i64 r4 16 + l3)) (h2 : x2 = zA (shl .i64 r3 16 + l2)) (h1 : x1 = zA (shl .i64 r2 16 + l1)) (h0 : x0 = zA (shl .i64 r1 16 + l0)) (h9 : r9 = 0) (k8 : r8 = Int.tmod x8 10000) (k7 : r7 = Int.tmod x7 10000) (k6 : r6 = Int.tmod x6 10000) (k5 : r5 = Int.tmod x5 10000) (k4 : r4 = Int.tmod x4 10000) (k3 : r3 = Int.tmod x3 10000) (k2 : r2 = Int.tmod x2 10000) (k1 : r1 = Int.tmod x1 10000) (k0 : r0 = Int.tmod x0 10000) :
  zR6 1000 1000 10000 0 8 [l0, l1, l2, l3, l4, l5, l6, l7, l8] = some [zA (Int.tdiv x0 10000), zA (Int.tdiv x1 10000), zA (Int.tdiv x2 10000), zA (Int.tdiv x3 10000), zA (Int.tdiv x4 10000), zA (Int.tdiv x5 10000), zA (Int.tdiv x6 10000), zA (Int.tdiv x7 10000), zA (Int.tdiv x8 10000)] := by
 subst k0; subst h0; subst k1; subst h1; subst k2; subst h2; subst k3; subst h3; subst k4; subst h4; subst k5; subst h5; subst k6; subst h6; subst k7; subst h7; subst k8; subst h8; subst h9
 kernel_rfl
theorem zFp (x : Int) : shl .i64 x 16 = zA (x * 65536) := rfl
theorem vIv (q0 q1 q2 q3 : Int) (h : decide (q3 ≥ 32768) = false) : ((zMb 1000 1000 4 [q0, q1, q2, q3, 0, 0, 0, 0, 0]).bind fun z1 =>
 match z1 with
 | .inl z2 => bif zE 3 z2.length then (bif decide ((z2.getD 3 0) ≥ 32768) then some ((0 : Int), false)
   else bif zE 3 z2.length then (bif zE 2 z2.length then (bif zE 1 z2.length then (bif zE 0 z2.length then some ((bor .i64 (bor .i64 (bor .i64 (shl .i64 (z2.getD 3 0) 48) (shl .i64 (z2.getD 2 0) 32)) (shl .i64 (z2.getD 1 0) 16)) (z2.getD 0 0)), true)
      else none)
     else none)
    else none)
   else none)
  else none
 | .inr z3 => some (z3.1, z3.2)) = some (bor .i64 (bor .i64 (bor .i64 (shl .i64 q3 48) (shl .i64 q2 32)) (shl .i64 q1 16)) q0, true) := by
  have e : zMb 1000 1000 4 [q0, q1, q2, q3, 0, 0, 0, 0, 0] = some (.inl [q0, q1, q2, q3, 0, 0, 0, 0, 0]) := by kernel_rfl
  rw [e]
  simp only [vMr]
  have e3 : ([q0, q1, q2, q3, 0, 0, 0, 0, 0] : List Int).getD 3 0 = q3 := rfl
  rw [e3, h]
  rfl
theorem vA8 {q0 q1 q2 q3 : Int} (h0 : 0 ≤ q0 ∧ q0 < 65536) (h1 : 0 ≤ q1 ∧ q1 < 65536) (h2 : 0 ≤ q2 ∧ q2 < 65536) (h3 : 0 ≤ q3 ∧ q3 < 32768) :
  bor .i64 (bor .i64 (bor .i64 (shl .i64 q3 48) (shl .i64 q2 32)) (shl .i64 q1 16)) q0 = q0 + 65536 * (q1 + 65536 * (q2 + 65536 * q3)) := by
 have s3 : shl .i64 q3 48 = zA (q3 * 281474976710656) := rfl
 have s2 : shl .i64 q2 32 = zA (q2 * 4294967296) := rfl
 have s1 : shl .i64 q1 16 = zA (q1 * 65536) := rfl
 rw [s3, s2, s1, zU (x := q3 * 281474976710656) (by omega) (by omega), zU (x := q2 * 4294967296) (by omega) (by omega), zU (x := q1 * 65536) (by omega) (by omega)]
 have b1 := qPx 48 (by decide) (x := q3) (y := q2 * 4294967296) h3.1 (by have : (2 : Int) ^ 48 = 281474976710656 := rfl; rw [this]; omega) (by have : (2 : Int) ^ 48 = 281474976710656 := rfl; rw [this]; omega)
 have p48 : (2 : Int) ^ 48 = 281474976710656 := rfl
 rw [p48] at b1
 rw [b1]
 have e1 : q3 * 281474976710656 + q2 * 4294967296 = (q3 * 65536 + q2) * 4294967296 := by omega
 have b2 := qPx 32 (by decide) (x := q3 * 65536 + q2) (y := q1 * 65536) (by omega) (by have : (2 : Int) ^ 32 = 4294967296 := rfl; rw [this]; omega) (by have : (2 : Int) ^ 32 = 4294967296 := rfl; rw [this]; omega)
 have p32 : (2 : Int) ^ 32 = 4294967296 := rfl
 rw [p32] at b2
 rw [e1, b2]
 have e2 : (q3 * 65536 + q2) * 4294967296 + q1 * 65536 = ((q3 * 65536 + q2) * 65536 + q1) * 65536 := by omega
 have b3 := qPx 16 (by decide) (x := (q3 * 65536 + q2) * 65536 + q1) (y := q0) (by omega) (by have : (2 : Int) ^ 16 = 65536 := rfl; rw [this]; omega) (by have : (2 : Int) ^ 16 = 65536 := rfl; rw [this]; omega)
 have p16 : (2 : Int) ^ 16 = 65536 := rfl
 rw [p16] at b3
 rw [e2, b3]
 omega
theorem yQv {l0 l1 l2 l3 l4 l5 l6 l7 l8 : Int} (g0 : 0 ≤ l0 ∧ l0 < 65536) (g1 : 0 ≤ l1 ∧ l1 < 65536) (g2 : 0 ≤ l2 ∧ l2 < 65536) (g3 : 0 ≤ l3 ∧ l3 < 65536) (g4 : 0 ≤ l4 ∧ l4 < 65536) (g5 : 0 ≤ l5 ∧ l5 < 65536) (g6 : 0 ≤ l6 ∧ l6 < 65536) (g7 : 0 ≤ l7 ∧ l7 < 65536) (g8 : 0 ≤ l8 ∧ l8 ≤ 0) (hV : V9 l0 l1 l2 l3 l4 l5 l6 l7 l8 / 10000 ≤ 1152921504606846976) : qAk 1000 [l0, l1, l2, l3, l4, l5, l6, l7, l8] 10000 = some (V9 l0 l1 l2 l3 l4 l5 l6 l7 l8 / 10000, true) := by
  obtain ⟨r9, h9⟩ : ∃ r : Int, r = 0 := ⟨_, rfl⟩
  obtain ⟨x8, hx8⟩ : ∃ x, x = r9 * 65536 + l8 := ⟨_, rfl⟩
  obtain ⟨r8, hr8⟩ : ∃ r, r = x8 % 10000 := ⟨_, rfl⟩
  obtain ⟨q8, hq8⟩ : ∃ q, q = x8 / 10000 := ⟨_, rfl⟩
  have v8 : x8 = 10000 * q8 + r8 ∧ 0 ≤ r8 ∧ r8 < 10000 ∧ 0 ≤ x8 ∧ x8 < 655360000 := by omega
  have h8 : x8 = zA (shl .i64 r9 16 + l8) := by rw [zFp, zU (x := r9 * 65536) (by omega) (by omega), ← hx8, zU (by omega) (by omega)]
  have k8 : r8 = Int.tmod x8 10000 := by rw [Int.tmod_eq_emod_of_nonneg (by omega)]; exact hr8
  have t8 : zA (Int.tdiv x8 10000) = q8 := by rw [Int.tdiv_eq_ediv_of_nonneg (by omega), ← hq8, zU (by omega) (by omega)]
  obtain ⟨x7, hx7⟩ : ∃ x, x = r8 * 65536 + l7 := ⟨_, rfl⟩
  obtain ⟨r7, hr7⟩ : ∃ r, r = x7 % 10000 := ⟨_, rfl⟩
  obtain ⟨q7, hq7⟩ : ∃ q, q = x7 / 10000 := ⟨_, rfl⟩
  have v7 : x7 = 10000 * q7 + r7 ∧ 0 ≤ r7 ∧ r7 < 10000 ∧ 0 ≤ x7 ∧ x7 < 655360000 := by omega
  have h7 : x7 = zA (shl .i64 r8 16 + l7) := by rw [zFp, zU (x := r8 * 65536) (by omega) (by omega), ← hx7, zU (by omega) (by omega)]
  have k7 : r7 = Int.tmod x7 10000 := by rw [Int.tmod_eq_emod_of_nonneg (by omega)]; exact hr7
  have t7 : zA (Int.tdiv x7 10000) = q7 := by rw [Int.tdiv_eq_ediv_of_nonneg (by omega), ← hq7, zU (by omega) (by omega)]
  obtain ⟨x6, hx6⟩ : ∃ x, x = r7 * 65536 + l6 := ⟨_, rfl⟩
  obtain ⟨r6, hr6⟩ : ∃ r, r = x6 % 10000 := ⟨_, rfl⟩
  obtain ⟨q6, hq6⟩ : ∃ q, q = x6 / 10000 := ⟨_, rfl⟩
  have v6 : x6 = 10000 * q6 + r6 ∧ 0 ≤ r6 ∧ r6 < 10000 ∧ 0 ≤ x6 ∧ x6 < 655360000 := by omega
  have h6 : x6 = zA (shl .i64 r7 16 + l6) := by rw [zFp, zU (x := r7 * 65536) (by omega) (by omega), ← hx6, zU (by omega) (by omega)]
  have k6 : r6 = Int.tmod x6 10000 := by rw [Int.tmod_eq_emod_of_nonneg (by omega)]; exact hr6
  have t6 : zA (Int.tdiv x6 10000) = q6 := by rw [Int.tdiv_eq_ediv_of_nonneg (by omega), ← hq6, zU (by omega) (by omega)]
  obtain ⟨x5, hx5⟩ : ∃ x, x = r6 * 65536 + l5 := ⟨_, rfl⟩
  obtain ⟨r5, hr5⟩ : ∃ r, r = x5 % 10000 := ⟨_, rfl⟩
  obtain ⟨q5, hq5⟩ : ∃ q, q = x5 / 10000 := ⟨_, rfl⟩
  have v5 : x5 = 10000 * q5 + r5 ∧ 0 ≤ r5 ∧ r5 < 10000 ∧ 0 ≤ x5 ∧ x5 < 655360000 := by omega
  have h5 : x5 = zA (shl .i64 r6 16 + l5) := by rw [zFp, zU (x := r6 * 65536) (by omega) (by omega), ← hx5, zU (by omega) (by omega)]
  have k5 : r5 = Int.tmod x5 10000 := by rw [Int.tmod_eq_emod_of_nonneg (by omega)]; exact hr5
  have t5 : zA (Int.tdiv x5 10000) = q5 := by rw [Int.tdiv_eq_ediv_of_nonneg (by omega), ← hq5, zU (by omega) (by omega)]
  obtain ⟨x4, hx4⟩ : ∃ x, x = r5 * 65536 + l4 := ⟨_, rfl⟩
  obtain ⟨r4, hr4⟩ : ∃ r, r = x4 % 10000 := ⟨_, rfl⟩
  obtain ⟨q4, hq4⟩ : ∃ q, q = x4 / 10000 := ⟨_, rfl⟩
  have v4 : x4 = 10000 * q4 + r4 ∧ 0 ≤ r4 ∧ r4 < 10000 ∧ 0 ≤ x4 ∧ x4 < 655360000 := by omega
  have h4 : x4 = zA (shl .i64 r5 16 + l4) := by rw [zFp, zU (x := r5 * 65536) (by omega) (by omega), ← hx4, zU (by omega) (by omega)]
  have k4 : r4 = Int.tmod x4 10000 := by rw [Int.tmod_eq_emod_of_nonneg (by omega)]; exact hr4
  have t4 : zA (Int.tdiv x4 10000) = q4 := by rw [Int.tdiv_eq_ediv_of_nonneg (by omega), ← hq4, zU (by omega) (by omega)]
  obtain ⟨x3, hx3⟩ : ∃ x, x = r4 * 65536 + l3 := ⟨_, rfl⟩
  obtain ⟨r3, hr3⟩ : ∃ r, r = x3 % 10000 := ⟨_, rfl⟩
  obtain ⟨q3, hq3⟩ : ∃ q, q = x3 / 10000 := ⟨_, rfl⟩
  have v3 : x3 = 10000 * q3 + r3 ∧ 0 ≤ r3 ∧ r3 < 10000 ∧ 0 ≤ x3 ∧ x3 < 655360000 := by omega
  have h3 : x3 = zA (shl .i64 r4 16 + l3) := by rw [zFp, zU (x := r4 * 65536) (by omega) (by omega), ← hx3, zU (by omega) (by omega)]
  have k3 : r3 = Int.tmod x3 10000 := by rw [Int.tmod_eq_emod_of_nonneg (by omega)]; exact hr3
  have t3 : zA (Int.tdiv x3 10000) = q3 := by rw [Int.tdiv_eq_ediv_of_nonneg (by omega), ← hq3, zU (by omega) (by omega)]
  obtain ⟨x2, hx2⟩ : ∃ x, x = r3 * 65536 + l2 := ⟨_, rfl⟩
  obtain ⟨r2, hr2⟩ : ∃ r, r = x2 % 10000 := ⟨_, rfl⟩
  obtain ⟨q2, hq2⟩ : ∃ q, q = x2 / 10000 := ⟨_, rfl⟩
  have v2 : x2 = 10000 * q2 + r2 ∧ 0 ≤ r2 ∧ r2 < 10000 ∧ 0 ≤ x2 ∧ x2 < 655360000 := by omega
  have h2 : x2 = zA (shl .i64 r3 16 + l2) := by rw [zFp, zU (x := r3 * 65536) (by omega) (by omega), ← hx2, zU (by omega) (by omega)]
  have k2 : r2 = Int.tmod x2 10000 := by rw [Int.tmod_eq_emod_of_nonneg (by omega)]; exact hr2
  have t2 : zA (Int.tdiv x2 10000) = q2 := by rw [Int.tdiv_eq_ediv_of_nonneg (by omega), ← hq2, zU (by omega) (by omega)]
  obtain ⟨x1, hx1⟩ : ∃ x, x = r2 * 65536 + l1 := ⟨_, rfl⟩
  obtain ⟨r1, hr1⟩ : ∃ r, r = x1 % 10000 := ⟨_, rfl⟩
  obtain ⟨q1, hq1⟩ : ∃ q, q = x1 / 10000 := ⟨_, rfl⟩
  have v1 : x1 = 10000 * q1 + r1 ∧ 0 ≤ r1 ∧ r1 < 10000 ∧ 0 ≤ x1 ∧ x1 < 655360000 := by omega
  have h1 : x1 = zA (shl .i64 r2 16 + l1) := by rw [zFp, zU (x := r2 * 65536) (by omega) (by omega), ← hx1, zU (by omega) (by omega)]
  have k1 : r1 = Int.tmod x1 10000 := by rw [Int.tmod_eq_emod_of_nonneg (by omega)]; exact hr1
  have t1 : zA (Int.tdiv x1 10000) = q1 := by rw [Int.tdiv_eq_ediv_of_nonneg (by omega), ← hq1, zU (by omega) (by omega)]
  obtain ⟨x0, hx0⟩ : ∃ x, x = r1 * 65536 + l0 := ⟨_, rfl⟩
  obtain ⟨r0, hr0⟩ : ∃ r, r = x0 % 10000 := ⟨_, rfl⟩
  obtain ⟨q0, hq0⟩ : ∃ q, q = x0 / 10000 := ⟨_, rfl⟩
  have v0 : x0 = 10000 * q0 + r0 ∧ 0 ≤ r0 ∧ r0 < 10000 ∧ 0 ≤ x0 ∧ x0 < 655360000 := by omega
  have h0 : x0 = zA (shl .i64 r1 16 + l0) := by rw [zFp, zU (x := r1 * 65536) (by omega) (by omega), ← hx0, zU (by omega) (by omega)]
  have k0 : r0 = Int.tmod x0 10000 := by rw [Int.tmod_eq_emod_of_nonneg (by omega)]; exact hr0
  have t0 : zA (Int.tdiv x0 10000) = q0 := by rw [Int.tdiv_eq_ediv_of_nonneg (by omega), ← hq0, zU (by omega) (by omega)]
  have run := yT2 l0 l1 l2 l3 l4 l5 l6 l7 l8 h8 h7 h6 h5 h4 h3 h2 h1 h0 h9 k8 k7 k6 k5 k4 k3 k2 k1 k0
  rw [t0, t1, t2, t3, t4, t5, t6, t7, t8] at run
  clear h0 k0 t0 h1 k1 t1 h2 k2 t2 h3 k3 t3 h4 k4 t4 h5 k5 t5 h6 k6 t6 h7 k7 t7 h8 k8 t8
  have hv : 10000 * V9 q0 q1 q2 q3 q4 q5 q6 q7 q8 + r0 = V9 l0 l1 l2 l3 l4 l5 l6 l7 l8 := by unfold V9; omega
  have hq : V9 q0 q1 q2 q3 q4 q5 q6 q7 q8 = V9 l0 l1 l2 l3 l4 l5 l6 l7 l8 / 10000 := by omega
  rw [← hq] at hV ⊢
  unfold V9 at hV
  have z8 : q8 = 0 := by omega
  have z7 : q7 = 0 := by omega
  have z6 : q6 = 0 := by omega
  have z5 : q5 = 0 := by omega
  have z4 : q4 = 0 := by omega
  have z3 : q3 < 32768 := by omega
  rw [z4, z5, z6, z7, z8] at run
  have eU : qAk 1000 [l0, l1, l2, l3, l4, l5, l6, l7, l8] 10000 = (zR6 1000 1000 10000 0 8 [l0, l1, l2, l3, l4, l5, l6, l7, l8]).bind fun z => (zMb 1000 1000 4 z).bind fun z1 =>
   match z1 with
   | .inl z2 => bif zE 3 z2.length then (bif decide ((z2.getD 3 0) ≥ 32768) then some ((0 : Int), false)
     else bif zE 3 z2.length then (bif zE 2 z2.length then (bif zE 1 z2.length then (bif zE 0 z2.length then some ((bor .i64 (bor .i64 (bor .i64 (shl .i64 (z2.getD 3 0) 48) (shl .i64 (z2.getD 2 0) 32)) (shl .i64 (z2.getD 1 0) 16)) (z2.getD 0 0)), true)
        else none)
       else none)
      else none)
     else none)
    else none
   | .inr z3 => some (z3.1, z3.2) := rfl
  rw [eU, run]
  simp only [vMr]
  refine (vIv q0 q1 q2 q3 (vMn (by omega))).trans ?_
  rw [vA8 ⟨by omega, by omega⟩ ⟨by omega, by omega⟩ ⟨by omega, by omega⟩ ⟨by omega, z3⟩]
  unfold V9
  rw [z4, z5, z6, z7, z8]
  exact congrArg (fun z => some (z, true)) (by clear hV hv hq run eU; omega)
theorem yYv (a b x0 x1 x2 x3 : Int) : zTu 1000 1000 b 0 [x0, x1, x2, x3] [0, 0, 0, 0, 0, 0, 0, 0, 0] = some [zA (0 + zA (x0 * qV .i64 (shr .i64 b 0) 65535)), zA (zA (0 + zA (x0 * qV .i64 (shr .i64 b 16) 65535)) + zA (x1 * qV .i64 (shr .i64 b 0) 65535)), zA (zA (zA (0 + zA (x0 * qV .i64 (shr .i64 b 32) 65535)) + zA (x1 * qV .i64 (shr .i64 b 16) 65535)) + zA (x2 * qV .i64 (shr .i64 b 0) 65535)), zA (zA (zA (zA (0 + zA (x0 * qV .i64 (shr .i64 b 48) 65535)) + zA (x1 * qV .i64 (shr .i64 b 32) 65535)) + zA (x2 * qV .i64 (shr .i64 b 16) 65535)) + zA (x3 * qV .i64 (shr .i64 b 0) 65535)), zA (zA (zA (0 + zA (x1 * qV .i64 (shr .i64 b 48) 65535)) + zA (x2 * qV .i64 (shr .i64 b 32) 65535)) + zA (x3 * qV .i64 (shr .i64 b 16) 65535)), zA (zA (0 + zA (x2 * qV .i64 (shr .i64 b 48) 65535)) + zA (x3 * qV .i64 (shr .i64 b 32) 65535)), zA (0 + zA (x3 * qV .i64 (shr .i64 b 48) 65535)), 0, 0] := by kernel_rfl
theorem yQ0 {x0 x1 x2 x3 y0 y1 y2 y3 : Int} : (x0 + 65536 * x1 + 4294967296 * x2 + 281474976710656 * x3) * (y0 + 65536 * y1 + 4294967296 * y2 + 281474976710656 * y3) = V9 (x0 * y0) (x0 * y1+x1 * y0) (x0 * y2+x1 * y1+x2 * y0) (x0 * y3+x1 * y2+x2 * y1+x3 * y0) (x1 * y3+x2 * y2+x3 * y1) (x2 * y3+x3 * y2) (x3 * y3) 0 0 := by
 have row : ∀ x : Int, x * (y0 + 65536 * y1 + 4294967296 * y2 + 281474976710656 * y3) = x * y0 + 65536 * (x * y1) + 4294967296 * (x * y2) + 281474976710656 * (x * y3) := fun x => by
  rw [Int.mul_add, Int.mul_add, Int.mul_add, Int.mul_left_comm x 65536, Int.mul_left_comm x 4294967296, Int.mul_left_comm x 281474976710656]
 rw [Int.add_mul, Int.add_mul, Int.add_mul, Int.mul_assoc, Int.mul_assoc, Int.mul_assoc, row, row, row, row]
 unfold V9
 generalize x0 * y0 = z00
 generalize x0 * y1 = z01
 generalize x0 * y2 = z02
 generalize x0 * y3 = z03
 generalize x1 * y0 = z10
 generalize x1 * y1 = z11
 generalize x1 * y2 = z12
 generalize x1 * y3 = z13
 generalize x2 * y0 = z20
 generalize x2 * y1 = z21
 generalize x2 * y2 = z22
 generalize x2 * y3 = z23
 generalize x3 * y0 = z30
 generalize x3 * y1 = z31
 generalize x3 * y2 = z32
 generalize x3 * y3 = z33
 omega
theorem yQf {a b : Int} (ha : 0 ≤ a ∧ a ≤ 1048576) (hb : 0 ≤ b ∧ b ≤ 1099511627776) : ∃ d0 d1 d2 d3 d4 d5 d6 d7 d8,
  zWi 1000 a b = some [d0, d1, d2, d3, d4, d5, d6, d7, d8] ∧ V9 d0 d1 d2 d3 d4 d5 d6 d7 d8 = a * b ∧ (0 ≤ d0 ∧ d0 < 65536) ∧ (0 ≤ d1 ∧ d1 < 65536) ∧ (0 ≤ d2 ∧ d2 < 65536) ∧ (0 ≤ d3 ∧ d3 < 65536) ∧ (0 ≤ d4 ∧ d4 < 65536) ∧ (0 ≤ d5 ∧ d5 < 65536) ∧ (0 ≤ d6 ∧ d6 < 65536) ∧ (0 ≤ d7 ∧ d7 < 65536) ∧ d8 = 0 := by
 obtain ⟨x0, hx0⟩ : ∃ z, z = a % 65536 := ⟨_, rfl⟩
 have bx0 : 0 ≤ x0 ∧ x0 ≤ 65535 := by omega
 obtain ⟨x1, hx1⟩ : ∃ z, z = a / 65536 % 65536 := ⟨_, rfl⟩
 have bx1 : 0 ≤ x1 ∧ x1 ≤ 65535 := by omega
 obtain ⟨x2, hx2⟩ : ∃ z, z = a / 4294967296 % 65536 := ⟨_, rfl⟩
 have bx2 : 0 ≤ x2 ∧ x2 ≤ 65535 := by omega
 obtain ⟨x3, hx3⟩ : ∃ z, z = a / 281474976710656 % 65536 := ⟨_, rfl⟩
 have bx3 : 0 ≤ x3 ∧ x3 ≤ 65535 := by omega
 obtain ⟨y0, hy0⟩ : ∃ z, z = b % 65536 := ⟨_, rfl⟩
 have by0 : 0 ≤ y0 ∧ y0 ≤ 65535 := by omega
 obtain ⟨y1, hy1⟩ : ∃ z, z = b / 65536 % 65536 := ⟨_, rfl⟩
 have by1 : 0 ≤ y1 ∧ y1 ≤ 65535 := by omega
 obtain ⟨y2, hy2⟩ : ∃ z, z = b / 4294967296 % 65536 := ⟨_, rfl⟩
 have by2 : 0 ≤ y2 ∧ y2 ≤ 65535 := by omega
 obtain ⟨y3, hy3⟩ : ∃ z, z = b / 281474976710656 % 65536 := ⟨_, rfl⟩
 have by3 : 0 ≤ y3 ∧ y3 ≤ 65535 := by omega
 have ea : a = x0 + 65536 * x1 + 4294967296 * x2 + 281474976710656 * x3 := by omega
 have eb : b = y0 + 65536 * y1 + 4294967296 * y2 + 281474976710656 * y3 := by omega
 have dg : zWm 1000 a = some [x0, x1, x2, x3] := by
  unfold zWm
  rw [zD3, qTk, yOn, zEw, zEw, zEw, zEw, ← hx0, ← hx1, ← hx2, ← hx3]
 have run := yYv a b x0 x1 x2 x3
 rw [yU0, zD3, qTk, yOn, zEw, zEw, zEw, zEw, ← hy0, ← hy1, ← hy2, ← hy3] at run
 have hab := yQ0 (x0 := x0) (x1 := x1) (x2 := x2) (x3 := x3) (y0 := y0) (y1 := y1) (y2 := y2) (y3 := y3)
 rw [← ea, ← eb] at hab
 have hm := vD ha.1 ha.2 hb.1 hb.2
 have m00 := vD bx0.1 bx0.2 by0.1 by0.2
 have m01 := vD bx0.1 bx0.2 by1.1 by1.2
 have m02 := vD bx0.1 bx0.2 by2.1 by2.2
 have m03 := vD bx0.1 bx0.2 by3.1 by3.2
 have m10 := vD bx1.1 bx1.2 by0.1 by0.2
 have m11 := vD bx1.1 bx1.2 by1.1 by1.2
 have m12 := vD bx1.1 bx1.2 by2.1 by2.2
 have m13 := vD bx1.1 bx1.2 by3.1 by3.2
 have m20 := vD bx2.1 bx2.2 by0.1 by0.2
 have m21 := vD bx2.1 bx2.2 by1.1 by1.2
 have m22 := vD bx2.1 bx2.2 by2.1 by2.2
 have m23 := vD bx2.1 bx2.2 by3.1 by3.2
 have m30 := vD bx3.1 bx3.2 by0.1 by0.2
 have m31 := vD bx3.1 bx3.2 by1.1 by1.2
 have m32 := vD bx3.1 bx3.2 by2.1 by2.2
 have m33 := vD bx3.1 bx3.2 by3.1 by3.2
 generalize x0 * y0 = z00 at *
 generalize x0 * y1 = z01 at *
 generalize x0 * y2 = z02 at *
 generalize x0 * y3 = z03 at *
 generalize x1 * y0 = z10 at *
 generalize x1 * y1 = z11 at *
 generalize x1 * y2 = z12 at *
 generalize x1 * y3 = z13 at *
 generalize x2 * y0 = z20 at *
 generalize x2 * y1 = z21 at *
 generalize x2 * y2 = z22 at *
 generalize x2 * y3 = z23 at *
 generalize x3 * y0 = z30 at *
 generalize x3 * y1 = z31 at *
 generalize x3 * y2 = z32 at *
 generalize x3 * y3 = z33 at *
 rw [zU (x := z00) (by omega) (by omega)] at run
 rw [zU (x := z01) (by omega) (by omega)] at run
 rw [zU (x := z02) (by omega) (by omega)] at run
 rw [zU (x := z03) (by omega) (by omega)] at run
 rw [zU (x := z10) (by omega) (by omega)] at run
 rw [zU (x := z11) (by omega) (by omega)] at run
 rw [zU (x := z12) (by omega) (by omega)] at run
 rw [zU (x := z13) (by omega) (by omega)] at run
 rw [zU (x := z20) (by omega) (by omega)] at run
 rw [zU (x := z21) (by omega) (by omega)] at run
 rw [zU (x := z22) (by omega) (by omega)] at run
 rw [zU (x := z23) (by omega) (by omega)] at run
 rw [zU (x := z30) (by omega) (by omega)] at run
 rw [zU (x := z31) (by omega) (by omega)] at run
 rw [zU (x := z32) (by omega) (by omega)] at run
 rw [zU (x := z33) (by omega) (by omega)] at run
 rw [zU (x := 0 + z00) (by omega) (by omega)] at run
 rw [zU (x := 0 + z01) (by omega) (by omega)] at run
 rw [zU (x := 0 + z02) (by omega) (by omega)] at run
 rw [zU (x := 0 + z03) (by omega) (by omega)] at run
 rw [zU (x := 0 + z01 + z10) (by omega) (by omega)] at run
 rw [zU (x := 0 + z02 + z11) (by omega) (by omega)] at run
 rw [zU (x := 0 + z03 + z12) (by omega) (by omega)] at run
 rw [zU (x := 0 + z13) (by omega) (by omega)] at run
 rw [zU (x := 0 + z02 + z11 + z20) (by omega) (by omega)] at run
 rw [zU (x := 0 + z03 + z12 + z21) (by omega) (by omega)] at run
 rw [zU (x := 0 + z13 + z22) (by omega) (by omega)] at run
 rw [zU (x := 0 + z23) (by omega) (by omega)] at run
 rw [zU (x := 0 + z03 + z12 + z21 + z30) (by omega) (by omega)] at run
 rw [zU (x := 0 + z13 + z22 + z31) (by omega) (by omega)] at run
 rw [zU (x := 0 + z23 + z32) (by omega) (by omega)] at run
 rw [zU (x := 0 + z33) (by omega) (by omega)] at run
 obtain ⟨d0, d1, d2, d3, d4, d5, d6, d7, d8, c1, c2, n0, n1, n2, n3, n4, n5, n6, n7, n8⟩ := qVc (l0 := 0 + z00) (l1 := 0 + z01 + z10) (l2 := 0 + z02 + z11 + z20) (l3 := 0 + z03 + z12 + z21 + z30) (l4 := 0 + z13 + z22 + z31) (l5 := 0 + z23 + z32) (l6 := 0 + z33) (l7 := 0) (l8 := 0) (by omega) (by omega) (by omega) (by omega) (by omega) (by omega) (by omega) (by omega) (by omega)
 refine ⟨d0, d1, d2, d3, d4, d5, d6, d7, d8, ?_, ?_, n0, n1, n2, n3, n4, n5, n6, n7, ?_⟩
 ·unfold zWi
  rw [dg]
  simp only [vMr]
  rw [run]
  simp only [vMr]
  rw [c1]
  rfl
 ·rw [c2, hab]
  unfold V9
  omega
 ·have : V9 d0 d1 d2 d3 d4 d5 d6 d7 d8 = a * b := by
   rw [c2, hab]
   unfold V9
   omega
  unfold V9 at this
  omega
theorem yUh {p m c : Int} (hp : 0 ≤ p ∧ p ≤ 1048576) (hm : 0 ≤ m ∧ m ≤ 1099511627776) (hc : 0 ≤ c ∧ c ≤ 10000) : zTr 1000 p m c = some (zEz p m c, true) := by
 obtain ⟨d0, d1, d2, d3, d4, d5, d6, d7, d8, e1, e2, n0, n1, n2, n3, n4, n5, n6, n7, n8⟩ := yQf hp hm
 have hpm := vD hp.1 hp.2 hm.1 hm.2
 have hn : 0 ≤ 10000 - c ∧ 10000 - c ≤ 10000 := by omega
 have wn : zA (10000 - c) = 10000 - c := zU (by omega) (by omega)
 have hw := yEy hp hm hc
 unfold zEz at hw ⊢
 have hpn := vD hpm.1 hpm.2 hn.1 hn.2
 have eV := yPd d0 d1 d2 d3 d4 d5 d6 d7 d8 (10000 - c)
 rw [e2] at eV
 unfold zTr
 rw [vMn (show ¬ p < 0 by omega), vMn (show ¬ m < 0 by omega), vMn (show ¬ c < 0 by omega), vMn (show ¬ c > 10000 by omega), e1, wn]
 simp only [vMt, vMr]
 rw [vD5]
 generalize 10000 - c = n at *
 have u0 := vD n0.1 (show d0 ≤ 65535 by omega) hn.1 hn.2
 have u1 := vD n1.1 (show d1 ≤ 65535 by omega) hn.1 hn.2
 have u2 := vD n2.1 (show d2 ≤ 65535 by omega) hn.1 hn.2
 have u3 := vD n3.1 (show d3 ≤ 65535 by omega) hn.1 hn.2
 have u4 := vD n4.1 (show d4 ≤ 65535 by omega) hn.1 hn.2
 have u5 := vD n5.1 (show d5 ≤ 65535 by omega) hn.1 hn.2
 have u6 := vD n6.1 (show d6 ≤ 65535 by omega) hn.1 hn.2
 have u7 := vD n7.1 (show d7 ≤ 65535 by omega) hn.1 hn.2
 have u8 : 0 ≤ d8 * n ∧ d8 * n ≤ 0 := by rw [n8, Int.zero_mul]; omega
 generalize d0 * n = t0 at *
 generalize d1 * n = t1 at *
 generalize d2 * n = t2 at *
 generalize d3 * n = t3 at *
 generalize d4 * n = t4 at *
 generalize d5 * n = t5 at *
 generalize d6 * n = t6 at *
 generalize d7 * n = t7 at *
 generalize d8 * n = t8 at *
 rw [zU (x := t0) (by omega) (by omega), zU (x := t1) (by omega) (by omega), zU (x := t2) (by omega) (by omega), zU (x := t3) (by omega) (by omega), zU (x := t4) (by omega) (by omega), zU (x := t5) (by omega) (by omega), zU (x := t6) (by omega) (by omega), zU (x := t7) (by omega) (by omega), zU (x := t8) (by omega) (by omega)]
 obtain ⟨e0, e1, e2, e3, e4, e5, e6, e7, e8, f1, f2, k0, k1, k2, k3, k4, k5, k6, k7, k8⟩ := qVc (l0 := t0) (l1 := t1) (l2 := t2) (l3 := t3) (l4 := t4) (l5 := t5) (l6 := t6) (l7 := t7) (l8 := t8) (by omega) (by omega) (by omega) (by omega) (by omega) (by omega) (by omega) (by omega) (by omega)
 rw [f1]
 simp only [vMr]
 rw [← eV] at f2
 have z8 : e8 ≤ 0 := by unfold V9 at f2; omega
 rw [yQv k0 k1 k2 k3 k4 k5 k6 k7 ⟨k8, z8⟩ (by rw [f2]; exact hw.2), f2]
 rfl
theorem yE3 (x : Int) : qV .i64 x 4294967295 = x % 4294967296 := yOm 32 (by omega) x
theorem qRl (x : Int) : shr .i64 x 32 = x / 4294967296 := by
 show x.fdiv (2 ^ (min 32 64)) = _
 rw [Int.fdiv_eq_ediv_of_nonneg _ (by decide)]
 rfl
theorem vC9 (x : Int) : shl .i64 x 32 = zA (x * 4294967296) := rfl
theorem vJn (k : Nat) {h l n : Int} (hh : -4503599627370496 ≤ h ∧ h ≤ 4503599627370496) (hl : 0 ≤ l ∧ l < 4294967296) (hn : -9223372036854775808 ≤ n ∧ n < 9223372036854775808) :
  zTp k h l n = some ((h * 4294967296 + l + n) / 4294967296, (h * 4294967296 + l + n) % 4294967296) := by
 unfold zTp
 rw [yE3 n, qRl n, zU (x := h + n / 4294967296) (by omega) (by omega), zU (x := l + n % 4294967296) (by omega) (by omega), qRl, yE3, zU (by omega) (by omega)]
 congr 2
 ·omega
 ·omega
def zW0 (S : Int) : Int × Bool := if S / 4294967296 < -2147483648 ∨ S / 4294967296 ≥ 2147483648 then (0, false) else (S, true)
theorem vGa {k : Nat} {l : List Int} (hk : l.length < k) (hl : l.length ≤ 1000000) (hr : ∀ x ∈ l, -9223372036854775808 ≤ x ∧ x < 9223372036854775808) : zP6 k l = some (zW0 (zP (fun x => x) l)) := by
 obtain ⟨s, h1, h2⟩ := vO (L := fun c i (s : Int × Int) => zRe k c l i s.1 s.2) (N := l.length) (fun s => s) (fun i s => s = (zP (fun x => x) (l.take i) / 4294967296, zP (fun x => x) (l.take i) % 4294967296)) (fun c s hs => by
   show zKw k _ l l.length s.1 s.2 = _
   unfold zKw
   simp only [zY, vMn (Nat.lt_irrefl _), vMt]) (fun c i s hi hs => by
   refine ⟨(zP (fun x => x) (l.take (i + 1)) / 4294967296, zP (fun x => x) (l.take (i + 1)) % 4294967296), ?_, rfl⟩
   show zKw k _ l i s.1 s.2 = _
   have hb := zJa (g := fun x : Int => x) (A := 9223372036854775808) (l := l.take i) fun x hx => by have := hr x (List.mem_of_mem_take hx); omega
   have hlen : ((l.take i).length : Int) ≤ 1000000 := by rw [List.length_take]; omega
   have hb2 : ((l.take i).length : Int) * 9223372036854775808 ≤ 1000000 * 9223372036854775808 := by omega
   have e : zP (fun x => x) (l.take (i + 1)) = zP (fun x => x) (l.take i) + l.getD i 0 := by
    rw [← zAo l i 0 hi, zAm]
    show _ + (l.getD i 0 + 0) = _
    omega
   unfold zKw
   simp only [qH, qO hi (show l.length < 9223372036854775808 by omega), zY, vMu, vMm hi, vMs]
   rw [hs]
   dsimp only
   rw [vJn k (by omega) (by omega) (hr _ (wH hi))]
   rw [e]
   have e2 : zP (fun x => x) (l.take i) / 4294967296 * 4294967296 + zP (fun x => x) (l.take i) % 4294967296 = zP (fun x => x) (l.take i) := by omega
   rw [e2]
   rfl) (s := (0, 0)) hk rfl
 rw [List.take_of_length_le (Nat.le_refl _)] at h2
 unfold zP6
 rw [h1, h2]
 simp only [vMr]
 unfold zW0
 generalize zP (fun x => x) l = S
 by_cases c1 : S / 4294967296 < -2147483648
 ·rw [vMm c1, if_pos (.inl c1)]; rfl
 ·rw [vMn c1]
  by_cases c2 : S / 4294967296 ≥ 2147483648
  ·rw [vMm c2, if_pos (.inr c2)]; rfl
  ·rw [vMn c2, if_neg (by omega), vC9, zU (x := S / 4294967296 * 4294967296) (by omega) (by omega), zU (by omega) (by omega)]
   simp only [vMt]
   congr 2
   omega
theorem vI1 (k : Nat) (x y : zB) : zXc k x.1 x.2.1 x.2.2.1 x.2.2.2.1 x.2.2.2.2.1 x.2.2.2.2.2.1 x.2.2.2.2.2.2 y.1 y.2.1 y.2.2.1 y.2.2.2.1 y.2.2.2.2.1 y.2.2.2.2.2.1 y.2.2.2.2.2.2 = some (jJ x y) := by
 unfold zXc jJ
 cases decide (x.2.1 < y.2.1) <;> cases decide (x.2.1 = y.2.1) <;> rfl
theorem yZw (k : Nat) {a b : Int} (ha : 0 ≤ a ∧ a ≤ 4611686018427387904) (hb : 0 ≤ b ∧ b ≤ 1152921504606846976) : zVq k a b = some (a + b, true) := by
 unfold zVq
 rw [zU (x := a + b) (by omega) (by omega), zU (x := 9223372036854775807 - b) (by omega) (by omega), vMn (show ¬ a > 9223372036854775807 - b by omega), vMn (show ¬ b < 0 by omega)]
 cases decide (b > 0) <;> rfl
theorem yQo {sa : List zAj} {pr h : List Int} (L : zA4 sa pr h) : zWz 1000 sa pr h = some (zBo sa pr h, true) := by
 have h3 := L.n3
 obtain ⟨s', g1, g2⟩ := vO (L := fun n i (v : Int) => zSl 1000 n sa pr h v i) (N := sa.length) (fun v => (.inl v : Int ⊕ Int × Bool)) (fun i v => v = zW (zBi sa pr h) i) (fun n v _ => by
  show zNx 1000 _ sa pr h v (sa.length : Int) = _
  unfold zNx
  rw [vMn (Int.lt_irrefl _)]
  rfl) (fun n i v hi hv => by
  refine ⟨v + zBi sa pr h i, ?_, by rw [hv]; rfl⟩
  show zNx 1000 (zSl 1000 n) sa pr h v (i : Int) = _
  unfold zNx
  have hw := zPl L hi
  have hb := qAu (g := zBi sa pr h) (n := i) (fun j hj => zPl L (by omega))
  have hm : (i : Int) * 1152921504606846976 ≤ 3 * 1152921504606846976 := Int.mul_le_mul_of_nonneg_right (by omega) (by decide)
  have ed : sa.getD i (0, 0) = sa.getD i zFe := rfl
  rw [vMm (show (i : Int) < sa.length by omega), qH, qH, qH, vMm hi, vMm (show i < pr.length by rw [L.pl]; exact hi), vMm (show i < h.length by rw [L.hl]; exact hi), vMu, ed, yUh (L.price i hi) (L.hold i hi) (L.cut i hi)]
  simp only [vMs, vMr]
  have e : zEz (pr.getD i 0) (h.getD i 0) (sa.getD i zFe).2 = zBi sa pr h i := rfl
  rw [e, yZw _ (by rw [hv]; omega) hw, qO hi (by omega)]
  rfl) (n := 1000) (s := 0) (by omega) rfl
 unfold zWz
 rw [vMm (show (pr.length : Int) = (sa.length : Int) by rw [L.pl]), vMm (show (h.length : Int) = (sa.length : Int) by rw [L.hl]), g1, g2]
 rfl
theorem yZ1 {r : qU} (hr : zAp r) {s : qP} (h : yK r s) : zO5 1000 r s.st = some true := by
  have hn1 := h.bk.n1
  have hn6 := h.bk.n6
  have hn := h.n
  have hol := h.hol
  have L := h.laid 0 (by omega)
  have h3 := L.n3
  have ep : s.st.2.2.2.2.2.1 = s.pr := rfl
  have eh : s.st.2.2.2.2.2.2.1 = s.ho := rfl
  have ea : s.st.2.1 = s.B.1 := rfl
  have hpl := L.pl
  have l0 : zGv 1000 1000 0 r s.st = some (.inl (r, s.st)) := zDq (L := fun n i => zGv 1000 n i r s.st) (N := s.pr.length) (fun n => by
    show zK5 1000 (zGv 1000 n) (s.pr.length : Int) r s.st = _
    unfold zK5
    rw [ep, vMn (Int.lt_irrefl _)]
    rfl) (fun n i hi => by
    show zK5 1000 (zGv 1000 n) (i : Int) r s.st = _
    unfold zK5
    have hv := L.price i (by omega)
    rw [ep, vMm (show (i : Int) < s.pr.length by omega), qH, vMm hi, vMu, vMn (show ¬ s.pr.getD i 0 < 0 by omega), vMn (show ¬ s.pr.getD i 0 > 1048576 by omega), qO hi (by omega)]
    rfl) (by omega)
  have l2 : ∀ i, i < s.B.1.length → zHo 1000 1000 (i : Int) 0 r s.st = some (.inl ((i : Int), r, s.st)) := fun i hi => by
    have Li := h.laid i hi
    have hl := Li.hl
    have hio : i < s.ho.length := by omega
    exact zDq (L := fun n j => zHo 1000 n (i : Int) j r s.st) (N := (s.ho.getD i []).length) (fun n => by
      show zNk 1000 (zHo 1000 n) (i : Int) ((s.ho.getD i []).length : Int) r s.st = _
      unfold zNk
      rw [eh, qH, vMm hio, vMu, vMn (Int.lt_irrefl _)]
      rfl) (fun n j hj => by
      show zNk 1000 (zHo 1000 n) (i : Int) (j : Int) r s.st = _
      unfold zNk
      have hv := Li.hold j (by omega)
      rw [eh, qH, vMm hio, vMu, vMu, vMm (show (j : Int) < (s.ho.getD i []).length by omega), qH, vMm hj, vMn (show ¬ (s.ho.getD i []).getD j 0 < 0 by omega), vMn (show ¬ (s.ho.getD i []).getD j 0 > 1099511627776 by omega), qO hj (by omega)]
      rfl) (by omega)
  have l1 : zFq 1000 1000 0 r s.st = some (.inl ()) := zDq (L := fun n i => zFq 1000 n i r s.st) (N := s.B.1.length) (fun n => by
    show zLs 1000 (zFq 1000 n) (s.B.1.length : Int) r s.st = _
    unfold zLs
    rw [vMn (show ¬ (s.B.1.length : Int) < r.1 by omega)]
    rfl) (fun n i hi => by
    show zLs 1000 (zFq 1000 n) (i : Int) r s.st = _
    unfold zLs
    have Li := h.laid i hi
    have hc : (s.B.1.getD i ad).2.1 = _ := h.cred i hi
    have hm : (s.B.1.getD i ad).2.1 ≤ _ := h.most i hi
    have hio : i < s.ho.length := by omega
    have ed : s.B.1.getD i (0, 0, 0) = s.B.1.getD i ad := rfl
    rw [eh, vMm (show (i : Int) < r.1 by omega), qH, vMm hio, vMu, vMm (show ((s.ho.getD i []).length : Int) = (r.2.1.length : Int) by rw [Li.hl]), l2 i hi]
    simp only [vMs, vMr, vMw, vMt]
    rw [eh, ep, ea, qH, vMm hio, vMu, yQo Li, qH, vMm hi, ed, qO hi (by omega)]
    simp only [vMs, vMr, vMw, vMt]
    rw [vMn (show ¬ zBo r.2.1 s.pr (s.ho.getD i []) > 1152921504606846976 by omega), vMm hc]
    rfl) (by omega)
  have e0 : zO5 1000 r s.st = bif !(decide ((s.pr.length : Int) = (r.2.1.length : Int))) then some false
    else bif !(decide ((s.ho.length : Int) = r.1)) then some false
    else (zGv 1000 1000 0 r s.st).bind fun z =>
    match z with
    | .inl z1 => (zFq 1000 1000 0 z1.1 z1.2).bind fun z5 =>
     match z5 with
     | .inl z6 => some true
     | .inr z7 => some z7
    | .inr z8 => some z8 := rfl
  rw [e0, vMm (show (s.pr.length : Int) = (r.2.1.length : Int) by rw [L.pl]), vMm (show (s.ho.length : Int) = r.1 by omega), l0]
  simp only [vMr, vMw, vMt]
  rw [l1]
  rfl
theorem yUs {n : Nat} {m : List zB} {ids : List Int} (h : jC n m ids) : zP2 1000 m = some true := by
 have hm := h.len
 have l0 : zGa 1000 1000 m 0 = some (.inl m) := zDq (L := fun n i => zGa 1000 n m i) (N := m.length) (fun n => by
  show zNg 1000 (zGa 1000 n) m (m.length : Int) = _
  unfold zNg
  rw [vMn (Int.lt_irrefl _)]
  rfl) (fun n i hi => by
  show zNg 1000 (zGa 1000 n) m (i : Int) = _
  unfold zNg
  have e : m.getD i (0, 0, 0, 0, 0, 0, 0) = m.getD i pd := rfl
  rw [vMm (show (i : Int) < m.length by omega), qH, vMm hi, vMu, e, yW4 (by omega) (by omega), yO4 h.dist hi, qO hi (by omega)]
  simp only [vMs, vMr, decide_true, vMw, vMt]
  cases i with
  | zero => rfl
  | succ i =>
   have w : zA (((i + 1 : Nat) : Int) - 1) = (i : Int) := by rw [zU (by omega) (by omega)]; omega
   rw [vMm (show ((i + 1 : Nat) : Int) > 0 by omega), w, qH, vMm (show i < m.length by omega), vMu]
   simp only [vMs]
   have hs := List.pairwise_iff_getElem.1 h.sort i (i + 1) (by omega) hi (by omega)
   rw [← zCh (d := pd) m (by omega), ← zCh (d := pd) m hi] at hs
   refine (congrArg (fun z => Option.bind z _) (vI1 1000 (m.getD i pd) (m.getD (i + 1) pd))).trans ?_
   rw [hs]
   rfl) (by omega)
 unfold zP2
 rw [l0]
 simp only [vMr]
 rw [vMm (show (m.length : Int) ≤ 40 by omega)]
theorem yQ4 {n : Nat} {m : List zB} {ids : List Int} (h : jC n m ids) : zSm 1000 ids = some true := by
 have hl := h.idl
 have l0 : zHq 1000 1000 ids 0 = some (.inl ids) := zDq (L := fun n i => zHq 1000 n ids i) (N := ids.length) (fun n => by
  show zLc 1000 (zHq 1000 n) ids (ids.length : Int) = _
  unfold zLc
  rw [vMn (Int.lt_irrefl _)]
  rfl) (fun n i hi => by
  show zLc 1000 (zHq 1000 n) ids (i : Int) = _
  unfold zLc
  have hp := h.pos _ (wH (d := 0) hi)
  rw [vMm (show (i : Int) < ids.length by omega), qH, vMm hi, vMu, vMn (show ¬ ids.getD i 0 < 1 by omega), qO hi (by omega)]
  simp only [vMs, vMt]
  cases i with
  | zero => rfl
  | succ i =>
   have w : zA (((i + 1 : Nat) : Int) - 1) = (i : Int) := by rw [zU (by omega) (by omega)]; omega
   have hs := List.pairwise_iff_getElem.1 h.asc i (i + 1) (by omega) hi (by omega)
   rw [← zCh (d := 0) ids (by omega), ← zCh (d := 0) ids hi] at hs
   rw [vMm (show ((i + 1 : Nat) : Int) > 0 by omega), w, qH, vMm (show i < ids.length by omega), vMu, vMn (show ¬ ids.getD (i + 1) 0 ≤ ids.getD i 0 by omega)]
   rfl) (by omega)
 unfold zSm
 rw [l0]
 simp only [vMr]
 rw [vMm (show (ids.length : Int) ≤ 200 by omega)]
theorem vE8 {ids : List Int} (hl : ids.length ≤ 200) {id : Int} (hm : id ∈ ids) : zXq 1000 ids id = some true := by
 have down : ∀ c i n, i + c = ids.length → c < n → (∃ j, i ≤ j ∧ ∃ h : j < ids.length, ids[j] = id) → zOw 1000 n ids id (i : Int) = some (.inr true) := by
  intro c
  induction c with
  | zero => rintro i n h1 h2 ⟨j, h3, h4, _⟩; omega
  | succ c ih =>
   rintro i n h1 h2 ⟨j, h3, h4, h5⟩
   obtain ⟨n, rfl⟩ : ∃ x, n = x + 1 := ⟨n - 1, by omega⟩
   have hi : i < ids.length := by omega
   show zY2 1000 (zOw 1000 n) ids id (i : Int) = _
   unfold zY2
   rw [vMm (show (i : Int) < ids.length by omega), qH, vMm hi, vMu, qO hi (by omega)]
   by_cases q : ids.getD i 0 = id
   ·rw [vMm q]; rfl
   ·rw [vMn q]
    refine ih (i + 1) n (by omega) (by omega) ⟨j, ?_, h4, h5⟩
    have : j ≠ i := fun e => q (by rw [zCh ids hi]; subst e; exact h5)
    omega
 obtain ⟨j, hj, e⟩ := List.mem_iff_getElem.1 hm
 unfold zXq
 have := down ids.length 0 1000 (by omega) (by omega) ⟨j, Nat.zero_le _, hj, e⟩
 rw [show ((0 : Nat) : Int) = 0 from rfl] at this
 rw [this]
 rfl
instance instDecPay : DecidableEq zB := fun a b => inferInstanceAs (Decidable (a = b))
theorem yRb {k : Nat} (hk : 100 < k) {B : BT} (h : qY B) {l : List zB} (hl : l.length ≤ 80) : zSs k B.1 B.2.1 B.2.2.1 B.2.2.2 l = some (zD1 B l) := yV1 hk h hl
theorem yR6 {k : Nat} (hk : 100 < k) {B : BT} (h : qY B) {l : List zB} (hl : l.length ≤ 80) :
  ∃ C : BT, zW1 k B.1 B.2.1 B.2.2.1 B.2.2.2 l = some (C.1, C.2.1, C.2.2.1, C.2.2.2, (jS k B l).isSome) ∧ (∀ D, jS k B l = some D → D = C) := by
 obtain ⟨r, h1, h2, h3⟩ := zSa hk h hl
 unfold zW1 jS
 rw [h2, h1, yRb hk h hl]
 refine ⟨(r.1, r.2.1, r.2.2.1, r.2.2.2.1), ?_, ?_⟩
 ·simp only [vMr]
  cases decide (r.2.2.2.2 = 0) <;> cases zD1 B l <;> rfl
 ·intro D
  simp only
  cases decide (r.2.2.2.2 = 0) <;> cases zD1 B l <;> intro e <;> cases e
  rfl
theorem yJc {k : Nat} (hk : 100 < k) {B : BT} (h : qY B) (m : List zB) (hm : m.length ≤ 1000) : ∀ c i n, i + c = m.length → c < n →
  zPi k n i B.1 B.2.1 B.2.2.1 B.2.2.2 0 0 0 0 0 0 0 m = some (match wE k B (m.drop i) with
   | some (p, C) => .inr (true, p.1, p.2.1, p.2.2.1, p.2.2.2.1, p.2.2.2.2.1, p.2.2.2.2.2.1, p.2.2.2.2.2.2)
   | none => .inl (0, 0, 0, 0, 0, 0, 0))
 | 0, i, n, e, hn => by
  obtain ⟨n, rfl⟩ : ∃ x, n = x + 1 := ⟨n - 1, by omega⟩
  have : i = m.length := by omega
  subst this
  show zKa k _ m.length B.1 B.2.1 B.2.2.1 B.2.2.2 0 0 0 0 0 0 0 m = _
  unfold zKa
  simp only [zY, vMn (Nat.lt_irrefl _), vMt, List.drop_length]
  rfl
 | c + 1, i, n, e, hn => by
  obtain ⟨n, rfl⟩ : ∃ x, n = x + 1 := ⟨n - 1, by omega⟩
  have hi : i < m.length := by omega
  have ih := yJc hk h m hm c (i + 1) n (by omega) (by omega)
  show zKa k _ i B.1 B.2.1 B.2.2.1 B.2.2.2 0 0 0 0 0 0 0 m = _
  unfold zKa
  obtain ⟨C, h1, h2⟩ := yR6 hk h (l := [m.getD i pd]) (by simp)
  have c1 : decide ((0 : Int) ≤ (i : Int)) = true := by simp
  have c2 : decide ((i : Int) ≤ ((i + 1 : Nat) : Int)) = true := vMm (by omega)
  have c3 : decide (((i + 1 : Nat) : Int) ≤ (m.length : Int)) = true := vMm (by omega)
  simp only [qH, qO hi (show m.length < 9223372036854775808 by omega), zY, vMu, vMm hi, vMs, c1, c2, c3, Bool.and_true, vDb m i hi, h1, vMr]
  rw [yGk k B hi]
  cases jS k B [m.getD i pd] with
  | none => exact ih
  | some D => rfl
theorem vHw {k : Nat} (hk : 100 < k) {B : BT} (h : qY B) {l : List zB} (hkl : l.length < k) (hl : qZ l) (t : Int) : zU0 k B.1 B.2.1 B.2.2.1 B.2.2.2 l t = some (match wE k B (yY l t) with
   | some (p, C) => (p.1, p.2.1, p.2.2.1, p.2.2.2.1, p.2.2.2.2.1, p.2.2.2.2.2.1, p.2.2.2.2.2.2, true)
   | none => (0, 0, 0, 0, 0, 0, 0, false)) := by
 unfold zU0
 rw [yYn hkl hl]
 have hml := qG4 l t
 unfold qZ at hl
 have := yJc hk h (yY l t) (by omega) (yY l t).length 0 k (by omega) (by omega)
 have e : ((0 : Nat) : Int) = 0 := rfl
 rw [e, List.drop_zero] at this
 simp only [vMr]
 rw [this]
 cases wE k B (yY l t) with
 | none => rfl
 | some x => rfl
def zDe (r : qU) : qP where
 t := 0
 B := (List.replicate r.1.toNat (0, 0, 0), List.replicate r.1.toNat (List.replicate r.1.toNat (-1)), List.replicate r.1.toNat (-1), List.replicate r.1.toNat (List.replicate r.1.toNat 0))
 pr := r.2.1.map Prod.fst
 ho := List.replicate r.1.toNat (List.replicate r.2.1.length 0)
 m := []
 ids := []
 to := 0
 ov := false
structure zQ7 (r : qU) : Prop where
 ok : zAp r
 inv : yK r (zDe r)
 new : zYm 1000 r = some (zDe r).st
theorem zWr (n : Nat) : jC n [] [] where
 dist := List.Pairwise.nil
 len := by decide
 sort := List.Pairwise.nil
 may := fun p h => absurd h List.not_mem_nil
 time := fun p h => absurd h List.not_mem_nil
 were := fun p h => absurd h List.not_mem_nil
 asc := List.Pairwise.nil
 pos := fun p h => absurd h List.not_mem_nil
 idl := by decide
def r0 : qU := (3, [(100, 1000), (7, 0)], 12, 20, 4)
def r1 : qU := (4, [(100, 1000), (7, 0)], 12, 20, 100)
def r2 : qU := (3, [], 20, 20, 4)
def r3 : qU := (3, [(100, 1000), (7, 0)], 0, 6, 1)
theorem qD9 {pr h : List Int} (h1 : pr = [100, 7]) (h2 : h = [0, 0]) : zA4 [(100, 1000), (7, 0)] pr h := by
 subst h1; subst h2
 exact ⟨by decide, rfl, rfl, by decide, by decide, by decide⟩
theorem zV4 {B : BT} (h : isB B.1 B.2.1 B.2.2.1 B.2.2.2 = true) : qY B := zPe.1 h
theorem vAn : zQ7 r0 := ⟨⟨by decide, by decide, by decide, by decide, by decide, by decide, by decide⟩,
  { tk := by decide, bk := zV4 (by kernel_rfl), n := rfl, hol := rfl,
    laid := fun i hi => by
      have e : ∀ i, i < (zDe r0).B.1.length → (zDe r0).ho.getD i [] = [0, 0] := by decide
      exact qD9 rfl (e i hi)
    cred := by decide, most := by decide, waits := zWr _, sum := by decide, tot := by decide, over := by decide, none := fun e => by cases e }, by kernel_rfl⟩
theorem vAf : zQ7 r1 := ⟨⟨by decide, by decide, by decide, by decide, by decide, by decide, by decide⟩,
  { tk := by decide, bk := zV4 (by kernel_rfl), n := rfl, hol := rfl,
    laid := fun i hi => by
      have e : ∀ i, i < (zDe r1).B.1.length → (zDe r1).ho.getD i [] = [0, 0] := by decide
      exact qD9 rfl (e i hi)
    cred := by decide, most := by decide, waits := zWr _, sum := by decide, tot := by decide, over := by decide, none := fun e => by cases e }, by kernel_rfl⟩
theorem yR8 : zQ7 r2 := ⟨⟨by decide, by decide, by decide, by decide, by decide, by decide, by decide⟩,
  { tk := by decide, bk := zV4 (by kernel_rfl), n := rfl, hol := rfl,
    laid := fun i hi => by
      have e : ∀ i, i < (zDe r2).B.1.length → (zDe r2).ho.getD i [] = [] := by decide
      rw [e i hi]
      exact ⟨by decide, rfl, rfl, by decide, by decide, by decide⟩
    cred := by decide, most := by decide, waits := zWr _, sum := by decide, tot := by decide, over := by decide, none := fun e => by cases e }, by kernel_rfl⟩
theorem ySv : zQ7 r3 := ⟨⟨by decide, by decide, by decide, by decide, by decide, by decide, by decide⟩,
  { tk := by decide, bk := zV4 (by kernel_rfl), n := rfl, hol := rfl,
    laid := fun i hi => by
      have e : ∀ i, i < (zDe r3).B.1.length → (zDe r3).ho.getD i [] = [0, 0] := by decide
      exact qD9 rfl (e i hi)
    cred := by decide, most := by decide, waits := zWr _, sum := by decide, tot := by decide, over := by decide, none := fun e => by cases e }, by kernel_rfl⟩
theorem vI2 (a : Int) : ∃ r, qW9 1000 a = some r ∧ zQ7 r := by
 unfold qW9
 cases decide (qV .i64 a 3 = 1) with
 | true => exact ⟨r1, rfl, vAf⟩
 | false =>
  cases decide (qV .i64 a 3 = 2) with
  | true => exact ⟨r2, rfl, yR8⟩
  | false =>
   cases decide (qV .i64 a 3 = 3) with
   | true => exact ⟨r3, rfl, ySv⟩
   | false => exact ⟨r0, rfl, vAn⟩
theorem vGu {r : qU} {s : qP} (h : yK r s) : zQe 1000 s.st = some true := by
  have hw := h.waits
  have hm := hw.len
  have em : s.st.2.2.2.2.2.2.2.1 = s.m := rfl
  have ei : s.st.2.2.2.2.2.2.2.2.1 = s.ids := rfl
  have l0 : zGj 1000 1000 0 s.st = some (.inl ()) := zDq (L := fun n i => zGj 1000 n i s.st) (N := s.m.length) (fun n => by
    show zM1 1000 (zGj 1000 n) (s.m.length : Int) s.st = _
    unfold zM1
    rw [em, vMn (Int.lt_irrefl _)]
    rfl) (fun n i hi => by
    show zM1 1000 (zGj 1000 n) (i : Int) s.st = _
    unfold zM1
    have hmem : s.m.getD i pd ∈ s.m := wH hi
    have ht := hw.time _ hmem
    have hid := hw.were _ hmem
    have e : s.m.getD i (0, 0, 0, 0, 0, 0, 0) = s.m.getD i pd := rfl
    have hmay : zB2 s.B.1.length ((s.m.getD i pd).1, (s.m.getD i pd).2.1, (s.m.getD i pd).2.2.1, (s.m.getD i pd).2.2.2.1, (s.m.getD i pd).2.2.2.2.1, (s.m.getD i pd).2.2.2.2.2.1, (s.m.getD i pd).2.2.2.2.2.2) = true := zUi.2 (hw.may _ hmem)
    have ea : s.st.2.1 = s.B.1 := rfl
    rw [em, ei, ea, vMm (show (i : Int) < s.m.length by omega), qH, vMm hi, vMu, e, yOv, hmay, vMn (show ¬ (s.m.getD i pd).2.2.2.2.2.1 < 0 by omega), vMn (show ¬ (s.m.getD i pd).2.2.2.2.2.2 < (s.m.getD i pd).2.2.2.2.2.1 by omega), vMn (show ¬ (s.m.getD i pd).2.2.2.2.2.2 > 1048576 by omega), vE8 hw.idl hid, qO hi (by omega)]
    rfl) (by omega)
  have e0 : zQe 1000 s.st = (zP2 1000 s.m).bind fun x0 =>
     bif !x0 then some false
     else (zSm 1000 s.ids).bind fun x1 =>
     bif !x1 then some false
     else (zGj 1000 1000 0 s.st).bind fun z =>
     match z with
     | .inl z1 => some true
     | .inr z2 => some z2 := rfl
  rw [e0, yUs hw, yQ4 hw, l0]
  rfl
theorem yRj {r : qU} (hr : zAp r) {s : qP} (h : yK r s) : zWf 1000 r s.st = some true := by
  have hn6 := h.bk.n6
  have hn := h.n
  have ht := h.tk
  have hto := h.tot
  have hlim : zH0 1000 s.B.1 s.B.2.1 s.B.2.2.1 s.B.2.2.2 = some true := by rw [qQc (by decide), zPe.2 h.bk]
  have ea : s.st.2.1 = s.B.1 := rfl
  obtain ⟨x, h1, h2⟩ := vO (L := fun n j (x : List Int) => zHy 1000 n j r s.st x) (N := s.B.1.length) (fun x => (r, s.st, x)) (fun j x => x = (List.range j).map fun j => (s.B.1.getD j ad).1) (fun n x _ => by
    show zL9 1000 (zHy 1000 n) (s.B.1.length : Int) r s.st x = _
    unfold zL9
    rw [vMn (show ¬ (s.B.1.length : Int) < r.1 by omega)]
    rfl) (fun n j x hj hx => by
    refine ⟨x ++ [(s.B.1.getD j ad).1], ?_, ?_⟩
    · show zL9 1000 (zHy 1000 n) (j : Int) r s.st x = _
      unfold zL9
      have hl : x.length = j := by rw [hx]; simp
      rw [ea, vMm (show (j : Int) < r.1 by omega), qH, vMm hj, vR (by omega) (by omega), vMu, qO hj (by omega)]
      rfl
    · rw [hx, List.range_succ, List.map_append]
      rfl) (n := 1000) (s := []) (by omega) rfl
  have hb : ∀ y ∈ x, -9223372036854775808 ≤ y ∧ y < 9223372036854775808 := by
    intro y hm
    rw [h2] at hm
    obtain ⟨j, hj, e⟩ := List.mem_map.1 hm
    have := zG9.1 (h.bk.acct j (List.mem_range.1 hj))
    have this : -4611686018427387904 < (s.B.1.getD j ad).1 ∧ (s.B.1.getD j ad).1 < 4611686018427387904 := this.1
    rw [← e]
    omega
  have hlen : x.length = s.B.1.length := by rw [h2]; simp
  have hsl : ∀ (g : Nat → Int) (n : Nat), zP (fun x => x) ((List.range n).map g) = zW g n := fun g n => by
    induction n with
    | zero => rfl
    | succ n ih =>
      rw [List.range_succ, List.map_append, zAm, ih]
      show zW g n + (g n + 0) = zW g n + g n
      omega
  have hsum : zP (fun x => x) x = s.to := by rw [h2, hsl]; exact h.sum
  have esw : zW0 s.to = (s.to, true) := by unfold zW0; rw [if_neg (by omega)]
  have eU : zWf 1000 r s.st = bif decide (s.t < 0) then some false
     else bif decide (s.t > r.2.2.2.1) then some false
     else (zH0 1000 s.B.1 s.B.2.1 s.B.2.2.1 s.B.2.2.2).bind fun x0 =>
     bif !x0 then some false
     else bif !(decide ((s.B.1.length : Int) = r.1)) then some false
     else (zO5 1000 r s.st).bind fun x1 =>
     bif !x1 then some false
     else (zQe 1000 s.st).bind fun x2 =>
     bif !x2 then some false
     else (zHy 1000 1000 0 r s.st []).bind fun z =>
     (zP6 1000 z.2.2).bind fun x3 =>
     bif x3.2 then (bif decide (x3.1 = z.2.1.2.2.2.2.2.2.2.2.2.1) then (bif decide (x3.1 ≥ 0) then (bif decide (x3.1 ≤ 1152921504606846976) then (bif zBj z.2.1.2.2.2.2.2.2.2.2.2.2 (decide (z.2.1.1 = z.1.2.2.2.1)) then (bif !z.2.1.2.2.2.2.2.2.2.2.2.2 then some true
          else some (decide ((z.2.1.2.2.2.2.2.2.2.1.length : Int) = 0)))
         else some false)
        else some false)
       else some false)
      else some false)
     else some false := rfl
  have ec : ∀ b : Bool, zBj b b = true := fun b => by cases b <;> rfl
  have eo : s.st.2.2.2.2.2.2.2.2.2.2 = s.ov := rfl
  have em : s.st.2.2.2.2.2.2.2.1 = s.m := rfl
  have et : s.st.2.2.2.2.2.2.2.2.2.1 = s.to := rfl
  have e1 : s.st.1 = s.t := rfl
  rw [eU, vMn (show ¬ s.t < 0 by omega), vMn (show ¬ s.t > r.2.2.2.1 by omega), hlim, vMm h.n, yZ1 hr h, vGu h, h1]
  simp only [vMr, vMw, vMt]
  rw [vGa (by omega) (by omega) hb, hsum, esw]
  simp only [vMr, vMs]
  rw [et, vMm (show s.to = s.to from rfl), vMm (show s.to ≥ 0 by omega), vMm (show s.to ≤ 1152921504606846976 by omega), e1, eo, em, ← h.over, ec]
  simp only [vMs]
  cases ho : s.ov with
  | false => rfl
  | true => rw [h.none ho]; rfl
theorem yZd {r : qU} {s : qP} (h : yK r s) : zIg 1000 s.B.1 s.B.2.1 s.B.2.2.1 s.B.2.2.2 = some true := by
 have hb : vY s.B.1 s.B.2.1 s.B.2.2.1 s.B.2.2.2 := h.bk
 have hn6 := h.bk.n6
 have hpl : s.B.2.2.2.length = s.B.1.length := hb.pl
 have net : ∀ i, i < s.B.1.length → ∀ j, j < s.B.1.length → -72057594037927936 < vE s.B.2.2.2 i j ∧ vE s.B.2.2.2 i j < 72057594037927936 := fun i hi j hj => by
  have := hb.net i hi j hj
  unfold jY at this
  rw [vMv, vMq, vMq] at this
  exact this
 have hw : qC0 s.B.2.2.2 := ⟨by omega, fun i hi j hj _ => by have := net i (by omega) j (by omega); omega⟩
 have hq : zKm s.B.2.2.2 = true := yIc.2 fun i hi => (hb.pr i (by omega)).trans hpl.symm
 have ha : zN5 s.B.2.2.2 = true := by
  unfold zN5
  refine jU.2 fun i hi => jU.2 fun j hj => vMm ?_
  have hi' : i < s.B.1.length := by omega
  have hj' : j < s.B.1.length := by omega
  have t : vE s.B.2.2.2 j i = zA (0 - vE s.B.2.2.2 i j) := hb.turn j hj' i hi'
  have := net i hi' j hj'
  rw [t, zU (by omega) (by omega)]
  omega
 rw [yR7 (by decide) hw, hq, ha]
 rfl
theorem yYy {r : qU} (hr : zAp r) (l : List zI2) (hl : l.length ≤ 120) {s : qP} (hs : yK r s ∧ (s.ov = false → wE 1000 s.B (yY s.m s.t) = none)) :
  ∃ t, zIo 1000 1000 l 0 r s.st = some (r, qP.st t) ∧ yK r t ∧ (t.ov = false → wE 1000 t.B (yY t.m t.t) = none) :=
 vO (L := fun n i (s : qP) => zIo 1000 n l i r s.st) (N := l.length) (fun t => (r, qP.st t)) (fun _ t => yK r t ∧ (t.ov = false → wE 1000 t.B (yY t.m t.t) = none)) (fun n t _ => by
  show zNu 1000 (zIo 1000 n) l (l.length : Int) r t.st = _
  unfold zNu
  rw [vMn (Int.lt_irrefl _)]
  rfl) (fun n i t hi ht => by
  obtain ⟨t', o, e, h1, h2⟩ := vCy (k := 1000) (by decide) hr ht.1 (l.getD i (0, 0, 0, 0, 0, 0, 0, 0))
  have hst : t'.ov = false → wE 1000 t'.B (yY t'.m t'.t) = none := by
   rcases h2.still with e | e
   ·rw [e]; exact ht.2
   ·exact e
  have h3 : ∃ o', zU1 1000 r t.st (l.getD i (0, 0, 0, 0, 0, 0, 0, 0)) = some (t'.st, o', e) := by
   unfold zU1
   rw [h1]
   simp only [vMr]
   by_cases hz : e = 0
   ·rw [vMm hz]; exact ⟨o, rfl⟩
   ·rw [vMn hz, (h2.bad hz).1]; exact ⟨[], rfl⟩
  obtain ⟨o', h3⟩ := h3
  refine ⟨t', ?_, h2.inv, hst⟩
  show zNu 1000 (zIo 1000 n) l (i : Int) r t.st = _
  unfold zNu
  rw [vMm (show (i : Int) < l.length by omega), qH, vMm hi]
  simp only [vMs, vMu]
  rw [h3]
  simp only [vMr]
  rw [qO hi (by omega)]) (by omega) hs
theorem yV9 : qKs 1000 = some true := by kernel_rfl
theorem yWq (a : Int) (l : List zI2) : zZ9 1000 a l = some true := by
  unfold zZ9
  by_cases hl : (l.length : Int) > 120
  · rw [vMm hl]; rfl
  rw [vMn hl]
  obtain ⟨r, hr, w⟩ := vI2 a
  have hr' : zSx 1000 a = some r := hr
  simp only [vMt]
  rw [hr']
  simp only [vMr]
  rw [w.new]
  simp only [vMr]
  obtain ⟨t, h1, h2, h3⟩ := yYy w.ok l (by omega) (s := zDe r) ⟨w.inv, fun _ => rfl⟩
  rw [h1]
  simp only [vMr]
  have hnext : wE 1000 t.B (yY t.m t.t) = none := by
    cases ho : t.ov with
    | false => exact h3 ho
    | true => rw [h2.none ho]; rfl
  have hm := h2.waits.len
  have hfn : zT2 1000 t.B.1 t.B.2.1 t.B.2.2.1 t.B.2.2.2 t.m t.t = some (0, 0, 0, 0, 0, 0, 0, false) := by
    unfold zT2
    rw [yOh (by decide) h2.bk (by omega) (by unfold qZ; omega) h2.waits.dist, hnext]
    rfl
  have hst : zN9 1000 t.t t.B.1 t.B.2.1 t.B.2.2.1 t.B.2.2.2 t.pr t.ho t.m t.ids t.to t.ov = some true := by
    unfold zN9
    rw [hfn]
    rfl
  have hrs : zZj 1000 t.t t.B.1 t.B.2.1 t.B.2.2.1 t.B.2.2.2 t.pr t.ho t.m t.ids t.to t.ov = some true := by
    unfold zZj
    rw [vHw (by decide) h2.bk (by omega) (by unfold qZ; omega), hnext]
    rfl
  have hstate : zQx 1000 r t.st = some true := by
    have e0 : zQx 1000 r t.st = (zQr 1000 r t.st).bind fun x0 =>
       bif x0 then ((zIg 1000 t.B.1 t.B.2.1 t.B.2.2.1 t.B.2.2.2).bind fun x1 =>
        bif x1 then (bif t.ov then some true
         else (zN9 1000 t.t t.B.1 t.B.2.1 t.B.2.2.1 t.B.2.2.2 t.pr t.ho t.m t.ids t.to t.ov).bind fun x2 =>
         some x2)
        else some false)
       else some false := rfl
    rw [e0, vBm (by decide) w.ok h2, yZd h2, hst]
    cases t.ov <;> rfl
  rw [hstate]
  simp only [vMr, vMs]
  rw [yRj w.ok h2]
  simp only [vMr, vMs]
  refine (congrArg (fun z => Option.bind z _) hst).trans ?_
  simp only [vMr]
  refine (congrArg (fun z => Option.bind z _) hrs).trans ?_
  simp only [vMr]
  rw [yV9]
  rfl
end Go.Ab.Gi
