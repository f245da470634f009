/- part 2 -/
import Derived.Test.YtbejmoaalcabdaaGreatGiAbB
import Derived.ProofKit
import Derived.Below
import Derived.Carry
set_option linter.unusedVariables false
set_option linter.unusedSimpArgs false
set_option linter.unusedSectionVars false
namespace Go.Ab
theorem yC8 {t t' : Nat → zD} {d : Option Nat} {v : zD} {x : Nat} (h : t x = t' x) : zAw t d v x = zAw t' d v x := by
 cases d with
 | none => exact h
 | some d =>
  show wL t d v x = wL t' d v x
  unfold wL
  cases Nat.beq x d with
  | true => rfl
  | false => exact h
theorem zWy {t : Nat → zD} {d : Option Nat} {v : zD} {x : Nat} (h : d ≠ some x) : zAw t d v x = t x := by
 cases d with
 | none => rfl
 | some d =>
  show wL t d v x = _
  unfold wL
  cases e : Nat.beq x d with
  | false => rfl
  | true => exact absurd (by rw [show x = d by simpa using e]) h
theorem yXg {t t' : Nat → zD} {v : zD} {x : Nat} : zAw t (some x) v x = zAw t' (some x) v x := by
 show wL t x v x = wL t' x v x
 unfold wL
 simp
theorem vGi {t : Nat → zD} {d e : Option Nat} {v u : zD} (h : ∀ x, d = some x → e ≠ some x) : zAw (zAw t d v) e u = zAw (zAw t e u) d v := by
 funext x
 by_cases hd : d = some x
 ·subst hd
  rw [zWy (h x rfl)]
  exact yXg
 ·rw [zWy hd]
  exact yC8 (zWy hd)
theorem zIn {n : Nat} : ∀ {u : zX} {h h' : Hp}, h n = h' n → qE h u n = qE h' u n
 | [], _, _, e => e
 | (id, o) :: u, h, h', e => zIn (u := u) (by
   by_cases hn : n = id
   ·subst hn; rw [yB, yB]
   ·rw [yE _ _ hn, yE _ _ hn]; exact e)
theorem yLx {n : Nat} : ∀ {u : zX} {h h' : Hp}, n ∈ wO u → qE h u n = qE h' u n
 | [], _, _, hm => by simp [wO] at hm
 | (id, o) :: u, h, h', hm => by
  by_cases hu : n ∈ wO u
  ·exact yLx (u := u) hu
  ·have e : n = id := by
    simp only [wO, List.map_cons, List.mem_cons] at hm hu
    exact hm.resolve_right hu
   subst e
   exact zIn (u := u) (by rw [yB, yB])
theorem yVw {u v : zX} {h : Hp} (hd : ∀ a ∈ wO u, a ∉ wO v) : qE (qE h u) v = qE (qE h v) u := by
 funext n
 by_cases hu : n ∈ wO u
 ·rw [zK8 (hd n hu)]
  exact yLx hu
 ·rw [zK8 (u := u) (h := qE h v) hu]
  exact zIn (zK8 hu)
theorem yPl {st : St} {x y : It} (hd : ∀ t, x.o.dst = some t → y.o.dst ≠ some t) (hu : ∀ a ∈ wO x.u, a ∉ wO y.u) : vJ (vJ st x) y = vJ (vJ st y) x := by
 unfold vJ
 simp only [St.mk.injEq]
 exact ⟨vGi hd, yVw hu⟩
theorem yGb {x : It} : ∀ {l : List It} {st : St}, (∀ y ∈ l, (∀ t, x.o.dst = some t → y.o.dst ≠ some t) ∧ ∀ a ∈ wO x.u, a ∉ wO y.u) → vJ (l.foldl vJ st) x = l.foldl vJ (vJ st x)
 | [], _, _ => rfl
 | y :: l, st, h => by
  rw [List.foldl_cons, List.foldl_cons, yPl (h y (List.mem_cons_self ..)).1 (h y (List.mem_cons_self ..)).2]
  exact yGb fun z hz => h z (List.mem_cons_of_mem _ hz)
theorem zTn (t : Nat) : ∀ (l : List It) (st st' : St), st.t t = st'.t t → (l.foldl vJ st).t t = ((l.filter fun it => it.o.dst == some t).foldl vJ st').t t
 | [], _, _, h => h
 | y :: l, st, st', h => by
  rw [List.foldl_cons, List.filter_cons]
  cases hy : y.o.dst == some t with
  | true =>
   rw [if_pos rfl, List.foldl_cons]
   exact zTn t l _ _ (yC8 h)
  | false =>
   rw [if_neg (by simp)]
   exact zTn t l _ _ (by
    show zAw st.t y.o.dst y.v t = _
    rw [zWy (by simpa using hy)]; exact h)
theorem zWk (n : Nat) : ∀ (l : List It) (st st' : St), st.h n = st'.h n → (l.foldl vJ st).h n = ((l.filter fun it => (wO it.u).contains n).foldl vJ st').h n
 | [], _, _, h => h
 | y :: l, st, st', h => by
  rw [List.foldl_cons, List.filter_cons]
  cases hy : (wO y.u).contains n with
  | true =>
   rw [if_pos rfl, List.foldl_cons]
   exact zWk n l _ _ (zIn h)
  | false =>
   rw [if_neg (by simp)]
   exact zWk n l _ _ (by
    show qE st.h y.u n = _
    rw [zK8 (by simpa [wO] using hy)]; exact h)
theorem qVs {S W : It → Bool} {pfx post : List It} {it : It} (hit : S it = false) (h1 : ∀ y ∈ pfx, W y = true → S y = true) (h2 : ∀ y ∈ post, W y = true → S y = false) : ((pfx ++ it :: post).filter S).filter W = pfx.filter W := by
 rw [List.filter_append, List.filter_append, List.filter_cons, hit, if_neg (by simp)]
 have e1 : (pfx.filter S).filter W = pfx.filter W := by
  rw [List.filter_filter]
  refine List.filter_congr fun y hy => ?_
  cases hw : W y with
  | false => simp
  | true => simp [h1 y hy hw]
 have e2 : (post.filter S).filter W = [] := by
  rw [List.filter_filter, List.filter_eq_nil_iff]
  intro y hy
  cases hw : W y with
  | false => simp
  | true => simp [h2 y hy hw]
 rw [e1, e2, List.append_nil]
def zNj (d : zF1) (a : Nat) : Prop := match d.refs with
 | none => True
 | some l => a ∈ l ∨ zCj d.nm a = true
theorem qNh {x y : zF1} (h : zFo x y = false) : (∀ a ∈ x.upd, ¬ zNj y a) ∧ (∀ a ∈ y.upd, ¬ zNj x a) ∧ ∀ a ∈ x.upd, a ∉ y.upd := by
 unfold zFo at h
 simp only [Bool.or_eq_false_iff] at h
 obtain ⟨⟨⟨⟨h1, h2⟩, h3⟩, h4⟩, h5⟩ := h
 have key : ∀ (d e : zF1), zTe d.upd e.refs = false → d.upd.any (zCj e.nm) = false → ∀ a ∈ d.upd, ¬ zNj e a := by
  intro d e hm ho a ha hl
  unfold zTe at hm
  unfold zNj at hl
  cases hr : e.refs with
  | none =>
   rw [hr] at hm
   have : d.upd = [] := by simpa using hm
   rw [this] at ha; cases ha
  | some l =>
   rw [hr] at hm hl
   rcases hl with hl | hl
   ·have := List.any_eq_false.1 hm a ha
    simp at this
    exact this hl
   ·have := List.any_eq_false.1 ho a ha
    rw [hl] at this; exact this rfl
 refine ⟨key x y h1 h3, key y x h2 h4, fun a ha hb => ?_⟩
 have := List.any_eq_false.1 h5 a ha
 simp at this
 exact this hb
section
variable {E : qA} {A : zZ} {k pre na nt : Nat} {R : Type} {ops : Array Oper}
theorem qCk {i j : Nat} {x y : Oper} (hi : ops[i]? = some x) (hj : ops[j]? = some y) (h : zFb ops i j = true) :
  (∀ d, x.dst = some d → d ∉ y.looksAt ops) ∧ (∀ d, x.dst = some d → y.dst ≠ some d) ∧ (∀ d, y.dst = some d → d ∉ x.looksAt ops) := by
 unfold zFb at h
 rw [hi, hj] at h
 exact Oper.apart_spec h
theorem vFw (hE : jI E) (hS : zAt E.sums) {S : Nat → Bool} (hC : zOu ops S) {st : St} {pfx post : List It} {it : It} (hops : ∀ y ∈ pfx ++ it :: post, ops[y.i]? = some y.o) (hg : zWb E A k pre na nt ops (pfx.foldl vJ st) it)
  (hu : ∀ y ∈ pfx ++ it :: post, y.wt = false → y.u = []) (hp : (pfx ++ it :: post).Pairwise (qCe pre ops (Region.before ops))) (hit : S it.i = false)
  (hr : ∀ o, ops[it.i]? = some o → ∀ e ∈ o.after.toList, Region.binds .any e = true → S e.on = true) :
  zWb E A k pre na nt ops (((pfx ++ it :: post).filter fun y => S y.i).foldl vJ st) it ∧
   (∀ y ∈ post, S y.i = true → (∀ t, it.o.dst = some t → y.o.dst ≠ some t) ∧ ∀ a ∈ wO it.u, a ∉ wO y.u) := by
 have hio : ops[it.i]? = some it.o := hops it (by simp)
 obtain ⟨hp1, hp2, hp3⟩ := List.pairwise_append.1 hp
 have before : ∀ y ∈ pfx, S y.i = false → zFb ops y.i it.i = true ∧ (y.wt = true → it.wt = true → zFo (y.dn pre) (it.dn pre) = false) := fun y hy hs => by
  rcases hp3 y hy it (List.mem_cons_self ..) with h | h
  ·rw [vEm hC h hr] at hs; cases hs
  ·exact h
 have behind : ∀ y ∈ post, S y.i = true → zFb ops it.i y.i = true ∧ (it.wt = true → y.wt = true → zFo (it.dn pre) (y.dn pre) = false) := fun y hy hs => by
  rcases (List.pairwise_cons.1 hp2).1 y hy with h | h
  ·rw [yLg hC _ _ rfl h hs] at hit; cases hit
  ·exact h
 have tmpEq : ∀ t, t ∈ it.o.looksAt ops → (((pfx ++ it :: post).filter fun y => S y.i).foldl vJ st).t t = (pfx.foldl vJ st).t t := fun t ht => by
  rw [zTn t _ st st rfl, zTn t pfx st st rfl, qVs hit (fun y hy hw => ?_) fun y hy hw => ?_]
  ·cases hs : S y.i with
   | true => rfl
   | false =>
    have := (qCk (hops y (by simp [hy])) hio (before y hy hs).1).1 t (by simpa using hw)
    exact absurd ht this
  ·cases hs : S y.i with
   | false => rfl
   | true =>
    have := (qCk hio (hops y (by simp [hy])) (behind y hy hs).1).2.2 t (by simpa using hw)
    exact absurd ht this
 have hEq : it.wt = true → ∀ n, zNj (it.dn pre) n → (((pfx ++ it :: post).filter fun y => S y.i).foldl vJ st).h n = (pfx.foldl vJ st).h n := fun hw n hn => by
  rw [zWk n _ st st rfl, zWk n pfx st st rfl, qVs hit (fun y hy hy' => ?_) fun y hy hy' => ?_]
  ·cases hs : S y.i with
   | true => rfl
   | false =>
    have hm : n ∈ wO y.u := by simpa using hy'
    have hyw : y.wt = true := by
     cases h : y.wt with
     | true => rfl
     | false => rw [hu y (by simp [hy]) h] at hm; simp [wO] at hm
    exact absurd hn ((qNh ((before y hy hs).2 hyw hw)).1 n hm)
  ·cases hs : S y.i with
   | false => rfl
   | true =>
    have hm : n ∈ wO y.u := by simpa using hy'
    have hyw : y.wt = true := by
     cases h : y.wt with
     | true => rfl
     | false => rw [hu y (by simp [hy]) h] at hm; simp [wO] at hm
    exact absurd hn ((qNh ((behind y hy hs).2 hw hyw)).2.1 n hm)
 generalize hL : ((pfx ++ it :: post).filter fun y => S y.i).foldl vJ st = stL at tmpEq hEq ⊢
 refine ⟨⟨?_, fun hw => ?_, hg.n⟩, fun y hy hs => ?_⟩
 ·rw [← hg.w]
  unfold zK0
  cases hgd : it.o.guard with
  | none => rfl
  | some p =>
   obtain ⟨j, want⟩ := p
   dsimp only
   cases hsl : zW8 ops j with
   | none => rfl
   | some s =>
    have : s ∈ it.o.looksAt ops := by
     have hsl : (ops[j]?).bind (·.dst) = some s := hsl
     simp only [Oper.looksAt, hgd, hsl]
     simp
    simp only [tmpEq s this]
 ·obtain ⟨hd, hy, hrf⟩ := hg.y hw
  have hev : ∀ x ∈ it.o.op.operands, stL.ev x = (pfx.foldl vJ st).ev x := fun x hx => by
   cases x with
   | tmp t => exact tmpEq t (List.mem_append_left _ (List.mem_filterMap.2 ⟨.tmp t, by simpa using hx, rfl⟩))
   | _ => rfl
  have hrefs : zD3 stL.ev it.o = zD3 (pfx.foldl vJ st).ev it.o := by
   unfold zD3
   have : it.o.op.operands.toList.map stL.ev = it.o.op.operands.toList.map (pfx.foldl vJ st).ev := List.map_congr_left fun x hx => hev x (by simpa using hx)
   simp only [this]
  refine ⟨hd, ?_, by rw [hrf, hrefs]⟩
  rw [yQg hev]
  have hh : opS E A k pre it.o (pfx.foldl vJ st).ev stL.h = opS E A k pre it.o (pfx.foldl vJ st).ev (pfx.foldl vJ st).h := yYs hS (by
   rw [← hrf]
   have := hEq hw
   unfold zNj at this
   have hdn : (it.dn pre).refs = it.r := rfl
   rw [hdn] at this
   cases h : it.r with
   | none =>
    rw [h] at this
    exact funext fun n => this n trivial
   | some l =>
    rw [h] at this
    exact this)
  rw [hh]
  exact hy
 ·obtain ⟨h1, h2⟩ := behind y hy hs
  refine ⟨(qCk hio (hops y (by simp [hy])) h1).2.1, fun a ha hb => ?_⟩
  have hwi : it.wt = true := by
   cases h : it.wt with
   | true => rfl
   | false => rw [hu it (by simp) h] at ha; simp [wO] at ha
  have hwy : y.wt = true := by
   cases h : y.wt with
   | true => rfl
   | false => rw [hu y (by simp [hy]) h] at hb; simp [wO] at hb
  exact (qNh (h2 hwi hwy)).2.2 a ha hb
end
theorem vEg {ops : Array Oper} (h : zOt ops = true) {j : Nat} {o : Oper} (ho : ops[j]? = some o) : ∀ e ∈ o.after.toList, Region.binds .any e = true → e.on < j := by
 intro e he hb
 have hj := (Array.getElem?_eq_some_iff.1 ho).1
 have hm : (o, j) ∈ ops.toList.zipIdx := by
  rw [List.mem_zipIdx_iff_getElem?]
  simpa using ho
 have := List.all_eq_true.1 (List.all_eq_true.1 h _ hm) e he
 simpa [hb, Nat.blt_eq] using this
theorem zW3 {L : Array Bool} {i : Nat} (hi : i < L.size) (j : Nat) : (L.setIfInBounds i true).getD j false = (L.getD j false || i == j) := by
 by_cases h : i = j
 ·subst h; simp [hi]
 ·rw [getD_set_ne false h]
  have : (i == j) = false := by simpa using h
  rw [this, Bool.or_false]
section
variable {E : qA} {A : zZ} {nl : Bool} {k pre na nt : Nat} {a0 : Nat → Value} {R : Type} {ops : Array Oper} {M0 : zA} {w0 : World} {Q : Exit → Act → World → Prop}
theorem vGu (hE : jI E) (hS : zAt E.sums) (he : zOt ops = true) {its : List It} {st : St} (hi : its.map (·.i) = List.range ops.size) (hops : ∀ y ∈ its, ops[y.i]? = some y.o) (hg : ∀ pfx it post, its = pfx ++ it :: post → zWb E A k pre na nt ops (pfx.foldl vJ st) it)
  (hp : its.Pairwise (qCe pre ops (Region.before ops))) (hQ : ∀ a w, vD nl na nt a0 M0 w0 (its.foldl vJ st) a w → Q .normal a w) :
  ∀ (fuel : Nat) (L : Array Bool) (a : Act) (w : World), L.size = ops.size → (∃ U : List Nat, U.length ≤ fuel ∧ ∀ j, j < ops.size → L.getD j false = false → j ∈ U) → zOu ops (fun j => L.getD j false) →
   vD nl na nt a0 M0 w0 ((its.filter fun y => L.getD y.i false).foldl vJ st) a w → wpAny E.P .any ops Q fuel L a w := by
 have hu : ∀ y ∈ its, y.wt = false → y.u = [] := fun y hy hw => by
  obtain ⟨pfx, post, e⟩ := List.append_of_mem hy
  exact ((hg pfx y post e).n hw).2.1
 have hil : ∀ y ∈ its, y.i < ops.size := fun y hy => (Array.getElem?_eq_some_iff.1 (hops y hy)).1
 have hnd : (its.map (·.i)).Nodup := by rw [hi]; exact List.nodup_range
 have full : ∀ (L : Array Bool) (a : Act) (w : World), (∀ j, j < ops.size → L.getD j false = true) → vD nl na nt a0 M0 w0 ((its.filter fun y => L.getD y.i false).foldl vJ st) a w → Q .normal a w := fun L a w hl r => by
  rw [List.filter_eq_self.2 fun y hy => hl y.i (hil y hy)] at r
  exact hQ a w r
 have rdy : ∀ (L : Array Bool), L.size = ops.size → Region.ready .any ops L = [] → ∀ j, j < ops.size → L.getD j false = true := fun L hL hr j => by
  induction j using Nat.strongRecOn with
  | _ j ih =>
   intro hj
   cases hb : L.getD j false with
   | true => rfl
   | false =>
    have ho : ops[j]? = some ops[j] := Array.getElem?_eq_getElem hj
    have : j ∈ Region.ready .any ops L := mem_ready.2 ⟨by
     have hjL : j < L.size := by omega
     simpa [Array.getD, hjL] using hb, ops[j], ho, fun e he' hb' => by
      have hlt := vEg he ho e (by simpa using he') hb'
      exact ih e.on hlt (by omega)⟩
    rw [hr] at this; cases this
 intro fuel
 induction fuel with
 | zero =>
  intro L a w hL hU hC r
  obtain ⟨U, hUl, hU⟩ := hU
  have hU0 : U = [] := List.eq_nil_of_length_eq_zero (by omega)
  have hall : ∀ j, j < ops.size → L.getD j false = true := fun j hj => by
   cases hb : L.getD j false with
   | true => rfl
   | false => have := hU j hj hb; rw [hU0] at this; cases this
  refine ⟨?_, full L a w hall r⟩
  cases hr : Region.ready .any ops L with
  | nil => rfl
  | cons j l =>
   have : j ∈ Region.ready .any ops L := by rw [hr]; exact List.mem_cons_self ..
   obtain ⟨h0, o, ho, _⟩ := mem_ready.1 this
   have hj := (Array.getElem?_eq_some_iff.1 ho).1
   have := hall j hj
   have hjL : j < L.size := by omega
   simp [Array.getD, hjL] at this h0
   rw [this] at h0; cases h0
 | succ fuel ih =>
  intro L a w hL hU hC r
  refine ⟨fun hr => full L a w (rdy L hL hr) r, fun i hir => ?_⟩
  obtain ⟨h0, o, ho, hready⟩ := mem_ready.1 hir
  have hilt := (Array.getElem?_eq_some_iff.1 ho).1
  have hiL : i < L.size := by omega
  have h0' : L.getD i false = false := by simpa [Array.getD, hiL] using h0
  obtain ⟨it, hit, hiti⟩ : ∃ it ∈ its, it.i = i := by
   have : i ∈ its.map (·.i) := by rw [hi]; simpa using hilt
   obtain ⟨it, h1, h2⟩ := List.mem_map.1 this
   exact ⟨it, h1, h2⟩
  obtain ⟨pfx, post, e⟩ := List.append_of_mem hit
  have hio : ops[it.i]? = some it.o := hops it hit
  have hoo : o = it.o := by rw [hiti, ho] at hio; exact Option.some.inj hio
  subst hoo
  have hgood := vFw hE hS hC (by rw [← e]; exact hops) (hg pfx it post e) (by rw [← e]; exact hu) (by rw [← e]; exact hp) (by rw [hiti]; exact h0') (fun o' ho' ed hed hb => by
   rw [hio] at ho'
   cases ho'
   exact hready ed (by simpa using hed) hb)
  rw [← e] at hgood
  obtain ⟨hgd, hcomm⟩ := hgood
  have hw := yKg hgd.w r
  have yC : (its.filter fun y => (L.setIfInBounds i true).getD y.i false).foldl vJ st = vJ ((its.filter fun y => L.getD y.i false).foldl vJ st) it := by
   have other : ∀ y ∈ pfx ++ post, (L.setIfInBounds i true).getD y.i false = L.getD y.i false := fun y hy => by
    rw [zW3 hiL]
    have : y.i ≠ i := fun h => by
     rw [e, List.map_append, List.map_cons] at hnd
     have h2 := List.nodup_append.1 hnd
     rcases List.mem_append.1 hy with hy | hy
     ·exact h2.2.2 y.i (List.mem_map_of_mem hy) it.i (List.mem_cons_self ..) (by rw [h, hiti])
     ·exact (List.nodup_cons.1 h2.2.1).1 (by rw [hiti, ← h]; exact List.mem_map_of_mem hy)
    have : (i == y.i) = false := by simpa using Ne.symm this
    rw [this, Bool.or_false]
   have e1 : its.filter (fun y => L.getD y.i false) = pfx.filter (fun y => L.getD y.i false) ++ post.filter (fun y => L.getD y.i false) := by
    conv => lhs; rw [e]
    rw [List.filter_append, List.filter_cons, if_neg (by rw [hiti, h0']; simp)]
   have e2 : its.filter (fun y => (L.setIfInBounds i true).getD y.i false) = pfx.filter (fun y => L.getD y.i false) ++ it :: post.filter (fun y => L.getD y.i false) := by
    conv => lhs; rw [e]
    rw [List.filter_append, List.filter_cons, if_pos (by rw [hiti, zW3 hiL]; simp), List.filter_congr fun y hy => other y (List.mem_append_left _ hy), List.filter_congr fun y hy => other y (List.mem_append_right _ hy)]
   rw [e1, e2, List.foldl_append, List.foldl_append, List.foldl_cons]
   exact (yGb fun y hy => by
    obtain ⟨hy1, hy2⟩ := List.mem_filter.1 hy
    exact hcomm y hy1 hy2).symm
  have hC' : zOu ops fun j => (L.setIfInBounds i true).getD j false := fun j o' hj ho' ed hed hb => by
   dsimp only at hj ⊢
   rw [zW3 hiL] at hj
   refine getD_set_true ?_
   rw [Bool.or_eq_true] at hj
   rcases hj with hj | hj
   ·exact hC j o' hj ho' ed hed hb
   ·have : i = j := by simpa using hj
    subst this
    rw [ho] at ho'; cases ho'
    exact hready ed (by simpa using hed) hb
  have hU' : ∃ U : List Nat, U.length ≤ fuel ∧ ∀ j, j < ops.size → (L.setIfInBounds i true).getD j false = false → j ∈ U := by
   obtain ⟨U, hl, hU⟩ := hU
   refine ⟨U.erase i, ?_, fun j hj hb => ?_⟩
   ·rw [List.length_erase_of_mem (hU i hilt h0')]; omega
   ·rw [zW3 hiL, Bool.or_eq_false_iff] at hb
    exact (List.mem_erase_of_ne (by have := hb.2; simp at this; exact fun h => this h.symm)).2 (hU j hj hb.1)
  unfold wpOp
  rw [ho]
  dsimp only
  cases hwt : it.wt with
  | true =>
   rw [hwt] at hw
   rw [if_pos hw]
   obtain ⟨hd, hy, _⟩ := hgd.y hwt
   refine .inl (vD.op hE r hd hy fun a' w' r' => ?_)
   exact ih _ _ _ (by simpa using hL) hU' hC' (by rw [yC]; exact r')
  | false =>
   rw [hwt] at hw
   rw [if_neg (by simp [hw])]
   obtain ⟨hv, hu', hdst⟩ := hgd.n hwt
   refine ih _ _ _ (by simpa using hL) hU' hC' ?_
   rw [yC]
   have := r.skip (dst := it.o.dst) fun d hd => (hdst d hd).1
   unfold vJ
   rw [hv, hu']
   exact this
theorem yPx (hE : jI E) (hS : zAt E.sums) {id : Nat} {st : St} {K : St → Option R} {out : R} {a : Act} {w : World} (hm : E.P.follows .mixedOrders = true) (he : zOt ops = true)
  (h : zLq E A k pre na nt ops (Region.before ops) (ops.toList.zipIdx.map fun p => (p.2, p.1)) [] st K = some out) (r : vD nl na nt a0 M0 w0 st a w)
  (hK : ∀ st' a' w', vD nl na nt a0 M0 w0 st' a' w' → K st' = some out → Q .normal a' w') : (Code.region id ops true).wp E.P Q a w := by
 obtain ⟨its, h1, h2, h3, _, h5⟩ := qAr hE _ _ _ _ _ h
 have hi : its.map (·.i) = List.range ops.size := by
  have := congrArg (List.map Prod.fst) h1
  rw [List.map_map, List.map_map] at this
  refine Eq.trans this ?_
  have e : (Prod.fst ∘ fun p : Oper × Nat => (p.2, p.1)) = Prod.snd := rfl
  rw [e, List.zipIdx_map_snd, ← List.range_eq_range']
  simp
 have hops : ∀ y ∈ its, ops[y.i]? = some y.o := fun y hy => by
  have : (y.i, y.o) ∈ ops.toList.zipIdx.map fun p => (p.2, p.1) := by rw [← h1]; exact List.mem_map.2 ⟨y, hy, rfl⟩
  obtain ⟨p, hp, e⟩ := List.mem_map.1 this
  have := List.mem_zipIdx_iff_getElem?.1 hp
  rw [(Prod.mk.inj e).1, (Prod.mk.inj e).2] at this
  simpa using this
 refine wp_region_any hm (vGu hE hS he (nt := nt) (na := na) (a0 := a0) (M0 := M0) (w0 := w0) hi hops h3 h5 (fun a w r => hK _ a w r h2) _ _ _ _ (by simp) ⟨List.range ops.size, by simp, fun j hj _ => by simpa using hj⟩ (fun j o hj => ?_) ?_)
 ·exfalso
  by_cases h : j < ops.size <;> simp [Array.getD, h] at hj
 ·rw [List.filter_eq_nil_iff.2 fun y hy => by
   by_cases h : y.i < ops.size <;> simp [Array.getD, h]]
  exact ⟨r.ex, r.defers, r.size, r.os, r.tape, r.output, r.keep⟩
end
def zA.nilObj (M : zA) (nm : Nat) (o : Obj) (sz : Nat) : zA := { M with κ := κset M.κ nm ⟨none, 0, sz, 0, []⟩, h := yC M.h nm o }
def zA1 (t : Ty) (rows : Bool) : Obj := bif rows then .mat 0 [] else .arr true t []
def zBs (t : Ty) (rows : Bool) : Nat := bif rows then 1 else t.size
theorem zA.nilObj_ok {M : zA} (ok : Ok M) {nm : Nat} (hnm : M.h nm = none) (t : Ty) (rows : Bool) :
  Ok (M.nilObj nm (zA1 t rows) (zBs t rows)) ∧ yG M (M.nilObj nm (zA1 t rows) (zBs t rows)) ∧ (∀ b, qN (M.nilObj nm (zA1 t rows) (zBs t rows)) b → qN M b) := by
 have hO : ∀ M' : zA, yM M' (zA1 t rows) ⟨none, 0, zBs t rows, 0, []⟩ := fun M' => by
  cases rows with
  | false => exact ⟨rfl, rfl, fun _ => rfl, rfl⟩
  | true => exact ⟨rfl, rfl, rfl, rfl, by simp [zR.fp], rfl⟩
 have x : yG M (M.nilObj nm (zA1 t rows) (zBs t rows)) := ⟨fun id C h => by
  have hne : id ≠ nm := fun e => by rw [e, ok.non nm hnm] at h; cases h
  exact ⟨C, by show κset M.κ nm _ id = _; rw [κset_ne _ _ hne]; exact h, C.le_refl⟩, fun _ h => h, fun _ h => h, fun _ _ => rfl, fun _ _ => rfl, fun _ _ => rfl⟩
 refine ⟨Ok.build ok x (fun id => id = nm) (fun id h => yE _ _ h) (fun id h => κset_ne _ _ h) (fun _ _ _ _ _ _ _ _ _ => rfl) (fun id o C h1 h2 h3 h4 b hb => (ok.own b ⟨id, o, C, h2, h3, h4, hb⟩).1) (Nat.le_refl _)
  (fun id o e h => ?_) (fun id e h => ?_) (fun id o C b e h1 h2 h3 h4 => ?_) ok.GF ok.Flt, x, fun b hb => ?_⟩
 ·subst e
  have e1 : (M.nilObj id (zA1 t rows) (zBs t rows)).h id = some (zA1 t rows) := yB _ _ _
  rw [e1] at h
  cases h
  exact ⟨_, κset_same _ _ _, hO _⟩
 ·subst e
  have e1 : (M.nilObj id (zA1 t rows) (zBs t rows)).h id = some (zA1 t rows) := yB _ _ _
  rw [e1] at h; cases h
 ·subst e
  have e1 : (M.nilObj id (zA1 t rows) (zBs t rows)).κ id = some _ := κset_same _ _ _
  rw [e1] at h3
  cases h3
  simp [zR.fp] at h4
 ·obtain ⟨id, o, C, h1, h2, h3, h4⟩ := hb
  by_cases e : id = nm
  ·subst e
   have e1 : (M.nilObj id (zA1 t rows) (zBs t rows)).κ id = some _ := κset_same _ _ _
   rw [e1] at h3
   cases h3
   simp [zR.fp] at h4
  ·exact ⟨id, o, C, by rw [← h1]; exact (yE _ _ e).symm, h2, by rw [← h3]; exact (κset_ne _ _ e).symm, h4⟩
theorem zAs.same_mem {M M' : zA} (hF : M'.F = M.F) (hG : M'.G = M.G) (hH : M'.H = M.H) (ho : ∀ b, qN M' b → qN M b) : zAs M M' :=
 ⟨fun b h => by rw [hF]; exact h, fun b h => by rw [hG]; exact h, fun _ _ => by rw [hH], fun _ _ => by rw [hH], fun _ _ => by rw [hH], by rw [hH]; exact Nat.le_refl _, fun _ _ _ => by rw [hH], fun b h _ => ho b h,
  fun b h _ => .inl (by rw [hG] at h; exact h), fun b h _ => .inl (by rw [hF] at h; exact h)⟩
theorem zAs.refl (M : zA) : zAs M M := .same_mem rfl rfl rfl fun _ h => h
section
variable {na nt : Nat} {a0 : Nat → Value} {M0 : zA} {w0 w : World} {a : Act}
theorem zO.set_left {α β : Type} {R : α → β → Prop} {l : List α} {m : List β} (h : zO R l m) {j : Nat} {c : α} (hc : ∀ (h1 : j < l.length) (h2 : j < m.length), R c m[j]) : zO R (l.set j c) m := by
 refine zO.of_get (by rw [List.length_set]; exact h.length) fun i hi hi' => ?_
 rw [List.length_set] at hi
 by_cases e : j = i
 ·subst e
  rw [List.getElem_set_self]
  exact hc hi hi'
 ·rw [List.getElem_set_ne e]
  exact h.get i hi hi'
theorem yR6 {st : St} {s : Nat} {j : Option Nat} (r : vD false na nt a0 M0 w0 st a w) : vD false na nt a0 M0 w0 (zZ3 st s j) a w := by
 obtain ⟨M, h1, h2, h3, h4, h5⟩ := r.ex
 unfold zZ3
 split
 ·split
  ·rename_i c hs
   split
   ·rename_i c' u hf
    have hv := h5 s
    rw [hs] at hv
    rw [← h1] at hf
    obtain ⟨L, k1, k2, k3, k4, k5, _⟩ := zQm h3 (vY.refl _) (show zV M c _ from hv) hf
    refine ⟨⟨L, by rw [k2, h1], k1.trans h2, k3, h4.trans k4.grow, fun t => ?_⟩, r.defers, r.size, r.os, r.tape, r.output, r.keep⟩
    show zT _ (wL st.t s _ t) _
    unfold wL
    cases e : Nat.beq t s with
    | false => exact (h5 t).ext k4.ext
    | true =>
     have e : t = s := by simpa using e
     subst e
     exact k5
   ·exact r
  ·exact r
 ·rename_i j
  split
  ·rename_i id hs
   split
   ·rename_i cells hid
    split
    ·rename_i c qW
     split
     ·rename_i c' u hf
      have hid0 := hid
      rw [← h1] at hf hid
      obtain ⟨C0, hC0, hO0⟩ := h3.obj id _ hid
      obtain ⟨B0, vals0, e0, b10, b20, b30, b40, b50⟩ := hO0
      have hj : j < cells.length := (List.getElem?_eq_some_iff.1 qW).1
      have hjv : j < vals0.toList.length := by rw [← b40.length]; exact hj
      have hcv := b40.get j hj hjv
      have ec : cells[j] = c := (List.getElem?_eq_some_iff.1 qW).2
      rw [ec] at hcv
      obtain ⟨L, k1, k2, k3, k4, k5, k6, _⟩ := zQm h3 (vY.refl _) hcv hf
      have hidL : L.h id = some (.box true cells) := by
       rcases k6 id with h | ⟨own, t, xs, h, _⟩ | ⟨ver, xs, h, _⟩
       ·rw [h, hid]
       ·rw [hid] at h; cases h
       ·rw [hid] at h; cases h
      obtain ⟨C, hC, hO⟩ := k3.obj id _ hidL
      obtain ⟨B, vals, e, b1, b2, b3, b4, b5⟩ := hO
      obtain ⟨C1, hC1, le⟩ := k4.ext.κ id C0 hC0
      rw [hC] at hC1; cases hC1
      have eB : B = B0 := by rw [le.blk, b10] at b1; exact (Option.some.inj b1).symm
      subst eB
      rw [k1, b30] at b3
      cases b3
      have hx := zA.write_ext (H' := L.H) k3 hidL rfl hC C.le_refl (fun _ _ => rfl) (fun _ _ => rfl) (.box true (cells.set j c'))
      have hw := zA.write_ok (H' := L.H) (o' := .box true (cells.set j c')) k3 hidL rfl hC C.le_refl (fun _ h => h) rfl (fun _ _ => rfl) (fun _ _ => rfl) (by
       refine ⟨B, vals0, e0, b1, b2, by show L.H[B]? = _; rw [k1]; exact b30, ?_, fun h => (by cases h)⟩
       exact (b4.mono fun _ _ h => h.ext hx).set_left fun _ _ => k5.ext hx)
      refine ⟨⟨L.write id (.box true (cells.set j c')) C L.H, ?_, k1.trans h2, hw.1, (h4.trans k4.grow).trans hw.2.grow, fun t => ((h5 t).ext k4.ext).ext hx⟩, r.defers, r.size, r.os, r.tape, r.output, r.keep⟩
      show yC L.h id _ = yC (qE st.h u) id _
      rw [k2, h1]
     ·exact r
    ·exact r
   ·exact r
  ·rename_i cells hs
   split
   ·rename_i c qW
    split
    ·rename_i c' u hf
     have hv := h5 s
     rw [hs] at hv
     obtain ⟨vs, hvs, hall⟩ := hv
     rw [← h1] at hf
     have hj : j < cells.length := (List.getElem?_eq_some_iff.1 qW).1
     have hjv : j < vs.toList.length := by rw [← hall.length]; exact hj
     have hcv := hall.get j hj hjv
     have ec : cells[j] = c := (List.getElem?_eq_some_iff.1 qW).2
     rw [ec] at hcv
     obtain ⟨L, k1, k2, k3, k4, k5, k6, _⟩ := zQm h3 (vY.refl _) hcv hf
     refine ⟨⟨L, by rw [k2, h1], k1.trans h2, k3, h4.trans k4.grow, fun t => ?_⟩, r.defers, r.size, r.os, r.tape, r.output, r.keep⟩
     show zT _ (wL st.t s _ t) _
     unfold wL
     cases e : Nat.beq t s with
     | false => exact (h5 t).ext k4.ext
     | true =>
      have e : t = s := by simpa using e
      subst e
      exact ⟨vs, hvs, (hall.mono fun _ _ h => h.ext k4.ext).set_left fun _ _ => k5⟩
    ·exact r
   ·exact r
  ·exact r
theorem yTp {st : St} {nm : Nat} {g : Nat × Option Nat × Ty × Bool} (r : vD false na nt a0 M0 w0 st a w) (hnm : st.h nm = none) : vD false na nt a0 M0 w0 (qL8 st nm g) a w := by
 obtain ⟨M, h1, h2, h3, h4, h5⟩ := r.ex
 have hM : M.h nm = none := by rw [h1]; exact hnm
 obtain ⟨k1, k2, k3⟩ := M.nilObj_ok h3 hM g.2.2.1 g.2.2.2
 have hnil : zV (M.nilObj nm (zA1 g.2.2.1 g.2.2.2) (zBs g.2.2.1 g.2.2.2)) (.osl nm none) (.slice none 0 0) := ⟨_, κset_same _ _ _, none, 0, rfl, rfl, rfl, rfl⟩
 have gr : zE8 false M0 (M.nilObj nm (zA1 g.2.2.1 g.2.2.2) (zBs g.2.2.1 g.2.2.2)) := h4.trans (.same_mem rfl rfl rfl k3)
 unfold qL8
 cases hmark : g.2.2.2 && yKj g.2.2.1 with
 | true => exact yR6 r
 | false =>
 rw [cond_false]
 split
 ·split
  ·rename_i hs
   refine ⟨⟨M.nilObj nm (zA1 g.2.2.1 g.2.2.2) (zBs g.2.2.1 g.2.2.2), ?_, h2, k1, gr, fun t => ?_⟩, r.defers, r.size, r.os, r.tape, r.output, r.keep⟩
   ·show yC M.h nm _ = yC st.h nm _
    rw [h1]; rfl
   ·show zT _ (wL st.t g.1 _ t) _
    unfold wL
    cases e : Nat.beq t g.1 with
    | false => exact (h5 t).ext k2
    | true =>
     have e : t = g.1 := by simpa using e
     subst e
     have hv := h5 g.1
     rw [hs] at hv
     have hv : a.tmps.getD g.1 undef = .slice none 0 0 := hv
     rw [hv]; exact hnil
  ·exact r
 ·rename_i j hj
  split
  ·rename_i id hs
   split
   ·rename_i cells hid
    split
    ·rename_i qW
     have hne : id ≠ nm := fun e => by rw [e, hnm] at hid; cases hid
     let M1 := M.nilObj nm (zA1 g.2.2.1 g.2.2.2) (zBs g.2.2.1 g.2.2.2)
     have hid1 : M1.h id = some (.box true cells) := by
      show yC M.h nm _ id = _
      rw [yE _ _ hne, h1]; exact hid
     obtain ⟨C, hC, hO⟩ := k1.obj id _ hid1
     obtain ⟨B, vals, e, b1, b2, b3, b4, b5⟩ := hO
     have hx := zA.write_ext (H' := M1.H) k1 hid1 rfl hC C.le_refl (fun _ _ => rfl) (fun _ _ => rfl) (.box true (cells.set j (.osl nm none)))
     have hw := zA.write_ok (H' := M1.H) (o' := .box true (cells.set j (.osl nm none))) k1 hid1 rfl hC C.le_refl (fun _ h => h) rfl (fun _ _ => rfl) (fun _ _ => rfl) (by
      refine ⟨B, vals, e, b1, b2, b3, ?_, fun h => (by cases h)⟩
      have hl := b4.length
      refine zO.of_get (by simpa using hl) fun i hi hi' => ?_
      have hb := b4.get i (by simpa using hi) hi'
      by_cases eij : j = i
      ·subst eij
       rw [List.getElem_set_self]
       have hlt : j < cells.length := by simpa using hi
       have ec : cells[j] = .nsl := by
        rw [List.getElem?_eq_getElem hlt] at qW
        exact Option.some.inj qW
       rw [ec] at hb
       have hb : vals.toList[j] = .slice none 0 0 := hb
       rw [hb]
       exact hnil.ext hx
      ·rw [List.getElem_set_ne eij]
       exact hb.ext hx)
     refine ⟨⟨M1.write id (.box true (cells.set j (.osl nm none))) C M1.H, ?_, h2, hw.1, gr.trans hw.2.grow, fun t => ((h5 t).ext k2).ext hx⟩, r.defers, r.size, r.os, r.tape, r.output, r.keep⟩
     show yC (yC M.h nm _) id _ = yC (yC st.h nm _) id _
     rw [h1]; rfl
    ·exact r
   ·exact r
  ·exact r
theorem qU0 : ∀ {l : List (Nat × Option Nat × Ty × Bool)} {st st' : St} {nm : Nat}, vD false na nt a0 M0 w0 st a w → zSs st nm l = some st' → vD false na nt a0 M0 w0 st' a w
 | [], st, st', nm, r, h => by cases h; exact r
 | g :: l, st, st', nm, r, h => by
  unfold zSs at h
  split at h
  ·rename_i hnm
   exact qU0 (yTp r hnm) h
  ·cases h
theorem yEm {id : Nat} : ∀ {l : List Nat} {n i : Nat}, wY id l n = some i → n ≤ i ∧ l[i - n]? = some id
 | [], n, i, h => by cases h
 | x :: l, n, i, h => by
  unfold wY at h
  cases e : Nat.beq x id with
  | true =>
   rw [e] at h
   cases h
   have : x = id := by simpa using e
   exact ⟨Nat.le_refl _, by simp [this]⟩
  | false =>
   rw [e] at h
   obtain ⟨h1, h2⟩ := yEm (l := l) h
   refine ⟨by omega, ?_⟩
   rw [show i - n = (i - (n + 1)) + 1 by omega, List.getElem?_cons_succ]
   exact h2
theorem qBj {h : Hp} : ∀ (n : Nat) {todo seen : List Nat}, seen.Nodup → (zL5 h n todo seen).Nodup
 | 0, _, _, hs => hs
 | n + 1, [], _, hs => hs
 | n + 1, id :: todo, seen, hs => by
  unfold zL5
  cases e : seen.any (Nat.beq id) with
  | true => exact qBj n hs
  | false =>
   refine qBj n (List.nodup_append.2 ⟨hs, by simp, fun x hx y hy exy => ?_⟩)
   have : y = id := by simpa using hy
   subst this
   subst exy
   have := List.any_eq_false.1 e x hx
   simp at this
def zDl (base : Nat) (κ : Nat → Option zR) (ids : List Nat) : Nat → Option zR := fun n => if base ≤ n then (match ids[n - base]? with
 | some id => (κ id).map fun C => { C with ver := 0 }
 | none => none) else none
def zA.ren (M : zA) (base : Nat) (ids : List Nat) : zA := { M with κ := zDl base M.κ ids, h := zIh base M.h ids }
theorem vE9 {base : Nat} {h : Hp} {ids : List Nat} {n : Nat} {o : Obj} (e : zIh base h ids n = some o) : ∃ id o', base ≤ n ∧ ids[n - base]? = some id ∧ h id = some o' ∧ o = zG9 h (fun i => (wY i ids 0).map (base + ·)) o' := by
 unfold zIh at e
 cases hb : Nat.ble base n with
 | false => rw [hb] at e; cases e
 | true =>
  rw [hb] at e
  simp only [cond_true] at e
  split at e
  ·rename_i id hid
   obtain ⟨o', h1, h2⟩ := Option.map_eq_some_iff.1 e
   exact ⟨id, o', Nat.le_of_ble_eq_true hb, hid, h1, h2.symm⟩
  ·cases e
theorem yVd {base : Nat} {κ : Nat → Option zR} {ids : List Nat} {id i : Nat} {C : zR} (hi : wY id ids 0 = some i) (hC : κ id = some C) : zDl base κ ids (base + i) = some { C with ver := 0 } := by
 obtain ⟨_, h⟩ := yEm hi
 unfold zDl
 rw [if_pos (by omega), show base + i - base = i by omega]
 rw [Nat.sub_zero] at h
 rw [h]
 simp [hC]
theorem qLf {M : zA} (ok : Ok M) {base : Nat} {ids : List Nat} {c : zG} {v : Value} (h : zV M c v) : zV (M.ren base ids) (zGe M.h (fun i => (wY i ids 0).map (base + ·)) c) v := by
 have h1 := h.one
 have look : ∀ id C, M.κ id = some C → ∀ i, (wY id ids 0).map (base + ·) = some i → (M.ren base ids).κ i = some { C with ver := 0 } := fun id C hC i hi => by
  obtain ⟨j, hj, rfl⟩ := Option.map_eq_some_iff.1 hi
  exact yVd hj hC
 unfold zGe
 cases c with
 | osl id r =>
  dsimp only
  obtain ⟨C, hC, h⟩ := h
  cases e : (wY id ids 0).map (base + ·) with
  | none => exact h1
  | some i => cases r with
   | none => exact ⟨_, look id C hC i e, h⟩
   | some p => exact ⟨_, look id C hC i e, h⟩
 | bsl id x y =>
  dsimp only
  obtain ⟨C, B, hC, h⟩ := h
  cases e : (wY id ids 0).map (base + ·) with
  | none => exact h1
  | some i => exact ⟨_, B, look id C hC i e, h⟩
 | ptr id x =>
  dsimp only
  obtain ⟨C, B, hC, h⟩ := h
  cases e : (wY id ids 0).map (base + ·) with
  | none => exact h1
  | some i => exact ⟨_, B, look id C hC i e, h⟩
 | eptr id x y =>
  dsimp only
  obtain ⟨C, B, hC, h⟩ := h
  cases e : (wY id ids 0).map (base + ·) with
  | none => exact h1
  | some i => exact ⟨_, B, look id C hC i e, h⟩
 | mrow id x ver =>
  dsimp only
  obtain ⟨C, hC, ho, hle, h⟩ := h
  cases e : (wY id ids 0).map (base + ·) with
  | none => exact h1
  | some i =>
   split
   ·rename_i i' v' xs ei hid
    cases ei
    cases hver : Nat.beq v' ver with
    | false => exact h1
    | true =>
     have hv' : v' = ver := by simpa using hver
     obtain ⟨C', hC', hO⟩ := ok.obj id _ hid
     rw [hC] at hC'; cases hC'
     exact ⟨_, look id C hC i e, h1, Nat.le_refl _, fun _ => h (by rw [hO.1, hv'])⟩
   ·exact h1
 | mptr id x =>
  dsimp only
  obtain ⟨C, B, hC, h⟩ := h
  cases e : (wY id ids 0).map (base + ·) with
  | none => exact h1
  | some i => exact ⟨_, B, look id C hC i e, h⟩
 | meptr id x y ver =>
  dsimp only
  obtain ⟨C, hC, ho, hle, h⟩ := h
  cases e : (wY id ids 0).map (base + ·) with
  | none => exact h1
  | some i =>
   split
   ·rename_i i' v' xs ei hid
    cases ei
    cases hver : Nat.beq v' ver with
    | false => exact h1
    | true =>
     have hv' : v' = ver := by simpa using hver
     obtain ⟨C', hC', hO⟩ := ok.obj id _ hid
     rw [hC] at hC'; cases hC'
     exact ⟨_, look id C hC i e, h1, Nat.le_refl _, fun _ => h (by rw [hO.1, hv'])⟩
   ·exact h1
 | map id =>
  dsimp only
  obtain ⟨C, B, hC, h⟩ := h
  cases e : (wY id ids 0).map (base + ·) with
  | none => exact h1
  | some i => exact ⟨_, B, look id C hC i e, h⟩
 | fn f cap =>
  dsimp only
  obtain ⟨cv, rfl, h⟩ := h
  split
  ·rename_i c hc
   refine ⟨cv, rfl, ?_⟩
   have := zN4 _ _ _ hc
   generalize cv.toList = l at h
   clear hc h1
   induction cap generalizing c l with
   | nil => cases c with
    | nil => cases l with
     | nil => trivial
     | cons _ _ => exact h.elim
    | cons _ _ => exact this.elim
   | cons x cap ih => cases c with
    | nil => exact this.elim
    | cons y c => cases l with
     | nil => exact h.elim
     | cons u l =>
      obtain ⟨⟨C, B, hC, hh⟩, h⟩ := h
      exact ⟨⟨_, B, look x C hC y this.1, hh⟩, ih c this.2 l h⟩
  ·exact h1
 | fsl sh t xs => exact h
 | fptr sh t x off => exact h
 | _ => exact h
theorem zOw {M : zA} (ok : Ok M) {base : Nat} {ids : List Nat} : ∀ {cs : List zG} {vs : List Value}, zO (zV M) cs vs → zO (zV (M.ren base ids)) (cs.map (zGe M.h fun i => (wY i ids 0).map (base + ·))) vs
 | [], [], _ => trivial
 | _ :: _, _ :: _, h => ⟨qLf ok h.1, zOw ok h.2⟩
 | [], _ :: _, h => h.elim
 | _ :: _, [], h => h.elim
theorem yRh {M : zA} (ok : Ok M) {base : Nat} {ids : List Nat} {x : zD} {v : Value} (h : zT M x v) : zT (M.ren base ids) (yIs M.h (fun i => (wY i ids 0).map (base + ·)) x) v := by
 cases x with
 | undef => trivial
 | skp => exact h
 | c x => exact qLf (c := x) ok h
 | agg cs =>
  obtain ⟨vs, h1, h2⟩ := h
  exact ⟨vs, h1, zOw ok h2⟩
 | tup xs =>
  obtain ⟨vs, h1, h2⟩ := h
  refine ⟨vs, h1, zO.map_left (h2.mono fun p u hp => ?_)⟩
  obtain ⟨b, cs⟩ := p
  cases b with
  | true =>
   obtain ⟨us, q1, q2⟩ := hp
   exact ⟨us, q1, zOw ok q2⟩
  | false =>
   cases cs with
   | nil => exact hp
   | cons c cs => cases cs with
    | nil => exact qLf (c := c) ok hp
    | cons _ _ => exact hp
theorem yA1 {M : zA} (ok : Ok M) {base : Nat} {ids : List Nat} {o : Obj} {C : zR} (h : yM M o C) : yM (M.ren base ids) (zG9 M.h (fun i => (wY i ids 0).map (base + ·)) o) { C with ver := 0 } := by
 cases o with
 | box own cells =>
  obtain ⟨B, vals, e, h1, h2, h3, h4, h5⟩ := h
  exact ⟨B, vals, e, h1, h2, h3, zOw ok h4, h5⟩
 | robox cells =>
  obtain ⟨B, vals, e, h1, h2, h3, h4, h5⟩ := h
  exact ⟨B, vals, e, h1, h2, h3, zOw ok h4, h5⟩
 | arr own t xs => exact h
 | mat ver xs =>
  obtain ⟨h1, h2⟩ := h
  exact ⟨rfl, h2⟩
 | pmat ver xs n =>
  obtain ⟨h1, h2⟩ := h
  exact ⟨rfl, h2⟩
 | imap kvs => exact h
 | gone => trivial
theorem qH6 {h : Hp} {ρ : Nat → Option Nat} (o : Obj) : (zG9 h ρ o).owned = o.owned := by cases o <;> rfl
theorem zA.ren_ok {M : zA} (ok : Ok M) {base : Nat} {ids : List Nat} (hnd : ids.Nodup) : Ok (M.ren base ids) ∧ ∀ b, qN (M.ren base ids) b → qN M b := by
 have at' : ∀ n o, (M.ren base ids).h n = some o → ∃ id o' C, base ≤ n ∧ ids[n - base]? = some id ∧ M.h id = some o' ∧ M.κ id = some C ∧ o = zG9 M.h (fun i => (wY i ids 0).map (base + ·)) o' ∧ yM M o' C ∧ (M.ren base ids).κ n = some { C with ver := 0 } := fun n o h => by
  obtain ⟨id, o', h1, h2, h3, h4⟩ := vE9 h
  obtain ⟨C, hC, hO⟩ := ok.obj id _ h3
  refine ⟨id, o', C, h1, h2, h3, hC, h4, hO, ?_⟩
  show zDl base M.κ ids n = _
  unfold zDl
  rw [if_pos h1, h2]
  simp [hC]
 have own' : ∀ b, qN (M.ren base ids) b → qN M b := fun b ⟨n, o, C, h1, h2, h3, h4⟩ => by
  obtain ⟨id, o', C', k1, k2, k3, k4, k5, k6, k7⟩ := at' n o h1
  rw [k7] at h3
  cases h3
  exact ⟨id, o', C', k3, by rw [← h2, k5, qH6], k4, h4⟩
 refine ⟨⟨fun n o h => ?_, fun n h => ?_, fun i j oi oj Ci Cj b hij h1 h2 h3 h4 h5 h6 h7 h8 => ?_, fun b h => ok.own b (own' b h), ok.GF, ok.Flt⟩, own'⟩
 ·obtain ⟨id, o', C, k1, k2, k3, k4, rfl, k6, k7⟩ := at' n o h
  exact ⟨_, k7, yA1 ok k6⟩
 ·show zDl base M.κ ids n = none
  unfold zDl
  split
  ·rename_i hb
   split
   ·rename_i id hid
    have : M.h id = none := by
     cases e : M.h id with
     | none => rfl
     | some o =>
      have : (M.ren base ids).h n = some (zG9 M.h (fun i => (wY i ids 0).map (base + ·)) o) := by
       show zIh base M.h ids n = _
       unfold zIh
       rw [show Nat.ble base n = true from Nat.ble_eq_true_of_le hb, hid]
       simp [e]
      rw [this] at h; cases h
    rw [ok.non id this]; rfl
   ·rfl
  ·rfl
 ·obtain ⟨id, o', C, k1, k2, k3, k4, k5, k6, k7⟩ := at' i oi h1
  obtain ⟨jd, p', D, q1, q2, q3, q4, q5, q6, q7⟩ := at' j oj h2
  rw [k7] at h5
  rw [q7] at h6
  cases h5
  cases h6
  refine ok.disj id jd o' p' C D b (fun e => ?_) k3 q3 (by rw [← h3, k5, qH6]) (by rw [← h4, q5, qH6]) k4 q4 h7 h8
  subst e
  have hi := (List.getElem?_eq_some_iff.1 k2)
  have hj := (List.getElem?_eq_some_iff.1 q2)
  have := (List.getElem_inj (h₀ := hi.1) (h₁ := hj.1) hnd).1 (by rw [hi.2, hj.2])
  omega
theorem qVe : ∀ {a b : List Nat}, zT2 a b = true → a = b
 | [], [], _ => rfl
 | x :: a, y :: b, h => by
  simp only [zT2, Bool.and_eq_true] at h
  rw [Nat.eq_of_beq_eq_true h.1, qVe h.2]
 | [], _ :: _, h => by cases h
 | _ :: _, [], h => by cases h
theorem yXx {c v : zG} (h : qDh c v = true) : c = .undef ∨ c = v := by
 unfold qDh at h
 split at h
 ·exact .inl rfl
 ·exact .inr rfl
 ·exact .inr rfl
 ·exact .inr rfl
 ·exact .inr rfl
 ·exact .inr (by rw [Nat.eq_of_beq_eq_true h])
 ·simp only [Bool.and_eq_true] at h
  exact .inr (by rw [Nat.eq_of_beq_eq_true h.1.1, Nat.eq_of_beq_eq_true h.1.2, Nat.eq_of_beq_eq_true h.2])
 ·simp only [Bool.and_eq_true] at h
  exact .inr (by rw [Nat.eq_of_beq_eq_true h.1, Nat.eq_of_beq_eq_true h.2])
 ·simp only [Bool.and_eq_true] at h
  exact .inr (by rw [Nat.eq_of_beq_eq_true h.1, qVe h.2])
 ·exact .inr (by rw [Nat.eq_of_beq_eq_true h])
 ·cases h
theorem zCc {α : Type} {c : Bool} {x : Option α} {y : α} (h : (bif c then x else none) = some y) : c = true ∧ x = some y := by
 cases c with
 | true => exact ⟨rfl, h⟩
 | false => cases h
theorem zFv {M : zA} (ok : Ok M) : ∀ {l : List CS} {cs : List zG} {d : SL l} {vs : List Value}, zA3 l cs = some d → zO (zV M) cs vs → zO (zV M) (zDq l d) vs
 | [], [], _, [], _, _ => trivial
 | .int k :: l, c :: cs, d, v :: vs, h, hv => by
  cases c <;> first | (cases h; done) | skip
  unfold zA3 at h
  obtain ⟨hk, h⟩ := zCc h
  split at h
  ·rename_i d' hd
   cases h
   refine ⟨?_, zFv ok hd hv.2⟩
   rw [← zG3 hk]; exact hv.1
  ·cases h
 | .bool :: l, c :: cs, d, v :: vs, h, hv => by
  cases c <;> first | (cases h; done) | skip
  unfold zA3 at h
  split at h
  ·rename_i d' hd
   cases h
   exact ⟨hv.1, zFv ok hd hv.2⟩
  ·cases h
 | .dat sh t :: l, c :: cs, d, v :: vs, h, hv => by
  cases c <;> first | (cases h; done) | skip
  ·rename_i sh' s xs
   unfold zA3 at h
   obtain ⟨hs, h⟩ := zCc h
   split at h
   ·rename_i ys d' hx hd
    cases h
    obtain ⟨e, hx⟩ := zBg hx
    subst e
    subst hx
    refine ⟨?_, zFv ok hd hv.2⟩
    have h1 : zW M.H (bif sh' then M.G else M.F) (.sl s) xs (fun _ => some v) := hv.1
    cases sh with
    | true =>
     have : sh' = true := by simpa using hs
     subst this
     exact h1
    | false => cases sh' with
     | false => exact h1
     | true => exact yL ok.GF (fun _ _ => rfl) _ _ _ _ (fun _ _ => rfl) h1
   ·cases h
  ·unfold zA3 at h
   split at h
   ·rename_i d' hd
    cases h
    refine ⟨?_, zFv ok hd hv.2⟩
    rw [show v = .slice none 0 0 from hv.1]
    exact ⟨none, 0, 0, rfl, rfl, Nat.le_refl _, .inl ⟨rfl, fun _ => rfl⟩⟩
   ·cases h
 | .lit c :: l, x :: cs, d, v :: vs, h, hv => by
  unfold zA3 at h
  obtain ⟨he, h⟩ := zCc h
  refine ⟨?_, zFv ok h hv.2⟩
  rcases yXx he with rfl | rfl
  ·exact hv.1.one
  ·exact hv.1
 | [], _ :: _, _, _, h, _ => by cases h
 | .int _ :: _, [], _, _, h, _ => by cases h
 | .bool :: _, [], _, _, h, _ => by cases h
 | .dat _ _ :: _, [], _, _, h, _ => by cases h
 | .lit _ :: _, [], _, _, h, _ => by cases h
 | [], [], _, _ :: _, _, hv => hv.elim
 | _ :: _, _ :: _, _, [], _, hv => hv.elim
theorem vEe {M : zA} (ok : Ok M) {v : VS} {a : zD} {d : SL v.cells} {rv : Value} (h : qOo v a = some d) (hv : zT M a rv) : zT M (qIo v d) rv := by
 cases v with
 | c x =>
  cases a with
  | c y =>
   have := zFv ok (vs := [rv]) (show zA3 [x] [y] = some d from h) ⟨hv, trivial⟩
   show zT M (match zDq [x] d with | c :: _ => .c c | [] => .undef) rv
   match hh : zDq [x] d, this with
   | [c], this => exact this.1
  | _ => cases h
 | agg l =>
  cases a with
  | agg vs =>
   obtain ⟨us, rfl, hx⟩ := hv
   exact ⟨us, rfl, zFv ok (show zA3 l vs = some d from h) hx⟩
  | _ => cases h
theorem yZj {M : zA} (ok : Ok M) {o : OS} {x : Obj} {d : o.den} {C : zR} (h : zVi o x = some d) (hO : yM M x C) (hv : C.ver = 0) : yM M (zWe o d) C ∧ (zWe o d).owned = x.owned := by
 unfold zVi at h
 split at h
 ·obtain ⟨he, h'⟩ := zCc h
  have he := eq_of_beq he
  subst he
  clear h
  obtain ⟨B, vals, e, h1, h2, h3, h4, h5⟩ := hO
  exact ⟨⟨B, vals, e, h1, h2, h3, zFv ok h' h4, h5⟩, rfl⟩
 ·obtain ⟨B, vals, e, h1, h2, h3, h4, h5⟩ := hO
  exact ⟨⟨B, vals, e, h1, h2, h3, zFv ok h h4, h5⟩, rfl⟩
 ·obtain ⟨he, h'⟩ := zCc h
  have he := eq_of_beq he
  subst he
  clear h
  obtain ⟨e, hx⟩ := zBg h'
  subst e
  subst hx
  exact ⟨hO, rfl⟩
 ·cases h
  exact ⟨⟨hv, hO.2⟩, rfl⟩
 ·cases h
  exact ⟨⟨hv, hO.2⟩, rfl⟩
 ·cases h
  exact ⟨hO, rfl⟩
 ·cases h
theorem qSd {f : zD → zD} {t : Nat → zD} : ∀ {l : List (Nat × VS)} {d : SV l} {n : Nat} {v : zD}, zTc f t l = some d → (zJq l d).lookup n = some v → ∃ (s : VS) (x : SL s.cells), qOo s (f (t n)) = some x ∧ v = qIo s x
 | [], d, n, v, _, h => by cases h
 | s :: l, d, n, v, hr, h => by
  unfold zTc at hr
  split at hr
  ·rename_i x ds h1 h2
   cases hr
   unfold zJq at h
   rw [List.lookup_cons] at h
   cases e : n == s.1 with
   | true =>
    rw [e] at h
    cases h
    have : n = s.1 := by simpa using e
    rw [this]
    exact ⟨s.2, x, h1, rfl⟩
   | false =>
    rw [e] at h
    exact qSd h2 h
  ·cases hr
theorem qZi {f : Obj → Obj} {h0 : Hp} : ∀ {l : List OS} {ids : List Nat} {d : OL l}, zVu f h0 l ids = some d → (zDz l d).length = ids.length ∧ ∀ (i : Nat) (o : Obj), (zDz l d)[i]? = some o → ∃ (s : OS) (x : s.den) (id : Nat) (y : Obj), ids[i]? = some id ∧ h0 id = some y ∧ zVi s (f y) = some x ∧ o = zWe s x
 | [], [], d, _ => ⟨rfl, fun i o h => by simp [zDz] at h⟩
 | s :: l, id :: ids, d, h => by
  unfold zVu at h
  split at h
  ·rename_i x ds h1 h2
   cases h
   obtain ⟨y, h3, h4⟩ := Option.bind_eq_some_iff.1 h1
   obtain ⟨k1, k2⟩ := qZi h2
   refine ⟨by simp [zDz, k1], fun i o hi => ?_⟩
   cases i with
   | zero =>
    simp only [zDz, List.getElem?_cons_zero, Option.some.injEq] at hi
    exact ⟨s, x, id, y, rfl, h3, h4, hi.symm⟩
   | succ i =>
    simp only [zDz, List.getElem?_cons_succ] at hi
    exact k2 i o hi
  ·cases h
 | [], _ :: _, _, h => by cases h
 | _ :: _, [], _, h => by cases h
theorem vCx {g0 base n : Nat} {S : zM} {st : St} {d : S.den} (r : vD false na nt a0 M0 w0 st a w) (h : qIu g0 base n S st = some d) : vD false na nt a0 M0 w0 (zU base S d) a w := by
 unfold qIu at h
 split at h
 ·cases h
 rename_i st1 hg
 have r := qU0 r hg
 dsimp only at h
 generalize hids : zL5 st1.h n _ [] = ids at h
 have hnd : ids.Nodup := by rw [← hids]; exact qBj n List.nodup_nil
 split at h
 case h_2 => cases h
 rename_i da db ha hb
 cases h
 obtain ⟨M, h1, h2, h3, h4, h5⟩ := r.ex
 rw [← h1] at ha hb
 obtain ⟨k1, k2⟩ := M.ren_ok h3 (base := base) hnd
 obtain ⟨ol, oa⟩ := qZi hb
 let M' : zA := { M.ren base ids with h := (zU base S (da, db)).h }
 have hM' : ∀ n o', M'.h n = some o' → ∃ o C, (M.ren base ids).h n = some o ∧ M'.κ n = some C ∧ yM (M.ren base ids) o' C ∧ o'.owned = o.owned := fun m o' e => by
  have e : (bif Nat.ble base m then (zDz S.objs db)[m - base]? else none) = some o' := e
  obtain ⟨hle, e⟩ := zCc e
  obtain ⟨s, x, id, y, q1, q2, q3, rfl⟩ := oa _ _ e
  obtain ⟨C, hC, hO⟩ := h3.obj id y q2
  have hκ : (M.ren base ids).κ m = some { C with ver := 0 } := by
   show zDl base M.κ ids m = _
   unfold zDl
   rw [if_pos (Nat.le_of_ble_eq_true hle), q1]
   simp [hC]
  have hh : (M.ren base ids).h m = some (zG9 M.h (fun i => (wY i ids 0).map (base + ·)) y) := by
   show zIh base M.h ids m = _
   unfold zIh
   rw [hle, q1]
   simp [q2]
  obtain ⟨p1, p2⟩ := yZj k1 q3 (yA1 h3 hO) rfl
  exact ⟨_, _, hh, hκ, p1, p2⟩
 have x : yG (M.ren base ids) M' := ⟨fun _ C h => ⟨C, h, C.le_refl⟩, fun _ h => h, fun _ h => h, fun _ _ => rfl, fun _ _ => rfl, fun _ _ => rfl⟩
 have hown : ∀ b, qN M' b → qN (M.ren base ids) b := fun b ⟨id, o', C, q1, q2, q3, q4⟩ => by
  obtain ⟨o, D, p1, p2, p3, p4⟩ := hM' id o' q1
  exact ⟨id, o, C, p1, by rw [← p4]; exact q2, q3, q4⟩
 have ok' : Ok M' := by
  refine ⟨fun id o' q => ?_, fun id q => ?_, fun i j oi oj Ci Cj b hij q1 q2 q3 q4 q5 q6 q7 q8 => ?_, fun b hb => k1.own b (hown b hb), k1.GF, k1.Flt⟩
  ·obtain ⟨o, C, p1, p2, p3, p4⟩ := hM' id o' q
   exact ⟨C, p2, p3.ext x fun _ _ _ => rfl⟩
  ·have q : (bif Nat.ble base id then (zDz S.objs db)[id - base]? else none) = none := q
   show zDl base M.κ ids id = none
   unfold zDl
   cases hle : Nat.ble base id with
   | false => rw [if_neg fun h => by rw [Nat.ble_eq_true_of_le h] at hle; cases hle]
   | true =>
    rw [hle] at q
    have q : (zDz S.objs db)[id - base]? = none := q
    rw [List.getElem?_eq_none_iff, ol] at q
    rw [List.getElem?_eq_none q]
    split <;> rfl
  ·obtain ⟨o1, C1, p1, p2, p3, p4⟩ := hM' i oi q1
   obtain ⟨o2, C2, p5, p6, p7, p8⟩ := hM' j oj q2
   exact k1.disj i j o1 o2 Ci Cj b hij p1 p5 (by rw [← p4]; exact q3) (by rw [← p8]; exact q4) q5 q6 q7 q8
 refine ⟨⟨M', rfl, h2, ok', h4.trans (.same_mem rfl rfl rfl fun b hb => k2 b (hown b hb)), fun m => ?_⟩, r.defers, r.size, r.os, r.tape, r.output, r.keep⟩
 show zT M' (match (zJq S.slots da).lookup m with | some v => v | none => .undef) _
 cases hl : (zJq S.slots da).lookup m with
 | none => trivial
 | some v =>
  obtain ⟨s, y, q1, rfl⟩ := qSd ha hl
  exact (vEe k1 q1 (yRh h3 (h5 m))).ext x
theorem zTl {pre : Nat} {S : zM} {st : St} {d : S.den} (r : vD false na nt a0 M0 w0 st a w) (h : zRl pre S st = some d) : vD false na nt a0 M0 w0 (zU (pre + zAc) S d) a w := vCx r h
end
def Ex.toExit : Ex → Exit
 | .normal => .normal
 | .ret => .ret
 | .exit id => .exit id
theorem qWd {P : Program} {Q : Exit → Act → World → Prop} {c : Code} (I : Nat → Act → World → Prop) (round : ∀ n a w, I n a w → c.wp P (Exit.then (fun a' w' => ∃ m, m < n ∧ I m a' w') Q) a w) {n : Nat} {a : Act} {w : World} (h₀ : I n a w) : (Code.loop c).wp P Q a w := by
 intro b k cs
 have key : ∀ n a w, I n a w → ∃ e a' w', Q e a' w' ∧ Arrives P (lone (b.at a (.code c :: .inLoop c :: k)) cs w) b k cs e a' w' := by
  intro n
  induction n using Nat.strongRecOn with
  | _ n ih =>
   intro a w hI
   obtain ⟨e, a₁, w₁, hq, harr⟩ := round n a w hI b (.inLoop c :: k) cs
   cases e with
   | normal =>
    obtain ⟨m, hm, hI₁⟩ := hq
    obtain ⟨e₂, a₂, w₂, hq₂, harr₂⟩ := ih m hm a₁ w₁ hI₁
    exact ⟨e₂, a₂, w₂, hq₂, .of_steps (Steps.trans harr (.one step_inLoop)) harr₂⟩
   | exit id => exact ⟨_, a₁, w₁, hq, .pass (x := .inLoop c) rfl (fun _ _ => .inl (by simp)) harr⟩
   | goto l => exact ⟨_, a₁, w₁, hq, .pass (x := .inLoop c) rfl (fun _ _ => .inl (by simp)) harr⟩
   | ret => exact ⟨_, a₁, w₁, hq, .pass (x := .inLoop c) rfl (fun _ _ => .inl (by simp)) harr⟩
   | panic ch => exact ⟨_, a₁, w₁, hq, .pass (x := .inLoop c) rfl (fun _ _ => .inl (by simp)) harr⟩
   | outgrown => exact ⟨_, a₁, w₁, hq, .pass (x := .inLoop c) rfl (fun _ _ => .inl (by simp)) harr⟩
 obtain ⟨e, a', w', hq, harr⟩ := key n a w h₀
 exact ⟨e, a', w', hq, .of_steps (.one step_loop) harr⟩
def zVe (tmps : Array Value) : ResultVar → Sem Value
 | .tmp t => pure (tmps.getD t undef)
 | .cell c t => do loadVar t (← asAddr (tmps.getD c undef))
def zHs (base : Nat) : (l : List (Ex × zM)) → zCo l → Ex × St
 | [], d => (.normal, ⟨fun _ => .undef, fun _ => none⟩)
 | [p], d => (p.1, zU base p.2 d)
 | p :: q :: l, d => match d with
  | .inl d => (p.1, zU base p.2 d)
  | .inr d => zHs base (q :: l) d
theorem yEz {R : Type} {base : Nat} {K : Ex → St → Option R} {out : R} : ∀ {l : List (Ex × zM)} {d : zCo l}, zLh base l d K = some out → K (zHs base l d).1 (zHs base l d).2 = some out
 | [], _, h => by cases h
 | [p], _, h => h
 | p :: q :: l, .inl d, h => h
 | p :: q :: l, .inr d, h => yEz (l := q :: l) h
def zQ7 (base : Nat) : (l : List zM) → InD l → St
 | [], _ => ⟨fun _ => .undef, fun _ => none⟩
 | [S], d => zU base S d
 | S :: T :: l, d => match d with
  | .inl d => zU base S d
  | .inr d => zQ7 base (T :: l) d
theorem yCw {R : Type} {base : Nat} {K : St → Option R} {out : R} : ∀ {l : List zM} {d : InD l}, zVn base l d K = some out → K (zQ7 base l d) = some out
 | [], _, h => by cases h
 | [S], _, h => h
 | S :: T :: l, .inl d, h => h
 | S :: T :: l, .inr d, h => yCw (l := T :: l) h
def qF (P : Program) (pre na nt : Nat) (b : Code) (L : qG) : Prop := ∀ k d x, L.sum k d = some x → ∀ (a0 : Nat → Value) (M0 : zA) (w0 : World) (a : Act) (w : World) (Q : Exit → Act → World → Prop),
 vD false na nt a0 M0 w0 (zQ7 (pre + zAc) L.ins d) a w →
 (∀ (o : zCo L.outs) a' w', (∀ R K, L.elim (pre + zAc) x R K = zLh (pre + zAc) L.outs o K) → vD false na nt a0 M0 w0 (zHs (pre + zAc) L.outs o).2 a' w' → Q (zHs (pre + zAc) L.outs o).1.toExit a' w') →
 (Code.loop b).wp P Q a w
def vM (P : Program) (A : zZ) (pre na nt : Nat) : Code → Prop
 | .seq a b => vM P A pre na nt a ∧ vM P A pre na nt b
 | .cond _ a b => vM P A pre na nt a ∧ vM P A pre na nt b
 | .block _ b => vM P A pre na nt b
 | .loop b => (∀ L, zG0 A b = some L → qF P pre na nt b L) ∧ (zG0 A b = none → vM P A pre na nt b)
 | _ => True
theorem yMn {A : zZ} {c : Operand} {b : Bool} {st : St} (h : st.ev c = .c (.bool b)) : zW9 A c b st = st := by
 unfold zW9
 split
 ·rename_i s _
  have h : st.t s = .c (.bool b) := h
  rw [qB8 h]
 ·rfl
section
variable {nl : Bool} {E : qA} {A : zZ} {k pre na nt : Nat} {a0 : Nat → Value} {R : Type} {M0 : zA} {w0 : World} {out : R}
theorem qC3 {a : Act} {w : World} {st : St} (r : vD false na nt a0 M0 w0 st a w) : ∀ {l : List zM} {x : InD l}, zMs pre l st = some x → vD false na nt a0 M0 w0 (zQ7 (pre + zAc) l x) a w
 | [], _, h => by cases h
 | [S], x, h => zTl r h
 | S :: T :: l, x, h => by
  unfold zMs at h
  split at h
  ·rename_i d hd
   cases h
   exact zTl r hd
  ·split at h
   ·rename_i d hd
    cases h
    exact qC3 r (l := T :: l) hd
   ·cases h
theorem yG8 (hE : jI E) (hS : zAt E.sums) (hm : E.P.follows .mixedOrders = true) (hnl : nl = true → A.loops = []) : ∀ (c : Code), vM E.P A pre na nt c → ∀ (st : St) (K : Ex → St → Option R) (a : Act) (w : World) (Q : Exit → Act → World → Prop), evC E A k pre na nt c st K = some out → vD nl na nt a0 M0 w0 st a w →
  (∀ e st' a' w', vD nl na nt a0 M0 w0 st' a' w' → K e st' = some out → Q e.toExit a' w') → c.wp E.P Q a w := by
 intro c
 induction c with
 | skip => exact fun _ st K a w Q h r hK => wp_skip (hK .normal st a w r h)
 | region id ops draw =>
  intro _ st K a w Q h r hK
  cases draw with
  | true =>
   cases he : zOt ops with
   | false => simp only [evC, he] at h; cases h
   | true =>
    simp only [evC, he] at h
    exact yPx hE hS hm he h r fun st' a' w' r' h' => hK .normal st' a' w' r' h'
  | false =>
   simp only [evC] at h
   have := qXu hE (Q := Q) _ _ _ _ a w (fun p hp => by
    obtain ⟨q, hq, rfl⟩ := List.mem_map.1 hp
    have := List.mem_zipIdx_iff_getElem?.1 hq
    simpa using this) h r fun st' a' w' r' h' => hK .normal st' a' w' r' h'
   refine wp_region ?_
   have e : (ops.toList.zipIdx.map fun p => (p.2, p.1)).map (·.1) = List.range ops.size := by
    rw [List.map_map]
    have e : (Prod.fst ∘ fun p : Oper × Nat => (p.2, p.1)) = Prod.snd := rfl
    have e2 : ((fun x : Nat × Oper => x.1) ∘ fun p : Oper × Nat => (p.2, p.1)) = Prod.snd := rfl
    rw [e2, List.zipIdx_map_snd, ← List.range_eq_range']
    simp
   rw [e] at this
   exact this
 | seq x y ihx ihy =>
  intro hL st K a w Q h r hK
  simp only [evC] at h
  refine wp_seq (ihx hL.1 st _ a w _ h r fun e st' a' w' r' h' => ?_)
  cases e with
  | normal => exact ihy hL.2 st' K a' w' Q h' r' hK
  | ret => exact hK .ret st' a' w' r' h'
  | exit id => exact hK (.exit id) st' a' w' r' h'
 | cond c x y ihx ihy =>
  intro hL st K a w Q h r hK
  simp only [evC] at h
  split at h
  ·rename_i t ht
   obtain ⟨M, _, _, _, _, hv⟩ := r.ex
   have hc := qXr hv c
   rw [ht] at hc
   refine wp_cond (t := t) hc ?_
   cases t with
   | true =>
    rw [yMn ht, cond_true] at h
    exact ihx hL.1 st K a w Q h r hK
   | false =>
    rw [yMn ht, cond_false] at h
    exact ihy hL.2 st K a w Q h r hK
  ·cases h
 | block id b ih =>
  intro hL st K a w Q h r hK
  simp only [evC] at h
  refine wp_block (ih hL st _ a w _ h r fun e st' a' w' r' h' => ?_)
  cases e with
  | normal => exact hK .normal st' a' w' r' h'
  | ret => exact hK .ret st' a' w' r' h'
  | exit i =>
   show if i = id then Q .normal a' w' else Q (.exit i) a' w'
   dsimp only at h'
   cases e : Nat.beq i id with
   | true =>
    rw [e] at h'
    rw [if_pos (by simpa using e)]
    exact hK .normal st' a' w' r' h'
   | false =>
    rw [e] at h'
    rw [if_neg (fun e' => by subst e'; simp at e)]
    exact hK (.exit i) st' a' w' r' h'
 | loop b ih =>
  intro hL st K a w Q h r hK
  simp only [evC] at h
  split at h
  ·rename_i hN
   refine qWd (fun n a w => ∃ st, vD nl na nt a0 M0 w0 st a w ∧ qHi (evC E A k pre na nt b) n st K = some out) (fun n a w ⟨st, r, hi⟩ => ?_) ⟨st, r, h⟩
   cases n with
   | zero => cases hi
   | succ n =>
    refine ih (hL.2 hN) st _ a w _ hi r fun e st' a' w' r' h' => ?_
    cases e with
    | normal => exact ⟨n, Nat.lt_succ_self n, st', r', h'⟩
    | ret => exact hK .ret st' a' w' r' h'
    | exit id => exact hK (.exit id) st' a' w' r' h'
  ·rename_i L hN
   split at h
   ·cases h
   ·rename_i d hd
    obtain ⟨x, hx, h⟩ := Option.bind_eq_some_iff.1 h
    cases nl with
    | true =>
     unfold zG0 at hN
     rw [hnl rfl] at hN
     split at hN <;> cases hN
    | false => exact hL.1 L hN k d x hx a0 M0 w0 a w Q (qC3 r hd) fun o a' w' ho r' => hK _ _ a' w' r' (yEz (by rw [← ho]; exact h))
 | exit id => exact fun _ st K a w Q h r hK => wp_exit (hK (.exit id) st a w r h)
 | ret => exact fun _ st K a w Q h r hK => wp_ret (hK .ret st a w r h)
 | _ => intro _ st K a w Q h; simp only [evC] at h; cases h
theorem qR0 {a b : Ex} (h : qAy a b = true) : a = b := by
 cases a <;> cases b <;> first | rfl | (cases h; done) | skip
 rw [Nat.eq_of_beq_eq_true h]
theorem qQm {a : Act} {w : World} {st : St} {e : Ex} (r : vD false na nt a0 M0 w0 st a w) : ∀ {l : List (Ex × zM)} {x : zCo l}, zPx pre l e st = some x → (zHs (pre + zAc) l x).1 = e ∧ vD false na nt a0 M0 w0 (zHs (pre + zAc) l x).2 a w
 | [], _, h => by cases h
 | [p], x, h => by
  obtain ⟨he, h⟩ := zCc h
  exact ⟨qR0 he, zTl r h⟩
 | p :: q :: l, x, h => by
  unfold zPx at h
  split at h
  ·rename_i d hd
   cases h
   obtain ⟨he, hd⟩ := zCc hd
   exact ⟨qR0 he, zTl r hd⟩
  ·split at h
   ·rename_i d hd
    cases h
    exact qQm r (l := q :: l) hd
   ·cases h
theorem vHq (hE : jI E) (hS : zAt E.sums) (hm : E.P.follows .mixedOrders = true) {b : Code} {ins : List zM} {outs : List (Ex × zM)} (hL : vM E.P A pre na nt b) {X : Type} (toX : zCo outs → X) (elim : Nat → X → (R : Type) → (Ex → St → Option R) → Option R) (hX : ∀ o R K, elim (pre + zAc) (toX o) R K = zLh (pre + zAc) outs o K)
  (rec : Nat → Nat → InD ins → Option X) (h0 : ∀ k d, rec k 0 d = none)
  (hstep : ∀ k n d, rec k (n + 1) d = zVn (pre + zAc) ins d fun st => evC E A k pre na nt b st (yCa pre ins outs toX (rec k n))) : qF E.P pre na nt b ⟨ins, outs, X, fun k d => rec k k d, elim⟩ := by
 intro k d x hx a0 M0 w0 a w Q r hQ
 refine qWd (fun n a w => ∃ d, vD false na nt a0 M0 w0 (zQ7 (pre + zAc) ins d) a w ∧ rec k n d = some x) (fun n a w ⟨d, r, hi⟩ => ?_) ⟨d, r, hx⟩
 cases n with
 | zero => rw [h0] at hi; cases hi
 | succ n =>
  rw [hstep k n d] at hi
  refine yG8 hE hS hm (fun h => by cases h) b hL _ _ a w _ (yCw hi) r fun e st' a' w' r' h' => ?_
  have out : ∀ e, (match zPx pre outs e st' with | some o => some (toX o) | none => none) = some x → Q e.toExit a' w' := fun e h' => by
   split at h'
   ·rename_i o ho
    cases h'
    obtain ⟨h1, h2⟩ := qQm (pre := pre) r' ho
    have := hQ o a' w' (fun R K => hX o R K) h2
    rw [h1] at this
    exact this
   ·cases h'
  cases e with
  | normal =>
   have h' : (match zMs pre ins st' with | some d => rec k n d | none => none) = some x := h'
   split at h'
   ·rename_i d' hd
    exact ⟨n, Nat.lt_succ_self n, d', qC3 r' hd, h'⟩
   ·cases h'
  | ret => exact out .ret h'
  | exit id => exact out (.exit id) h'
theorem yTu (fn : Func) (tmps : Array Value) : results fn tmps = (do let vs ← fn.results.mapM (zVe tmps); pure (if h : vs.size = 1 then vs[0] else .tuple vs)) := rfl
theorem yT0 (hE : jI E) (hS : zAt E.sums) (hm : E.P.follows .mixedOrders = true) {st : St} {a : Act} {w : World} {x : ResultVar} {v : zD} {M : zA} (hM : M.h = st.h) (hH : M.H = w.heap) (ok : Ok M) (ht : ∀ t, zT M (st.t t) (a.tmps.getD t undef)) (h : zHa E st x = some v) :
  ∃ rv, (zVe a.tmps x).run E.P w = .ok rv w ∧ zT M v rv := by
 unfold zHa at h
 split at h
 ·rename_i t
  cases h
  exact ⟨_, rfl, ht t⟩
 ·rename_i c t
  split at h
  ·rename_i id off hc
   split at h
   ·rename_i own cells hid
    split at h
    ·rename_i vs hcut
     have hv := ht c
     rw [hc] at hv
     obtain ⟨C, B, hC, hB, e⟩ := hv
     obtain ⟨C', hC', hO⟩ := ok.obj id _ (by rw [hM]; exact hid)
     rw [hC] at hC'; cases hC'
     obtain ⟨B', hB', hcells⟩ := yAx hO
     rw [hB] at hB'; cases hB'
     obtain ⟨rv2, hrun, hrep⟩ : ∃ rv, (loadVar t ⟨B, 0 + off, none⟩).run E.P w = .ok rv w ∧ zT M v rv := qYh ok hH hcells hcut h
     refine ⟨rv2, ?_, hrep⟩
     simp only [Nat.zero_add] at hrun
     unfold zVe
     dsimp only
     rw [e]
     simp [asAddr, hrun]
    ·cases h
   ·cases h
  ·cases h
theorem yUp {M : zA} {v : zD} {p : Bool × List zG} {rv : Value} (h : zKo v = some p) (hv : zT M v rv) : zE0 M p rv := by
 unfold zKo at h
 split at h
 ·cases h; exact hv
 ·cases h; exact hv
 ·cases h
theorem qX0 {M : zA} : ∀ {vs : List zD} {xs : List (Bool × List zG)} {rs : List Value}, zO (fun a b => zKo a = some b) vs xs → zO (zT M) vs rs → zO (zE0 M) xs rs
 | [], [], [], _, _ => trivial
 | _ :: _, _ :: _, _ :: _, h, k => ⟨yUp h.1 k.1, qX0 h.2 k.2⟩
 | [], [], _ :: _, _, k => k.elim
 | [], _ :: _, _, h, _ => h.elim
 | _ :: _, [], _, h, _ => h.elim
 | _ :: _, _ :: _, [], _, k => k.elim
theorem yNb {st : St} : ∀ (l : List ResultVar) (xs : List (Bool × List zG)), l.mapM (fun r => (zHa E st r).bind zKo) = some xs → ∃ vs, l.mapM (zHa E st) = some vs ∧ vs.mapM zKo = some xs
 | [], xs, h => by simp at h; subst h; exact ⟨[], rfl, rfl⟩
 | x :: l, xs, h => by
  simp only [List.mapM_cons, Option.bind_eq_bind, Option.bind_eq_some_iff] at h
  obtain ⟨p, ⟨v, h1, h2⟩, ps, h3, h4⟩ := h
  cases h4
  obtain ⟨vs, k1, k2⟩ := yNb l ps h3
  exact ⟨v :: vs, by simp [List.mapM_cons, h1, k1], by simp [List.mapM_cons, h2, k2]⟩
theorem yQn (hE : jI E) (hS : zAt E.sums) (hm : E.P.follows .mixedOrders = true) {fn : Func} {st : St} {a : Act} {w : World} {v : zD} {M : zA} (hM : M.h = st.h) (hH : M.H = w.heap) (ok : Ok M) (ht : ∀ t, zT M (st.t t) (a.tmps.getD t undef)) (h : zSq E fn st = some v) :
  ∃ rv, (results fn a.tmps).run E.P w = .ok rv w ∧ zT M v rv := by
 have one := fun x v => yT0 hE hS hm (x := x) (v := v) hM hH ok ht
 have key : ∀ (l : List ResultVar) (vs : List zD), l.mapM (zHa E st) = some vs → ∃ rs : List Value, (l.mapM (zVe a.tmps)).run E.P w = .ok rs w ∧ zO (zT M) vs rs := by
  intro l
  induction l with
  | nil => exact fun vs h => by simp at h; subst h; exact ⟨[], rfl, trivial⟩
  | cons x l ih =>
   intro vs h
   simp only [List.mapM_cons, Option.bind_eq_bind, Option.bind_eq_some_iff] at h
   obtain ⟨v, h1, vs', h2, h3⟩ := h
   cases h3
   obtain ⟨rv, k1, k2⟩ := one x v h1
   obtain ⟨rs, k3, k4⟩ := ih vs' h2
   refine ⟨rv :: rs, ?_, k2, k4⟩
   rw [List.mapM_cons]
   simp only [Sem.run_bind, k1, Result.andThen_ok, k3, Sem.run_pure]
 have run : ∀ (vs : List zD), fn.results.toList.mapM (zHa E st) = some vs → ∃ rs : List Value, (results fn a.tmps).run E.P w = .ok (if h : rs.length = 1 then rs[0] else .tuple rs.toArray) w ∧ zO (zT M) vs rs := fun vs h => by
  obtain ⟨rs, k1, k2⟩ := key _ vs h
  refine ⟨rs, ?_, k2⟩
  rw [yTu, Array.mapM_eq_mapM_toList]
  simp only [Sem.run_map, Sem.run_bind, k1, Result.andThen_ok, Sem.run_pure]
  congr 1
 unfold zSq at h
 split at h
 ·rename_i hl
  cases h
  obtain ⟨rs, k1, k2⟩ := run [] (by rw [hl]; rfl)
  cases rs with
  | cons _ _ => exact k2.elim
  | nil => exact ⟨_, k1, #[], rfl, trivial⟩
 ·rename_i x hl
  obtain ⟨rs, k1, k2⟩ := run [v] (by rw [hl]; simp [h])
  match rs, k2 with
  | [r], k2 => exact ⟨_, k1, k2.1⟩
 ·rename_i h0 h1
  split at h
  ·rename_i xs hxs
   cases h
   obtain ⟨vs, k1, k2⟩ := yNb _ _ hxs
   obtain ⟨rs, r1, r2⟩ := run vs k1
   have hlen : rs.length ≠ 1 := fun e => by
    have e1 := r2.length
    have e2 := (zN4 _ _ _ k1).length
    have h3 : fn.results.toList.length = 1 := by omega
    match hl : fn.results.toList, h3 with
    | [x], _ => exact h1 x hl
   rw [dif_neg hlen] at r1
   exact ⟨_, r1, rs.toArray, rfl, qX0 (zN4 _ _ _ k2) r2⟩
  ·cases h
theorem qLn (hE : jI E) (hS : zAt E.sums) (hm : E.P.follows .mixedOrders = true) {f : FuncId} {fn : Func} (hf : E.P.funcs[f]? = some fn) (hL : ∀ c, fn.body = some c → vM E.P A pre na fn.ntmps c) {args : List zD} {h : Hp} {K : zD → St → Option R} (hev : evF E A k pre na fn args h K = some out) {M : zA} {w : World} {vs : Array Value} (hh : M.h = h) (hH : M.H = w.heap) (ok : Ok M)
  (hv : zO (zT M) args vs.toList) : Calls E.P f vs w fun
   | .returned rv, w' => ∃ (M' : zA) (v : zD) (st : St), K v st = some out ∧ M'.h = st.h ∧ M'.H = w'.heap ∧ Ok M' ∧ zAs M M' ∧ (A.loops = [] → zTv M M') ∧ zT M' v rv ∧ w'.os = w.os ∧ w'.tape = w.tape ∧ w'.output = w.output ∧
     (∀ t, t < na → zT M' (st.t t) (vs.getD t undef))
   | _, _ => False := by
 unfold evF at hev
 cases hb : fn.body with
 | none => rw [hb] at hev; cases hev
 | some c =>
  rw [hb] at hev
  dsimp only at hev
  cases hle : Nat.ble args.length fn.ntmps with
  | false => rw [hle] at hev; cases hev
  | true =>
   rw [hle] at hev
   rw [cond_true] at hev
   have hl := hv.length
   have hle : args.length ≤ fn.ntmps := Nat.le_of_ble_eq_true hle
   have hsz : vs.size ≤ fn.ntmps := by simp at hl; omega
   have hslot : ∀ t, zT M (zY1 args t) ((vs ++ Array.replicate (fn.ntmps - vs.size) undef).getD t undef) := fun t => by
    unfold zY1
    by_cases ht : t < args.length
    ·have ht' : t < vs.size := by simp at hl; omega
     have := hv.get t ht (by simpa using ht')
     simp only [List.getD_eq_getElem?_getD, List.getElem?_eq_getElem ht, Option.getD_some]
     simp only [Array.getD_eq_getD_getElem?, Array.getElem?_append_left ht', Array.getElem?_eq_getElem ht', Option.getD_some]
     simpa using this
    ·have ht' : ¬ t < vs.size := by simp at hl; omega
     simp only [List.getD_eq_getElem?_getD, List.getElem?_eq_none (Nat.not_lt.1 ht), Option.getD_none]
     show _ = undef
     simp only [Array.getD_eq_getD_getElem?, Array.getElem?_append_right (Nat.not_lt.1 ht')]
     by_cases h2 : t - vs.size < fn.ntmps - vs.size <;> simp [h2]
   have r : vD A.loops.isEmpty na fn.ntmps (fun t => (vs ++ Array.replicate (fn.ntmps - vs.size) undef).getD t undef) M w { t := zY1 args, h := h } { tmps := vs ++ Array.replicate (fn.ntmps - vs.size) undef, defers := [] } w :=
    ⟨⟨M, hh, hH, ok, ⟨.refl M, fun _ _ C h => ⟨C, h, rfl⟩⟩, hslot⟩, rfl, by simp; omega, rfl, rfl, rfl, fun _ _ => rfl⟩
   refine calls_of_wp hf hb (yG8 hE hS hm (fun h => List.isEmpty_iff.1 h) c (hL c hb) _ _ _ _ _ hev r fun e st' a' w' r' hK => ?_)
   obtain ⟨M', q1, q2, q3, q4, q5⟩ := r'.ex
   have fin : ∀ v, zSq E fn st' = some v → K v st' = some out → a'.defers = [] ∧ ∃ rv, (results fn a'.tmps).run E.P w' = .ok rv w' ∧ ∃ (M' : zA) (v : zD) (st : St), K v st = some out ∧ M'.h = st.h ∧ M'.H = w'.heap ∧ Ok M' ∧ zAs M M' ∧ (A.loops = [] → zTv M M') ∧ zT M' v rv ∧ w'.os = w.os ∧ w'.tape = w.tape ∧ w'.output = w.output ∧
     (∀ t, t < na → zT M' (st.t t) (vs.getD t undef)) := fun v hres hK => by
    obtain ⟨rv, k1, k2⟩ := yQn hE hS hm q1 q2 q3 q5 hres
    refine ⟨r'.defers, rv, k1, M', v, st', hK, q1, q2, q3, q4.g, fun h => q4.k (List.isEmpty_iff.2 h), k2, r'.os, r'.tape, r'.output, fun t ht => ?_⟩
    have := q5 t
    rw [r'.keep t ht] at this
    have e : (vs ++ Array.replicate (fn.ntmps - vs.size) undef).getD t undef = vs.getD t undef := by
     by_cases h1 : t < vs.size
     ·simp [Array.getD_eq_getD_getElem?, Array.getElem?_append_left h1]
     ·simp only [Array.getD_eq_getD_getElem?, Array.getElem?_append_right (Nat.not_lt.1 h1), Array.getElem?_eq_none (Nat.not_lt.1 h1)]
      by_cases h2 : t - vs.size < fn.ntmps - vs.size <;> simp [h2]
    rw [e] at this
    exact this
   cases e with
   | exit id => cases hK
   | normal =>
    dsimp only at hK
    split at hK
    ·rename_i v hres
     exact fin v hres hK
    ·cases hK
   | ret =>
    dsimp only at hK
    split at hK
    ·rename_i v hres
     exact fin v hres hK
    ·cases hK
end
inductive PC where
 | int (k : IntKind) | bool | dat (sh : Bool) (t : Ty) | fn (f : Nat)
 | nil | nilp
abbrev PC.den : PC → Type
 | .int _ => Int | .bool => Bool | .dat _ t => List t.den | .fn _ => Unit | .nil => Unit | .nilp => Unit
abbrev PL : List PC → Type
 | [] => Unit
 | p :: l => p.den × PL l
inductive AS where
 | c (p : PC) | agg (l : List PC) | ptr (l : List PC) | fn (f : Nat) (caps : List (List PC))
def AS.cells : AS → List PC
 | .c p => [p]
 | .agg l => l
 | .ptr l => l
 | .fn _ caps => caps.flatten
abbrev AD (l : List AS) : Type := PL (l.flatMap AS.cells)
def zH8 (h : Hp) (t : Ty) : zG → Option (List t.den)
 | .nsl => some []
 | c => match zA5 h c with
  | some ⟨s, xs⟩ => zAe s t xs
  | none => none
def inP (h : Hp) : (p : PC) → zG → Option p.den
 | .int k, .int j n => bif zBm j k then some n else none
 | .bool, .bool b => some b
 | .dat false t, c => zH8 h t c
 | .dat true t, .fsl true s xs => zAe s t xs
 | .dat true t, .nsl => some []
 | .fn f, .fn g [] => bif Nat.beq f g then some () else none
 | .nil, .nsl => some ()
 | .nilp, .nilp => some ()
 | _, _ => none
def inL (h : Hp) : (l : List PC) → List zG → Option (PL l)
 | [], [] => some ()
 | p :: l, c :: cs => match inP h p c, inL h l cs with
  | some d, some ds => some (d, ds)
  | _, _ => none
 | _, _ => none
def zK6 (h : Hp) (id : Nat) : Option (List zG) := match h id with
 | some (.box _ cells) => some cells
 | some (.robox cells) => some cells
 | _ => none
def zE2 (h : Hp) : List (List PC) → List Nat → Option (List zG)
 | [], [] => some []
 | l :: ls, id :: ids => match zK6 h id, zE2 h ls ids with
  | some cells, some rest => bif Nat.beq cells.length l.length then some (cells ++ rest) else none
  | _, _ => none
 | _, _ => none
def AS.get (h : Hp) : AS → zD → Option (List zG)
 | .c _, .c x => some [x]
 | .agg l, .agg xs => bif Nat.beq xs.length l.length then some xs else none
 | .ptr l, .c (.ptr id 0) => zE2 h [l] [id]
 | .fn f caps, .c (.fn g ids) => bif Nat.beq f g then zE2 h caps ids else none
 | _, _ => none
def zEb (h : Hp) : List AS → List zD → Option (List zG)
 | [], [] => some []
 | s :: l, a :: as => match s.get h a, zEb h l as with
  | some cs, some rest => some (cs ++ rest)
  | _, _ => none
 | _, _ => none
def inA (h : Hp) (l : List AS) (as : List zD) : Option (AD l) := match zEb h l as with
 | some cs => inL h (l.flatMap AS.cells) cs
 | none => none
def zNv : (p : PC) → p.den → zG
 | .int k, n => .int k n
 | .bool, b => .bool b
 | .dat sh t, xs => .fsl sh t xs
 | .fn f, _ => .fn f []
 | .nil, _ => .nsl
 | .nilp, _ => .nilp
def vH : (l : List PC) → PL l → List zG
 | [], _ => []
 | p :: l, d => zNv p d.1 :: vH l d.2
def zUy : List (List PC) → List zG → List (List zG)
 | [], _ => []
 | l :: ls, cs => cs.take l.length :: zUy ls (cs.drop l.length)
def AS.mk (n : Nat) (cs : List zG) : AS → zD
 | .c _ => match cs with | x :: _ => .c x | [] => .undef
 | .agg _ => .agg cs
 | .ptr _ => .c (.ptr n 0)
 | .fn f caps => .c (.fn f ((List.range caps.length).map (n + ·)))
def AS.boxes (cs : List zG) : AS → List (List zG)
 | .ptr _ => [cs]
 | .fn _ caps => zUy caps cs
 | _ => []
def zBp : List AS → List zG → Nat → List zD × List (List zG)
 | [], _, _ => ([], [])
 | s :: l, cs, n =>
  let mine := cs.take s.cells.length
  let bs := s.boxes mine
  let rest := zBp l (cs.drop s.cells.length) (n + bs.length)
  (s.mk n mine :: rest.1, bs ++ rest.2)
def zBo (bs : List (List zG)) : Hp := fun n => match bs[n]? with
 | some cells => some (.robox cells)
 | none => none
def zDe (l : List AS) (d : AD l) : List zD × Hp :=
 let r := zBp l (vH (l.flatMap AS.cells) d) 0
 (r.1, zBo r.2)
inductive RC where
 | int (k : IntKind) | bool | fro (t : Ty) | own (t : Ty) | mat
 | jun
 | map
 | nilp | link (j : Nat)
abbrev RC.den : RC → Type
 | .int _ => Int | .bool => Bool | .fro t => List t.den | .own t => List t.den | .mat => List (List Int) | .jun => Nat | .map => List (Int × Bool) | .nilp => Unit | .link _ => Unit
abbrev RL : List RC → Type
 | [] => Unit
 | r :: l => r.den × RL l
inductive RS where
 | c (r : RC) | agg (l : List RC) | tup (l : List (Bool × List RC))
def RS.cells : RS → List RC
 | .c r => [r]
 | .agg l => l
 | .tup l => l.flatMap (·.2)
def zWq : List (Bool × List RC) → List (Bool × List zG) → Option (List zG)
 | [], [] => some []
 | (b, l) :: ls, (g, cs) :: rest => bif (bif b then g else !g && Nat.beq cs.length 1) && Nat.beq cs.length l.length then (match zWq ls rest with
   | some r => some (cs ++ r)
   | none => none) else none
 | _, _ => none
def RS.get : RS → zD → Option (List zG)
 | .c _, .c x => some [x]
 | .agg l, .agg xs => bif Nat.beq xs.length l.length then some xs else none
 | .tup l, .tup xs => zWq l xs
 | _, _ => none
def zZa : List (Bool × List RC) → List zG → List (Bool × List zG)
 | [], _ => []
 | (b, l) :: ls, cs => (b, cs.take l.length) :: zZa ls (cs.drop l.length)
def RS.mk (cs : List zG) : RS → zD
 | .c _ => match cs with | x :: _ => .c x | [] => .undef
 | .agg _ => .agg cs
 | .tup l => .tup (zZa l cs)
def jO (h : Hp) : List Bool → List zG → Option (List zG × zX)
 | true :: l, c :: cs => match zC1 h c, jO h l cs with
  | some (c, u), some (cs, us) => some (c :: cs, u ++ us)
  | _, _ => none
 | false :: l, c :: cs => match jO h l cs with
  | some (cs, us) => some (c :: cs, us)
  | none => none
 | _, cs => some (cs, [])
def RC.isFro : RC → Bool
 | .fro _ => true
 | _ => false
def PC.isKept : PC → Bool
 | .dat true _ => true
 | _ => false
def zDx (h : Hp) : (r : RC) → zG → Option r.den
 | .int k, .int j n => bif zBm j k then some n else none
 | .bool, .bool b => some b
 | .fro t, .fsl true s xs => zAe s t xs
 | .fro t, .nsl => some []
 | .own t, .osl id none => match h id with
  | some (.arr true s xs) => zAe s t xs
  | _ => none
 | .own t, .osl id (some (0, n)) => match h id with
  | some (.arr true s xs) => zAe s t (xs.take n)
  | _ => none
 | .own t, .nsl => some []
 | .mat, .osl id none => match h id with
  | some (.mat _ xs) => some xs
  | some (.pmat _ xs n) => bif Nat.beq xs.length n then some xs else none
  | _ => none
 | .mat, .nsl => some []
 | .jun, .osl id none => match h id with
  | some (.arr true (.sl (.int .i64)) xs) => some xs.length
  | _ => none
 | .jun, .nsl => some 0
 | .map, .map id => match h id with
  | some (.imap kvs) => some kvs
  | _ => none
 | .nilp, .nilp => some ()
 | .link _, .ptr _ 0 => some ()
 | _, _ => none
def zBb (h : Hp) : (l : List RC) → List zG → Option (RL l)
 | [], [] => some ()
 | r :: l, c :: cs => match zDx h r c, zBb h l cs with
  | some d, some ds => some (d, ds)
  | _, _ => none
 | _, _ => none
def vI : List RC → List zG → List Nat
 | .own _ :: l, .osl id _ :: cs => id :: vI l cs
 | .mat :: l, .osl id _ :: cs => id :: vI l cs
 | .jun :: l, .osl id _ :: cs => id :: vI l cs
 | .map :: l, .map id :: cs => id :: vI l cs
 | _ :: l, _ :: cs => vI l cs
 | _, _ => []
def zPa (h : Hp) (s : RS) (v : zD) : Option (RL s.cells) := match s.get v with
 | some cs => match jO h (s.cells.map RC.isFro) cs with
  | some (cs, u) => bif zFi (vI s.cells cs) then zBb (qE h u) s.cells cs else none
  | none => none
 | none => none
def zB4 (rs : RS) {X : Type} (unpack : RL rs.cells → X) (v : zD) (st : St) : Option X := match zPa st.h rs v with
 | some d => some (unpack d)
 | none => none
def zD6 (nm : Nat) : (r : RC) → r.den → zG × zX
 | .int k, n => (.int k n, [])
 | .bool, b => (.bool b, [])
 | .fro t, xs => (.fsl true t xs, [])
 | .own t, xs => (.osl nm none, [(nm, .arr true t xs)])
 | .mat, xs => (.osl nm none, [(nm, .mat 0 xs)])
 | .jun, n => (.osl nm none, [(nm, .pmat 0 [] n)])
 | .map, kvs => (.map nm, [(nm, .imap kvs)])
 | .nilp, _ => (.nilp, [])
 | .link _, _ => (.undef, [])
def zCz (nm : Nat) : (l : List RC) → RL l → List zG × zX
 | [], _ => ([], [])
 | r :: l, d =>
  let x := zD6 nm r d.1
  let y := zCz (nm + 1) l d.2
  (x.1 :: y.1, x.2 ++ y.2)
def qZ2 (nm : Nat) (s : RS) (d : RL s.cells) : zD × zX :=
 let r := zCz nm s.cells d
 (s.mk r.1, r.2)
def zGt (h : Hp) : Nat → Nat → Bool
 | _, 0 => true
 | nm, n + 1 => (match h nm with | none => true | some _ => false) && zGt h (nm + 1) n
def zGm (h : Hp) : AS → zD → Option (zD × zX)
 | .c p, .c x => match jO h [p.isKept] [x] with
  | some ([x], u) => some (.c x, u)
  | _ => none
 | .agg l, .agg xs => match jO h (l.map PC.isKept) xs with
  | some (xs, u) => some (.agg xs, u)
  | none => none
 | _, a => some (a, [])
def zEn (h : Hp) : List AS → List zD → Option (List zD × zX)
 | s :: l, a :: as => match zGm h s a, zEn h l as with
  | some (a, u), some (as, us) => some (a :: as, u ++ us)
  | _, _ => none
 | _, as => some (as, [])
def zC2 (as : List AS) (rs : RS) {X : Type} (S : AD as → Option X) (pack : X → RL rs.cells) (nm : Nat) (args : List zD) (h : Hp) : yA :=
 match zEn h as args with
 | none => .stuck
 | some (args, u) => match inA (qE h u) as args with
  | some d => bif zGt h nm rs.cells.length && Nat.ble rs.cells.length 100 then .call X (S d) (fun r => ((qZ2 nm rs (pack r)).1, u ++ (qZ2 nm rs (pack r)).2)) else .stuck
  | none => .stuck
structure Lo (M Ml : zA) : Prop where
 H : Ml.H = M.H
 F : Ml.F = fun b => b < M.H.size
 G : Ml.G = M.G
theorem qKn {M M' : zA} (ok : Ok M') (hH : M'.H = M.H) {t : Ty} {xs : List t.den} {v : Value} (h : zW M'.H M'.G (.sl t) xs (fun _ => some v)) : zW M.H (fun b => b < M.H.size) (.sl t) xs (fun _ => some v) := by
 refine yL (fun b hb => ?_) (fun b _ => by rw [hH]) _ _ _ _ (fun _ _ => rfl) h
 have := ok.Flt b (ok.GF b hb)
 rw [hH] at this
 exact this
theorem ySb {M : zA} (ok : Ok M) {c : zG} {v : Value} {t : Ty} {xs : List t.den} (hv : zV M c v) (h : zA5 M.h c = some ⟨t, xs⟩) : zW M.H (fun b => b < M.H.size) (.sl t) xs (fun _ => some v) := by
 unfold zA5 at h
 split at h
 ·rename_i sh s ys
  cases h
  cases sh with
  | true => exact yL (fun b hb => ok.Flt b (ok.GF b hb)) (fun _ _ => rfl) _ _ _ _ (fun _ _ => rfl) hv
  | false => exact yL (fun b hb => ok.Flt b hb) (fun _ _ => rfl) _ _ _ _ (fun _ _ => rfl) hv
 ·rename_i id r
  split at h
  ·rename_i own s ys hid
   cases h
   cases own with
   | false =>
    obtain ⟨C, hC, hO⟩ := ok.obj _ _ hid
    exact qKn ok rfl (zIp hC hO hv)
   | true =>
    obtain ⟨M', h1, h2, h3, h4⟩ := yE0 ok hid
    obtain ⟨C, hC, hO⟩ := h3.obj id _ (by rw [h2]; exact yB _ _ _)
    exact qKn h3 h1 (zIp hC hO (hv.ext h4.ext))
  ·rename_i ver ys hid
   cases r with
   | some p => cases h
   | none =>
    cases h
    obtain ⟨M', h1, h2, h3, h4⟩ := qTz ok hid
    obtain ⟨C, hC, hO⟩ := h3.obj id _ (by rw [h2]; exact yB _ _ _)
    exact qKn h3 h1 (zIp (r := none) hC hO (hv.ext h4.ext))
  ·cases h
 ·rename_i id i ver
  split at h
  ·rename_i v' ys hid
   cases hver : Nat.beq v' ver with
   | false => rw [hver] at h; cases h
   | true =>
    rw [hver] at h
    cases h
    have e : v' = ver := by simpa using hver
    subst e
    obtain ⟨C, hC, hO⟩ := ok.obj _ _ hid
    obtain ⟨C', hC', hone, _, hrow⟩ := hv
    rw [hC] at hC'; cases hC'
    obtain ⟨rb, rl, hr1, hr2⟩ := hrow hO.1
    by_cases hi : i < ys.length
    ·obtain ⟨B, rb', v2, k1, k2, k3, k4, k5, k6⟩ := zJm hO hi
     rw [hr1] at k3
     cases k3
     rw [show ys.getD i [] = ys[i] by simp [List.getD, hi]]
     simp only [zW]
     cases rb with
     | none =>
      obtain ⟨rfl, h0⟩ := hr2
      exact ⟨none, 0, 0, rfl, h0.symm, Nat.le_refl _, .inl ⟨List.eq_nil_of_length_eq_zero h0, fun _ => rfl⟩⟩
     | some R =>
      obtain ⟨a, c, rfl, h1, h2, h3⟩ := hr2
      refine ⟨_, _, c, rfl, rfl, h1, ?_⟩
      by_cases h0 : ys[i].length = 0
      ·exact .inl ⟨List.eq_nil_of_length_eq_zero h0, fun h => by cases h⟩
      ·have ha : a = 0 := by rcases h2 with h | h <;> omega
       subst ha
       refine .inr ⟨R, 0, rfl, ?_, fun j hj => ?_⟩
       ·have := k6 R rfl 0 (by omega)
        unfold qW at this
        cases hR : M.H[R]? with
        | none => rw [hR] at this; cases this
        | some x => exact (Array.getElem?_eq_some_iff.1 hR).1
       ·simp only [zW, Ty.size, Nat.zero_add, Nat.mul_one, Nat.add_zero]
        exact k6 R rfl j hj
    ·have : C.rows[i]? = none := List.getElem?_eq_none (by have := hO.2.2.2.1; omega)
     rw [this] at hr1; cases hr1
  ·cases h
 ·cases h
theorem zRt {H : Array Go.Obj} {F : Nat → Prop} {t : Ty} : zW H F (.sl t) ([] : List t.den) (fun _ => some (.slice none 0 0)) := ⟨none, 0, 0, rfl, rfl, Nat.le_refl _, .inl ⟨rfl, fun _ => rfl⟩⟩
theorem vFk {M : zA} (ok : Ok M) {c : zG} {v : Value} {t : Ty} {xs : List t.den} (hv : zV M c v) (h : zH8 M.h t c = some xs) : zW M.H (fun b => b < M.H.size) (.sl t) xs (fun _ => some v) := by
 unfold zH8 at h
 split at h
 ·cases h
  rw [show v = .slice none 0 0 from hv]
  exact zRt
 ·split at h
  ·rename_i s ys hr
   obtain ⟨e, hx⟩ := zBg h
   subst e
   subst hx
   exact ySb ok hv hr
  ·cases h
def Tr (M : zA) (c c' : zG) : Prop := ∀ v Ml, Lo M Ml → zV M c v → zV Ml c' v
theorem yO1 {M : zA} (ok : Ok M) {p : PC} {c : zG} {d : p.den} (h : inP M.h p c = some d) : Tr M c (zNv p d) := by
 intro v Ml lo hv
 unfold inP at h
 split at h
 ·rename_i k j n
  cases e : zBm j k with
  | false => rw [e] at h; cases h
  | true => rw [e] at h; cases h; rw [← zG3 e]; exact hv
 ·cases h; exact hv
 ·rename_i t c
  have := vFk ok hv h
  show zW Ml.H Ml.F _ _ _
  rw [lo.H, lo.F]
  exact this
 ·rename_i t s xs
  obtain ⟨e, hx⟩ := zBg h
  subst e
  subst hx
  show zW Ml.H Ml.G _ _ _
  rw [lo.H, lo.G]
  exact hv
 ·cases h
  rw [show v = .slice none 0 0 from hv]
  exact zRt
 ·rename_i f g
  cases e : Nat.beq f g with
  | false => rw [e] at h; cases h
  | true =>
   have : f = g := by simpa using e
   subst this
   obtain ⟨cv, rfl, hc⟩ := hv
   refine ⟨cv, rfl, ?_⟩
   generalize cv.toList = l at hc
   cases l with
   | nil => trivial
   | cons _ _ => exact hc.elim
 ·exact hv
 ·exact hv
 ·cases h
theorem qS8 {M : zA} (ok : Ok M) : ∀ {l : List PC} {cs : List zG} {d : PL l}, inL M.h l cs = some d → zO (Tr M) cs (vH l d)
 | [], [], _, _ => trivial
 | p :: l, c :: cs, d, h => by
  unfold inL at h
  split at h
  ·rename_i x xs h1 h2
   cases h
   exact ⟨yO1 ok h1, qS8 ok h2⟩
  ·cases h
 | [], _ :: _, _, h => by cases h
 | _ :: _, [], _, h => by cases h
theorem qGp {M Ml : zA} (lo : Lo M Ml) : ∀ {cs cs' : List zG} {vs : List Value}, zO (Tr M) cs cs' → zO (zV M) cs vs → zO (zV Ml) cs' vs
 | [], [], [], _, _ => trivial
 | _ :: _, _ :: _, _ :: _, h, k => ⟨h.1 _ _ lo k.1, qGp lo h.2 k.2⟩
 | [], [], _ :: _, _, k => k.elim
 | [], _ :: _, _, h, _ => h.elim
 | _ :: _, [], _, h, _ => h.elim
 | _ :: _, _ :: _, [], _, k => k.elim
def zHd (M : zA) (C : zR) (cells : List zG) : Prop := ∃ B vals e, C.blk = some B ∧ C.rows = [] ∧ M.H[B]? = some (.cells vals e (0, 0)) ∧ zO (zV M) cells vals.toList
theorem qUa {M : zA} (ok : Ok M) {id : Nat} {cells : List zG} (h : zK6 M.h id = some cells) : ∃ C, M.κ id = some C ∧ zHd M C cells := by
 unfold zK6 at h
 split at h
 ·rename_i own cs hid
  cases h
  obtain ⟨C, hC, B, vals, e, h1, h2, h3, h4, _⟩ := ok.obj id _ hid
  exact ⟨C, hC, B, vals, e, h1, h2, h3, h4⟩
 ·rename_i cs hid
  cases h
  obtain ⟨C, hC, B, vals, e, h1, h2, h3, h4, _⟩ := ok.obj id _ hid
  exact ⟨C, hC, B, vals, e, h1, h2, h3, h4⟩
 ·cases h
theorem zHd.tr {M Ml : zA} (lo : Lo M Ml) {C : zR} {cs cs' : List zG} (h : zHd M C cs) (ht : zO (Tr M) cs cs') : zHd Ml C cs' := by
 obtain ⟨B, vals, e, h1, h2, h3, h4⟩ := h
 exact ⟨B, vals, e, h1, h2, by rw [lo.H]; exact h3, qGp lo ht h4⟩
theorem qM6 {M : zA} (ok : Ok M) : ∀ {ls : List (List PC)} {ids : List Nat} {cs cs' : List zG}, zE2 M.h ls ids = some cs → zO (Tr M) cs cs' → cs.length = ls.flatten.length ∧ ids.length = ls.length ∧
  ∃ Cs : List zR, zO (fun id C => M.κ id = some C) ids Cs ∧ ∀ Ml, Lo M Ml → zO (zHd Ml) Cs (zUy ls cs')
 | [], [], cs, cs', h, ht => by cases h; exact ⟨rfl, rfl, [], trivial, fun _ _ => trivial⟩
 | l :: ls, id :: ids, cs, cs', h, ht => by
  unfold zE2 at h
  split at h
  ·rename_i cells rest h1 h2
   obtain ⟨hl, h⟩ : cells.length = l.length ∧ cells ++ rest = cs := by
    cases e : Nat.beq cells.length l.length with
    | false => rw [e] at h; cases h
    | true => rw [e] at h; cases h; exact ⟨by simpa using e, rfl⟩
   subst h
   have ht1 := zO.take l.length ht
   have ht2 := zO.drop l.length ht
   rw [← hl, List.take_left] at ht1
   rw [← hl, List.drop_left] at ht2
   obtain ⟨C, hC, hB⟩ := qUa ok h1
   obtain ⟨k1, k2, Cs, k3, k4⟩ := qM6 ok h2 ht2
   refine ⟨by simp [hl, k1], by simp [k2], C :: Cs, ⟨hC, k3⟩, fun Ml lo => ⟨?_, ?_⟩⟩
   ·rw [← hl]; exact hB.tr lo ht1
   ·rw [← hl]; exact k4 Ml lo
  ·cases h
 | [], _ :: _, _, _, h, _ => by cases h
 | _ :: _, [], _, _, h, _ => by cases h
theorem yOw {M : zA} (ok : Ok M) {s : AS} {a : zD} {v : Value} {cs cs' : List zG} {n : Nat} (hv : zT M a v) (h : s.get M.h a = some cs) (ht : zO (Tr M) cs cs') :
  ∃ Cs : List zR, (∀ Ml, Lo M Ml → zO (zHd Ml) Cs (s.boxes cs')) ∧ (∀ Ml, Lo M Ml → (∀ i C, Cs[i]? = some C → Ml.κ (n + i) = some C) → zT Ml (s.mk n cs') v) := by
 unfold AS.get at h
 split at h
 ·rename_i p x
  cases h
  match cs', ht with
  | [c'], ht => exact ⟨[], fun _ _ => trivial, fun Ml lo _ => ht.1 v Ml lo hv⟩
 ·rename_i l xs
  cases e : Nat.beq xs.length l.length with
  | false => rw [e] at h; cases h
  | true =>
   rw [e] at h
   cases h
   obtain ⟨vs, rfl, hx⟩ := hv
   exact ⟨[], fun _ _ => trivial, fun Ml lo _ => ⟨vs, rfl, qGp lo ht hx⟩⟩
 ·rename_i l id
  have := qM6 ok h ht
  obtain ⟨k1, k2, Cs, k3, k4⟩ := this
  obtain ⟨C, B, hC, hB, e⟩ := hv
  have hl : cs'.length = l.length := by rw [← ht.length, k1]; simp
  match Cs, k3 with
  | [C'], k3 =>
   have e' : C' = C := by
    have : M.κ id = some C' := k3.1
    rw [hC] at this; exact (Option.some.inj this).symm
   subst e'
   refine ⟨[C'], fun Ml lo => ?_, fun Ml lo hκ => ⟨C', B, hκ 0 C' rfl, hB, e⟩⟩
   have := k4 Ml lo
   simp only [zUy] at this
   rw [List.take_of_length_le (by omega)] at this
   exact this
 ·rename_i f caps g ids
  cases e : Nat.beq f g with
  | false => rw [e] at h; cases h
  | true =>
   rw [e] at h
   have efg : f = g := by simpa using e
   subst efg
   obtain ⟨k1, k2, Cs, k3, k4⟩ := qM6 ok h ht
   refine ⟨Cs, k4, fun Ml lo hκ => ?_⟩
   obtain ⟨cv, rfl, hc⟩ := hv
   refine ⟨cv, rfl, ?_⟩
   have l1 := k3.length
   have l2 := hc.length
   refine zO.of_get (by rw [List.length_map, List.length_range]; omega) fun i h1 h2 => ?_
   simp only [List.getElem_map, List.getElem_range]
   have hi : i < ids.length := by simp at h1; omega
   have hi' : i < Cs.length := by omega
   obtain ⟨C, B, q1, q2, q3⟩ := hc.get i hi h2
   have q4 := k3.get i hi hi'
   have q4 : M.κ ids[i] = some Cs[i] := q4
   rw [q1] at q4
   exact ⟨Cs[i], B, hκ i _ (List.getElem?_eq_getElem hi'), by rw [← Option.some.inj q4]; exact q2, q3⟩
 ·cases h
theorem qBx {h : Hp} : ∀ {ls : List (List PC)} {ids : List Nat} {cs : List zG}, zE2 h ls ids = some cs → cs.length = ls.flatten.length
 | [], [], cs, e => by cases e; rfl
 | l :: ls, id :: ids, cs, e => by
  unfold zE2 at e
  split at e
  ·rename_i cells rest h1 h2
   cases el : Nat.beq cells.length l.length with
   | false => rw [el] at e; cases e
   | true =>
    rw [el] at e
    cases e
    have : cells.length = l.length := by simpa using el
    simp [this, qBx h2]
  ·cases e
 | [], _ :: _, _, e => by cases e
 | _ :: _, [], _, e => by cases e
theorem yQw {h : Hp} {s : AS} {a : zD} {cs : List zG} (e : s.get h a = some cs) : cs.length = s.cells.length := by
 unfold AS.get at e
 split at e
 ·cases e; rfl
 ·rename_i l xs
  cases el : Nat.beq xs.length l.length with
  | false => rw [el] at e; cases e
  | true => rw [el] at e; cases e; exact Nat.eq_of_beq_eq_true el
 ·rw [qBx e]; simp [AS.cells]
 ·rename_i f caps g ids
  cases el : Nat.beq f g with
  | false => rw [el] at e; cases e
  | true => rw [el] at e; exact qBx e
 ·cases e
theorem yL4 {M : zA} (ok : Ok M) : ∀ {l : List AS} {as : List zD} {vs : List Value} {cs cs' : List zG} {n : Nat}, zO (zT M) as vs → zEb M.h l as = some cs → zO (Tr M) cs cs' →
  ∃ Cs : List zR, (∀ Ml, Lo M Ml → zO (zHd Ml) Cs (zBp l cs' n).2) ∧ (∀ Ml, Lo M Ml → (∀ i C, Cs[i]? = some C → Ml.κ (n + i) = some C) → zO (zT Ml) (zBp l cs' n).1 vs)
 | [], [], [], cs, cs', n, _, _, _ => ⟨[], fun _ _ => trivial, fun _ _ _ => trivial⟩
 | s :: l, a :: as, v :: vs, cs, cs', n, hv, h, ht => by
  unfold zEb at h
  split at h
  ·rename_i cs1 rest h1 h2
   cases h
   have hl := yQw h1
   have ht1 := zO.take s.cells.length ht
   have ht2 := zO.drop s.cells.length ht
   rw [← hl, List.take_left, hl] at ht1
   rw [← hl, List.drop_left, hl] at ht2
   obtain ⟨C1, k1, k2⟩ := yOw ok (n := n) hv.1 h1 ht1
   obtain ⟨C2, k3, k4⟩ := yL4 ok (n := n + (s.boxes (cs'.take s.cells.length)).length) hv.2 h2 ht2
   refine ⟨C1 ++ C2, fun Ml lo => (k1 Ml lo).append (k3 Ml lo), fun Ml lo hκ => ⟨k2 Ml lo fun i C hi => hκ i C ?_, k4 Ml lo fun i C hi => ?_⟩⟩
   ·have : i < C1.length := by
     rcases Nat.lt_or_ge i C1.length with h | h
     ·exact h
     ·rw [List.getElem?_eq_none h] at hi; cases hi
    rw [List.getElem?_append_left this]; exact hi
   ·have hb := (k1 Ml lo).length
    have := hκ (C1.length + i) C (by rw [List.getElem?_append_right (by omega)]; rw [show C1.length + i - C1.length = i by omega]; exact hi)
    rw [hb, ← Nat.add_assoc] at this
    exact this
  ·cases h
 | [], [], _ :: _, _, _, _, hv, _, _ => hv.elim
 | [], _ :: _, _, _, _, _, _, h, _ => by cases h
 | _ :: _, [], _, _, _, _, _, h, _ => by cases h
 | _ :: _, _ :: _, [], _, _, _, hv, _, _ => hv.elim
def zA.below (M : zA) (Cs : List zR) (bs : List (List zG)) : zA := { κ := fun n => Cs[n]?, F := fun b => b < M.H.size, G := M.G, h := zBo bs, H := M.H }
theorem zA.below_lo (M : zA) (Cs : List zR) (bs : List (List zG)) : Lo M (M.below Cs bs) := ⟨rfl, rfl, rfl⟩
theorem zA.below_ok {M : zA} (ok : Ok M) {Cs : List zR} {bs : List (List zG)} (h : zO (zHd (M.below Cs bs)) Cs bs) : Ok (M.below Cs bs) ∧ ∀ b, ¬ qN (M.below Cs bs) b := by
 have hr : ∀ id o, (M.below Cs bs).h id = some o → ∃ cells, bs[id]? = some cells ∧ o = .robox cells := fun id o e => by
  have e : zBo bs id = some o := e
  unfold zBo at e
  split at e
  ·rename_i cells hc
   cases e
   exact ⟨cells, hc, rfl⟩
  ·cases e
 have hno : ∀ b, ¬ qN (M.below Cs bs) b := fun b ⟨id, o, C, h1, h2, _, _⟩ => by
  obtain ⟨cells, _, rfl⟩ := hr id o h1
  cases h2
 refine ⟨⟨fun id o e => ?_, fun id e => ?_, fun i j oi oj Ci Cj b _ h1 _ h3 _ _ _ _ _ => ?_, fun b hb => absurd hb (hno b), fun b hb => ok.Flt b (ok.GF b hb), fun b hb => hb⟩, hno⟩
 ·obtain ⟨cells, hc, rfl⟩ := hr id o e
  have hlt : id < bs.length := by
   rcases Nat.lt_or_ge id bs.length with h | h
   ·exact h
   ·rw [List.getElem?_eq_none h] at hc; cases hc
  have hlt' : id < Cs.length := by rw [h.length]; exact hlt
  obtain ⟨B, vals, ev, q1, q2, q3, q4⟩ := h.get id hlt' hlt
  rw [List.getElem?_eq_getElem hlt] at hc
  cases hc
  refine ⟨Cs[id], List.getElem?_eq_getElem hlt', B, vals, ev, q1, q2, q3, q4, ?_⟩
  exact (Array.getElem?_eq_some_iff.1 q3).1
 ·have e : zBo bs id = none := e
  unfold zBo at e
  split at e
  ·cases e
  ·rename_i hc
   show Cs[id]? = none
   rw [List.getElem?_eq_none_iff] at hc ⊢
   rw [h.length]; exact hc
 ·obtain ⟨cells, _, rfl⟩ := hr i oi h1
  cases h3
theorem vCl {M : zA} (ok : Ok M) {l : List AS} {as : List zD} {vs : List Value} {d : AD l} (hv : zO (zT M) as vs) (h : inA M.h l as = some d) :
  ∃ Ml : zA, Lo M Ml ∧ Ml.h = (zDe l d).2 ∧ Ok Ml ∧ (∀ b, ¬ qN Ml b) ∧ zO (zT Ml) (zDe l d).1 vs := by
 unfold inA at h
 split at h
 ·rename_i cs hg
  obtain ⟨Cs, h1, h2⟩ := yL4 ok (n := 0) hv hg (qS8 ok h)
  have lo := M.below_lo Cs (zBp l (vH (l.flatMap AS.cells) d) 0).2
  have := zA.below_ok ok (h1 _ lo)
  exact ⟨_, lo, rfl, this.1, this.2, h2 _ lo fun i C hi => by rw [Nat.zero_add]; exact hi⟩
 ·cases h
theorem zGg {h0 : Hp} : ∀ {l : List Bool} {cs cs' : List zG} {vs : List Value} {u : zX} {M : zA}, Ok M → vY h0 M.h → zO (zV M) cs vs → jO h0 l cs = some (cs', u) →
  ∃ L : zA, L.H = M.H ∧ L.h = qE M.h u ∧ Ok L ∧ yO M L ∧ zO (zV L) cs' vs ∧ vY h0 L.h
 | [], cs, cs', vs, u, M, ok, hf, hc, h => by
  cases cs <;> cases h <;> exact ⟨M, rfl, rfl, ok, .refl M, hc, hf⟩
 | true :: l, [], cs', vs, u, M, ok, hf, hc, h => by cases h; exact ⟨M, rfl, rfl, ok, .refl M, hc, hf⟩
 | false :: l, [], cs', vs, u, M, ok, hf, hc, h => by cases h; exact ⟨M, rfl, rfl, ok, .refl M, hc, hf⟩
 | true :: l, c :: cs, cs', v :: vs, u, M, ok, hf, hc, h => by
  unfold jO at h
  split at h
  ·rename_i c1 u1 cs1 us1 e1 e2
   cases h
   obtain ⟨M1, h1, h2, h3, h4, h5, h6, _⟩ := zQm ok hf hc.1 e1
   obtain ⟨M2, k1, k2, k3, k4, k5, k6⟩ := zGg h3 h6 (hc.2.mono fun _ _ h => h.ext h4.ext) e2
   exact ⟨M2, k1.trans h1, by rw [k2, h2, zBj], k3, h4.trans k4, ⟨h5.ext k4.ext, k5⟩, k6⟩
  ·cases h
 | false :: l, c :: cs, cs', v :: vs, u, M, ok, hf, hc, h => by
  unfold jO at h
  split at h
  ·rename_i cs1 us1 e2
   cases h
   obtain ⟨M2, k1, k2, k3, k4, k5, k6⟩ := zGg ok hf hc.2 e2
   exact ⟨M2, k1, k2, k3, k4, ⟨hc.1.ext k4.ext, k5⟩, k6⟩
  ·cases h
 | true :: _, _ :: _, _, [], _, _, _, _, hc, _ => hc.elim
 | false :: _, _ :: _, _, [], _, _, _, _, hc, _ => hc.elim
def zA.add (M : zA) (nm : Nat) (o : Obj) (C : zR) : zA := { M with κ := κset M.κ nm C, h := yC M.h nm o }
theorem zA.add_ok {M : zA} (ok : Ok M) {nm : Nat} (hnm : M.h nm = none) {o : Obj} {C : zR} (hO : yM (M.add nm o C) o C) (hb : ∀ b ∈ C.fp, ¬ qN M b ∧ ¬ M.F b ∧ b < M.H.size) :
  Ok (M.add nm o C) ∧ yG M (M.add nm o C) ∧ (∀ b, qN (M.add nm o C) b → qN M b ∨ b ∈ C.fp) := by
 have x : yG M (M.add nm o C) := ⟨fun id D h => by
  have hne : id ≠ nm := fun e => by rw [e, ok.non nm hnm] at h; cases h
  exact ⟨D, by show κset M.κ nm _ id = _; rw [κset_ne _ _ hne]; exact h, D.le_refl⟩, fun _ h => h, fun _ h => h, fun _ _ => rfl, fun _ _ => rfl, fun _ _ => rfl⟩
 refine ⟨Ok.build ok x (fun id => id = nm) (fun id h => yE _ _ h) (fun id h => κset_ne _ _ h) (fun _ _ _ _ _ _ _ _ _ => rfl) (fun id o' D h1 h2 h3 h4 b hb' => (ok.own b ⟨id, o', D, h2, h3, h4, hb'⟩).1) (Nat.le_refl _)
  (fun id o' e h => ?_) (fun id e h => ?_) (fun id o' D b e h1 h2 h3 h4 => ?_) ok.GF ok.Flt, x, fun b hb' => ?_⟩
 ·subst e
  have e1 : (M.add id o C).h id = some o := yB _ _ _
  rw [e1] at h
  cases h
  exact ⟨_, κset_same _ _ _, hO⟩
 ·subst e
  have e1 : (M.add id o C).h id = some o := yB _ _ _
  rw [e1] at h; cases h
 ·subst e
  have e1 : (M.add id o C).κ id = some C := κset_same _ _ _
  rw [e1] at h3
  cases h3
  obtain ⟨k1, k2, k3⟩ := hb b h4
  refine ⟨fun j oj Cj hj q1 q2 q3 q4 => k1 ⟨j, oj, Cj, ?_, q2, ?_, q4⟩, k2, k3⟩
  ·rw [← q1]; exact (yE _ _ hj).symm
  ·rw [← q3]; exact (κset_ne _ _ hj).symm
 ·obtain ⟨id, o', D, h1, h2, h3, h4⟩ := hb'
  by_cases e : id = nm
  ·subst e
   have e1 : (M.add id o C).κ id = some C := κset_same _ _ _
   rw [e1] at h3
   cases h3
   exact .inr h4
  ·exact .inl ⟨id, o', D, by rw [← h1]; exact (yE _ _ e).symm, h2, by rw [← h3]; exact (κset_ne _ _ e).symm, h4⟩
structure Up (L Mc : zA) : Prop where
 H : Mc.H = L.H
 G : Mc.G = L.G
theorem qXh {L Mc : zA} (up : Up L Mc) {t : Ty} {xs : List t.den} {C : zR} (h : yM L (.arr true t xs) C) : yM Mc (.arr true t xs) C := by
 obtain ⟨h1, h2, h3, h4⟩ := h
 refine ⟨h1, h2, h3, ?_⟩
 rw [up.H, up.G]
 exact h4
theorem vAq {L Mc : zA} (up : Up L Mc) {ver : Nat} {xs : List (List Int)} {C : zR} (h : yM L (.mat ver xs) C) : yM Mc (.mat 0 xs) { C with ver := 0 } := by
 obtain ⟨h1, h2⟩ := h
 refine ⟨rfl, ?_⟩
 rw [up.H]
 exact h2
theorem yVj {L Mc : zA} (up : Up L Mc) {ver n : Nat} {xs : List (List Int)} {C : zR} (h : yM L (.pmat ver xs n) C) (hn : xs.length = n) : yM Mc (.mat 0 xs) { C with ver := 0 } := by
 obtain ⟨h1, h2, h3, h4, h5, _, h6⟩ := h
 refine ⟨rfl, by rw [hn]; exact h2, h3, h4, h5, ?_⟩
 rw [up.H]
 subst hn
 cases hB : C.blk with
 | none => rw [hB] at h6; exact List.eq_nil_of_length_eq_zero h6
 | some B => rw [hB] at h6; exact h6
theorem vBj {L Mc : zA} (up : Up L Mc) {xs : List (List Int)} {C : zR} (h : yM L (.arr true (.sl (.int .i64)) xs) C) : yM Mc (.pmat 0 [] xs.length) { C with ver := 0 } := by
 obtain ⟨h1, h2, h3, h4⟩ := h
 have hr := h3 rfl
 refine ⟨rfl, h1, h2, by show C.rows.length = 0; rw [hr]; rfl, ?_, Nat.zero_le _, ?_⟩
 ·simp only [zR.fp, hr]
  cases C.blk <;> simp
 ·cases hB : C.blk with
  | none => rw [hB] at h4; show xs.length = 0; rw [h4]; rfl
  | some B =>
   rw [hB] at h4
   obtain ⟨vals, e, h5, _, h7, _⟩ := h4
   refine ⟨vals, e, by rw [up.H]; exact h5, by simpa [Ty.size] using h7, fun i hi => by simp at hi⟩
theorem vC8 {L Mc : zA} (okL : Ok L) (ok : Ok Mc) (up : Up L Mc) {nm : Nat} (hnm : Mc.h nm = none) {r : RC} {c : zG} {d : r.den} (h : zDx L.h r c = some d)
  (hb : ∀ id ∈ vI [r] [c], ∀ C, L.κ id = some C → ∀ b ∈ C.fp, ¬ qN Mc b ∧ ¬ Mc.F b ∧ b < Mc.H.size) :
  ∃ Mc' : zA, Mc'.H = Mc.H ∧ Mc'.G = Mc.G ∧ Mc'.F = Mc.F ∧ Mc'.h = qE Mc.h (zD6 nm r d).2 ∧ Ok Mc' ∧ yG Mc Mc' ∧
   (∀ b, qN Mc' b → qN Mc b ∨ ∃ id ∈ vI [r] [c], ∃ C, L.κ id = some C ∧ b ∈ C.fp) ∧ ∀ v, zV L c v → zV Mc' (zD6 nm r d).1 v := by
 have same : (zD6 nm r d).2 = [] → (∀ v, zV L c v → zV Mc (zD6 nm r d).1 v) → _ := fun e hv => (⟨Mc, rfl, rfl, rfl, by rw [e]; rfl, ok, .refl Mc, fun b h => .inl h, hv⟩ :
  ∃ Mc' : zA, Mc'.H = Mc.H ∧ Mc'.G = Mc.G ∧ Mc'.F = Mc.F ∧ Mc'.h = qE Mc.h (zD6 nm r d).2 ∧ Ok Mc' ∧ yG Mc Mc' ∧
   (∀ b, qN Mc' b → qN Mc b ∨ ∃ id ∈ vI [r] [c], ∃ C, L.κ id = some C ∧ b ∈ C.fp) ∧ ∀ v, zV L c v → zV Mc' (zD6 nm r d).1 v)
 unfold zDx at h
 split at h
 ·rename_i k j n
  cases e : zBm j k with
  | false => rw [e] at h; cases h
  | true =>
   rw [e] at h
   cases h
   exact same rfl fun v hv => by rw [← zG3 e]; exact hv
 ·cases h
  exact same rfl fun v hv => hv
 ·obtain ⟨e, hx⟩ := zBg h
  subst e
  subst hx
  refine same rfl fun v hv => ?_
  show zW Mc.H Mc.G _ _ _
  rw [up.H, up.G]
  exact hv
 ·cases h
  refine same rfl fun v hv => ?_
  rw [show v = .slice none 0 0 from hv]
  exact zRt
 ·rename_i t id
  split at h
  ·rename_i s xs hid
   obtain ⟨e, hx⟩ := zBg h
   subst e
   subst hx
   obtain ⟨C, hC, hO⟩ := okL.obj id _ hid
   obtain ⟨k1, k2, k3⟩ := zA.add_ok ok hnm (o := .arr true s xs) (C := C) (qXh (Mc := Mc.add nm (.arr true s xs) C) ⟨up.H, up.G⟩ hO) (hb id (by simp [vI]) C hC)
   refine ⟨Mc.add nm (.arr true s xs) C, rfl, rfl, rfl, rfl, k1, k2, fun b hb' => (k3 b hb').imp (fun h => h) fun h => ⟨id, by simp [vI], C, hC, h⟩, fun v hv => ?_⟩
   obtain ⟨C', hC', hS⟩ := hv
   rw [hC] at hC'; cases hC'
   refine ⟨C, κset_same _ _ _, ?_⟩
   show vV Mc.H C 0 C.len v
   rw [up.H]; exact hS
  ·cases h
 ·rename_i t id n
  split at h
  ·rename_i s xs hid
   obtain ⟨e, hx⟩ := zBg h
   subst e
   subst hx
   obtain ⟨C, hC, hO⟩ := okL.obj id _ hid
   let C' : zR := { C with len := (xs.take n).length }
   have hO' : yM (Mc.add nm (.arr true s (xs.take n)) C') (.arr true s (xs.take n)) C' := by
    obtain ⟨q1, q2, q3, q4⟩ := qXh (Mc := Mc.add nm (.arr true s (xs.take n)) C') ⟨up.H, up.G⟩ hO
    refine ⟨rfl, q2, q3, ?_⟩
    show match C.blk with
     | none => _
     | some B => _
    cases hB : C.blk with
    | none => rw [hB] at q4; show xs.take n = []; rw [q4]; simp
    | some B =>
     rw [hB] at q4
     obtain ⟨vals, e, r1, r2, r3, r4⟩ := q4
     have hle : (xs.take n).length ≤ xs.length := by rw [List.length_take]; omega
     have := Nat.mul_le_mul_right s.size hle
     refine ⟨vals, e, r1, r2, by omega, fun i hi => ?_⟩
     rw [List.getElem_take]
     exact r4 i (by omega)
   obtain ⟨k1, k2, k3⟩ := zA.add_ok ok hnm (o := .arr true s (xs.take n)) (C := C') hO' (hb id (by simp [vI]) C hC)
   refine ⟨Mc.add nm (.arr true s (xs.take n)) C', rfl, rfl, rfl, rfl, k1, k2, fun b hb' => (k3 b hb').imp (fun h => h) fun h => ⟨id, by simp [vI], C, hC, h⟩, fun v hv => ?_⟩
   obtain ⟨C1, hC1, h1, hS, _⟩ := hv
   rw [hC] at hC1; cases hC1
   have hl : (xs.take n).length = n := by rw [List.length_take, ← hO.1]; omega
   refine ⟨C', κset_same _ _ _, ?_⟩
   show vV Mc.H C' 0 (xs.take n).length v
   rw [hl, up.H]
   exact hS
  ·cases h
 ·rename_i t
  cases h
  obtain ⟨k1, k2, k3⟩ := Mc.nilObj_ok ok hnm t false
  refine ⟨Mc.nilObj nm (zA1 t false) (zBs t false), rfl, rfl, rfl, rfl, k1, k2, fun b hb' => .inl (k3 b hb'), fun v hv => ?_⟩
  rw [show v = .slice none 0 0 from hv]
  exact ⟨_, κset_same _ _ _, none, 0, rfl, rfl, rfl, rfl⟩
 ·rename_i id
  split at h
  ·rename_i ver xs hid
   cases h
   obtain ⟨C, hC, hO⟩ := okL.obj id _ hid
   obtain ⟨k1, k2, k3⟩ := zA.add_ok ok hnm (o := .mat 0 d) (C := { C with ver := 0 }) (vAq (Mc := Mc.add nm (.mat 0 d) { C with ver := 0 }) ⟨up.H, up.G⟩ hO) (hb id (by simp [vI]) C hC)
   refine ⟨Mc.add nm (.mat 0 d) { C with ver := 0 }, rfl, rfl, rfl, rfl, k1, k2, fun b hb' => (k3 b hb').imp (fun h => h) fun h => ⟨id, by simp [vI], C, hC, h⟩, fun v hv => ?_⟩
   obtain ⟨C', hC', hS⟩ := hv
   rw [hC] at hC'; cases hC'
   refine ⟨_, κset_same _ _ _, ?_⟩
   show vV Mc.H C 0 C.len v
   rw [up.H]; exact hS
  ·rename_i ver xs n hid
   obtain ⟨hc, h⟩ : Nat.beq xs.length n = true ∧ some xs = some d := by
    cases e : Nat.beq xs.length n with
    | true => rw [e] at h; exact ⟨rfl, h⟩
    | false => rw [e] at h; cases h
   cases h
   obtain ⟨C, hC, hO⟩ := okL.obj id _ hid
   obtain ⟨k1, k2, k3⟩ := zA.add_ok ok hnm (o := .mat 0 d) (C := { C with ver := 0 }) (yVj (Mc := Mc.add nm (.mat 0 d) { C with ver := 0 }) ⟨up.H, up.G⟩ hO (Nat.eq_of_beq_eq_true hc)) (hb id (by simp [vI]) C hC)
   refine ⟨Mc.add nm (.mat 0 d) { C with ver := 0 }, rfl, rfl, rfl, rfl, k1, k2, fun b hb' => (k3 b hb').imp (fun h => h) fun h => ⟨id, by simp [vI], C, hC, h⟩, fun v hv => ?_⟩
   obtain ⟨C', hC', hS⟩ := hv
   rw [hC] at hC'; cases hC'
   refine ⟨_, κset_same _ _ _, ?_⟩
   show vV Mc.H C 0 C.len v
   rw [up.H]; exact hS
  ·cases h
 ·cases h
  obtain ⟨k1, k2, k3⟩ := Mc.nilObj_ok ok hnm (.int .i64) true
  refine ⟨Mc.nilObj nm (zA1 (.int .i64) true) (zBs (.int .i64) true), rfl, rfl, rfl, rfl, k1, k2, fun b hb' => .inl (k3 b hb'), fun v hv => ?_⟩
  rw [show v = .slice none 0 0 from hv]
  exact ⟨_, κset_same _ _ _, none, 0, rfl, rfl, rfl, rfl⟩
 ·rename_i id
  split at h
  ·rename_i xs hid
   cases h
   obtain ⟨C, hC, hO⟩ := okL.obj id _ hid
   obtain ⟨k1, k2, k3⟩ := zA.add_ok ok hnm (o := .pmat 0 [] xs.length) (C := { C with ver := 0 }) (vBj (Mc := Mc.add nm (.pmat 0 [] xs.length) { C with ver := 0 }) ⟨up.H, up.G⟩ hO) (hb id (by simp [vI]) C hC)
   refine ⟨Mc.add nm (.pmat 0 [] xs.length) { C with ver := 0 }, rfl, rfl, rfl, rfl, k1, k2, fun b hb' => (k3 b hb').imp (fun h => h) fun h => ⟨id, by simp [vI], C, hC, h⟩, fun v hv => ?_⟩
   obtain ⟨C', hC', hS⟩ := hv
   rw [hC] at hC'; cases hC'
   refine ⟨_, κset_same _ _ _, ?_⟩
   show vV Mc.H C 0 C.len v
   rw [up.H]; exact hS
  ·cases h
 ·cases h
  obtain ⟨k1, k2, k3⟩ := zA.add_ok ok hnm (o := .pmat 0 [] 0) (C := ⟨none, 0, 1, 0, []⟩) ⟨rfl, rfl, rfl, rfl, by simp [zR.fp], Nat.le_refl _, rfl⟩ (fun b hb => by simp [zR.fp] at hb)
  refine ⟨Mc.add nm (.pmat 0 [] 0) ⟨none, 0, 1, 0, []⟩, rfl, rfl, rfl, rfl, k1, k2, fun b hb' => (k3 b hb').imp (fun h => h) fun h => by simp [zR.fp] at h, fun v hv => ?_⟩
  rw [show v = .slice none 0 0 from hv]
  exact ⟨_, κset_same _ _ _, none, 0, rfl, rfl, rfl, rfl⟩
 ·rename_i id
  split at h
  ·rename_i kvs hid
   cases h
   obtain ⟨C, hC, hO⟩ := okL.obj id _ hid
   have hO' : yM (Mc.add nm (.imap d) C) (.imap d) C := by
    obtain ⟨B, es, ck, h1, h2, h3, h4, h5⟩ := hO
    refine ⟨B, es, ck, h1, h2, ?_, h4, h5⟩
    show Mc.H[B]? = _
    rw [up.H]; exact h3
   obtain ⟨k1, k2, k3⟩ := zA.add_ok ok hnm (o := .imap d) (C := C) hO' (hb id (by simp [vI]) C hC)
   refine ⟨Mc.add nm (.imap d) C, rfl, rfl, rfl, rfl, k1, k2, fun b hb' => (k3 b hb').imp (fun h => h) fun h => ⟨id, by simp [vI], C, hC, h⟩, fun v hv => ?_⟩
   obtain ⟨C', B, hC', hB, e⟩ := hv
   rw [hC] at hC'; cases hC'
   exact ⟨C, B, κset_same _ _ _, hB, e⟩
  ·cases h
 ·exact same rfl fun v hv => hv
 ·exact same rfl fun v hv => hv.one
 ·cases h
theorem zXq (r : RC) (c : zG) (l : List RC) (cs : List zG) : vI (r :: l) (c :: cs) = vI [r] [c] ++ vI l cs := by
 cases r <;> cases c <;> rfl
theorem yKo {nm : Nat} {r : RC} {d : r.den} {n : Nat} (h : n ≠ nm) (hh : Hp) : qE hh (zD6 nm r d).2 n = hh n := by
 cases r <;> first | rfl | exact yE _ _ h
theorem qHj {h : Hp} : ∀ {n nm : Nat}, zGt h nm n = true → ∀ i, i < n → h (nm + i) = none
 | n + 1, nm, e, i, hi => by
  unfold zGt at e
  rw [Bool.and_eq_true] at e
  cases i with
  | zero =>
   have := e.1
   split at this
   ·assumption
   ·cases this
  | succ i => rw [← qHj e.2 i (by omega)]; congr 1; omega
theorem qJ9 {L : zA} (okL : Ok L) : ∀ {l : List RC} {cs : List zG} {d : RL l} {nm : Nat} {Mc : zA}, Ok Mc → Up L Mc → (∀ i, i < l.length → Mc.h (nm + i) = none) → zBb L.h l cs = some d → (vI l cs).Nodup →
  (∀ id ∈ vI l cs, ∃ o, L.h id = some o ∧ o.owned = true) →
  (∀ id ∈ vI l cs, ∀ C, L.κ id = some C → ∀ b ∈ C.fp, ¬ qN Mc b ∧ ¬ Mc.F b ∧ b < Mc.H.size) →
  ∃ Mc' : zA, Mc'.H = Mc.H ∧ Mc'.G = Mc.G ∧ Mc'.F = Mc.F ∧ Mc'.h = qE Mc.h (zCz nm l d).2 ∧ Ok Mc' ∧ yG Mc Mc' ∧
   (∀ b, qN Mc' b → qN Mc b ∨ ∃ id ∈ vI l cs, ∃ C, L.κ id = some C ∧ b ∈ C.fp) ∧ ∀ vs, zO (zV L) cs vs → zO (zV Mc') (zCz nm l d).1 vs
 | [], [], d, nm, Mc, ok, up, _, _, _, _, _ => ⟨Mc, rfl, rfl, rfl, rfl, ok, .refl Mc, fun b h => .inl h, fun vs h => by
  cases vs with
  | nil => trivial
  | cons _ _ => exact h.elim⟩
 | r :: l, c :: cs, d, nm, Mc, ok, up, hf, h, hnd, hown, hb => by
  unfold zBb at h
  split at h
  ·rename_i x xs e1 e2
   cases h
   rw [zXq] at hnd hown hb
   obtain ⟨nd1, nd2, nd3⟩ := List.nodup_append.1 hnd
   obtain ⟨M1, a1, a2, a3, a4, a5, a6, a7, a8⟩ := vC8 okL ok up (by have := hf 0 (by simp); simpa using this) e1 (fun id hid => hb id (List.mem_append_left _ hid))
   have up1 : Up L M1 := ⟨a1.trans up.H, a2.trans up.G⟩
   obtain ⟨M2, b1, b2, b3, b4, b5, b6, b7, b8⟩ := qJ9 okL (nm := nm + 1) a5 up1 (fun i hi => by
     rw [a4, yKo (by omega)]
     have := hf (i + 1) (by simp; omega)
     rw [← this]; congr 1; omega) e2 nd2 (fun id hid => hown id (List.mem_append_right _ hid)) (fun id hid C hC b hbC => by
     obtain ⟨q1, q2, q3⟩ := hb id (List.mem_append_right _ hid) C hC b hbC
     refine ⟨fun ho => ?_, by rw [a3]; exact q2, by rw [a1]; exact q3⟩
     rcases a7 b ho with ho | ⟨jd, hjd, D, hD, hbD⟩
     ·exact q1 ho
     ·have hne : id ≠ jd := fun e => nd3 jd hjd id hid e.symm
      obtain ⟨o1, p1, p2⟩ := hown id (List.mem_append_right _ hid)
      obtain ⟨o2, p3, p4⟩ := hown jd (List.mem_append_left _ hjd)
      exact okL.disj id jd o1 o2 C D b hne p1 p3 p2 p4 hC hD hbC hbD)
   refine ⟨M2, b1.trans a1, b2.trans a2, b3.trans a3, ?_, b5, a6.trans (by rw [a1]; exact Nat.le_refl _) b6, fun b hb' => ?_, fun vs hvs => ?_⟩
   ·show M2.h = qE Mc.h ((zD6 nm r x).2 ++ (zCz (nm + 1) l xs).2)
    rw [zBj, ← a4]; exact b4
   ·rw [zXq]
    rcases b7 b hb' with h | ⟨id, hid, C, h⟩
    ·rcases a7 b h with h | ⟨id, hid, C, h⟩
     ·exact .inl h
     ·exact .inr ⟨id, List.mem_append_left _ hid, C, h⟩
    ·exact .inr ⟨id, List.mem_append_right _ hid, C, h⟩
   ·cases vs with
    | nil => exact hvs.elim
    | cons v vs => exact ⟨(a8 v hvs.1).ext b6, b8 vs hvs.2⟩
  ·cases h
 | [], _ :: _, _, _, _, _, _, _, h, _, _, _ => by cases h
 | _ :: _, [], _, _, _, _, _, _, h, _, _, _ => by cases h
theorem yX {α : Type} {c : Bool} {x : Option α} {y : α} (h : (bif c then x else none) = some y) : c = true ∧ x = some y := by
 cases c with
 | true => exact ⟨rfl, h⟩
 | false => cases h
theorem yJ2 {M : zA} : ∀ {l : List (Bool × List RC)} {xs : List (Bool × List zG)} {cs : List zG} {vs : List Value}, zWq l xs = some cs → zO (zE0 M) xs vs →
  cs.length = (l.flatMap (·.2)).length ∧ ∃ us : List Value, zO (zV M) cs us ∧ ∀ (M' : zA) (cs' : List zG), zO (zV M') cs' us → zO (zE0 M') (zZa l cs') vs
 | [], [], cs, [], h, _ => by cases h; exact ⟨rfl, [], trivial, fun _ _ _ => trivial⟩
 | (b, l) :: ls, (g, cs1) :: rest, cs, v :: vs, h, hv => by
  unfold zWq at h
  obtain ⟨hc, h⟩ := yX h
  split at h
  ·rename_i r hr
   cases h
   rw [Bool.and_eq_true] at hc
   have hl : cs1.length = l.length := by simpa using hc.2
   obtain ⟨k1, us, k2, k3⟩ := yJ2 hr hv.2
   refine ⟨by simp [hl, k1], ?_⟩
   cases b with
   | true =>
    have hg : g = true := hc.1
    subst hg
    obtain ⟨ws, rfl, hw⟩ := hv.1
    refine ⟨ws.toList ++ us, hw.append k2, fun M' cs' h' => ⟨?_, ?_⟩⟩
    ·have h1 := zO.take l.length h'
     have hwl := hw.length
     rw [show (ws.toList ++ us).take l.length = ws.toList from by rw [List.take_append_of_le_length (by omega), List.take_of_length_le (by omega)]] at h1
     exact ⟨ws, rfl, h1⟩
    ·have h1 := zO.drop l.length h'
     have hwl := hw.length
     rw [show (ws.toList ++ us).drop l.length = us from by rw [show l.length = ws.toList.length by omega, List.drop_left]] at h1
     exact k3 M' _ h1
   | false =>
    have hg := hc.1
    simp only [cond_false, Bool.and_eq_true, Bool.not_eq_true'] at hg
    obtain ⟨hg1, hg2⟩ := hg
    subst hg1
    have hl1 : cs1.length = 1 := by simpa using hg2
    match cs1, hl1 with
    | [c], _ =>
     have hv1 : zV M c v := hv.1
     refine ⟨v :: us, ⟨hv1, k2⟩, fun M' cs' h' => ?_⟩
     match cs', h' with
     | c' :: cs'', h' =>
      have e : l.length = 1 := by rw [← hl]; rfl
      refine ⟨?_, ?_⟩
      ·show zE0 M' (false, (c' :: cs'').take l.length) v
       rw [e]
       exact h'.1
      ·show zO _ (zZa ls ((c' :: cs'').drop l.length)) vs
       rw [e]
       exact k3 M' cs'' h'.2
  ·cases h
 | [], _ :: _, _, _, h, _ => by cases h
 | (_, _) :: _, [], _, _, h, _ => by cases h
 | [], [], _, _ :: _, _, hv => hv.elim
 | _ :: _, _ :: _, _, [], _, hv => hv.elim
theorem yKe {M : zA} {s : RS} {v : zD} {cs : List zG} {rv : Value} (h : s.get v = some cs) (hv : zT M v rv) :
  cs.length = s.cells.length ∧ ∃ us : List Value, zO (zV M) cs us ∧ ∀ (M' : zA) (cs' : List zG), zO (zV M') cs' us → zT M' (s.mk cs') rv := by
 unfold RS.get at h
 split at h
 ·rename_i r x
  cases h
  refine ⟨rfl, [rv], ⟨hv, trivial⟩, fun M' cs' h' => ?_⟩
  match cs', h' with
  | [c'], h' => exact h'.1
 ·rename_i l xs
  obtain ⟨hl, h⟩ := yX h
  cases h
  obtain ⟨vs, rfl, hx⟩ := hv
  exact ⟨Nat.eq_of_beq_eq_true hl, vs.toList, hx, fun M' cs' h' => ⟨vs, rfl, h'⟩⟩
 ·rename_i l xs
  obtain ⟨vs, rfl, hx⟩ := hv
  obtain ⟨k1, us, k2, k3⟩ := yJ2 h hx
  exact ⟨k1, us, k2, fun M' cs' h' => ⟨vs, rfl, k3 M' cs' h'⟩⟩
 ·cases h
theorem yPe {h0 : Hp} {s : AS} {a a' : zD} {v : Value} {u : zX} {M : zA} (ok : Ok M) (hf : vY h0 M.h) (hv : zT M a v) (h : zGm h0 s a = some (a', u)) :
  ∃ L : zA, L.H = M.H ∧ L.h = qE M.h u ∧ Ok L ∧ yO M L ∧ zT L a' v ∧ vY h0 L.h := by
 unfold zGm at h
 split at h
 ·rename_i p x
  split at h
  ·rename_i y u1 e
   cases h
   obtain ⟨L, h1, h2, h3, h4, h5, h6⟩ := zGg (cs := [x]) (vs := [v]) ok hf ⟨hv, trivial⟩ e
   exact ⟨L, h1, h2, h3, h4, h5.1, h6⟩
  ·cases h
 ·rename_i l xs
  split at h
  ·rename_i ys u1 e
   cases h
   obtain ⟨vs, rfl, hx⟩ := hv
   obtain ⟨L, h1, h2, h3, h4, h5, h6⟩ := zGg ok hf hx e
   exact ⟨L, h1, h2, h3, h4, ⟨vs, rfl, h5⟩, h6⟩
  ·cases h
 ·cases h
  exact ⟨M, rfl, rfl, ok, .refl M, hv, hf⟩
theorem VReps.ext {M M' : zA} (x : yG M M') : ∀ {as : List zD} {vs : List Value}, zO (zT M) as vs → zO (zT M') as vs := fun h => h.mono fun _ _ h => h.ext x
theorem qYp {h0 : Hp} : ∀ {l : List AS} {as as' : List zD} {vs : List Value} {u : zX} {M : zA}, Ok M → vY h0 M.h → zO (zT M) as vs → zEn h0 l as = some (as', u) →
  ∃ L : zA, L.H = M.H ∧ L.h = qE M.h u ∧ Ok L ∧ yO M L ∧ zO (zT L) as' vs ∧ vY h0 L.h
 | s :: l, a :: as, as', v :: vs, u, M, ok, hf, hv, h => by
  unfold zEn at h
  split at h
  ·rename_i a1 u1 as1 us1 e1 e2
   cases h
   obtain ⟨M1, h1, h2, h3, h4, h5, h6⟩ := yPe ok hf hv.1 e1
   obtain ⟨M2, k1, k2, k3, k4, k5, k6⟩ := qYp h3 h6 (VReps.ext h4.ext hv.2) e2
   exact ⟨M2, k1.trans h1, by rw [k2, h2, zBj], k3, h4.trans k4, ⟨h5.ext k4.ext, k5⟩, k6⟩
  ·cases h
 | [], as, as', vs, u, M, ok, hf, hv, h => by
  cases as <;> cases h <;> exact ⟨M, rfl, rfl, ok, .refl M, hv, hf⟩
 | s :: l, [], as', vs, u, M, ok, hf, hv, h => by cases h; exact ⟨M, rfl, rfl, ok, .refl M, hv, hf⟩
 | _ :: _, _ :: _, _, [], _, _, _, _, hv, _ => hv.elim
def zA.over (M L : zA) : zA := { κ := M.κ, F := fun b => M.F b ∨ L.G b, G := L.G, h := M.h, H := L.H }
theorem zA.over_ok {M Ml L : zA} (ok : Ok M) (okL : Ok L) (lo : Lo M Ml) (hno : ∀ b, ¬ qN Ml b) (g : zAs Ml L) : Ok (M.over L) ∧ yO M (M.over L) := by
 have hlt : ∀ b, Ml.F b ↔ b < M.H.size := fun b => by rw [lo.F]
 have hsame : ∀ b, b < M.H.size → L.H[b]? = M.H[b]? := fun b hb => by rw [g.same b ((hlt b).2 hb), lo.H]
 have hsz : M.H.size ≤ L.H.size := by have := g.size; rw [lo.H] at this; exact this
 have hG : ∀ b, L.G b → b < M.H.size → M.G b := fun b hb hs => by
  rcases g.Gb b hb (by rw [lo.H]; exact hs) with h | h
  ·rw [lo.G] at h; exact h
  ·exact absurd h (hno b)
 have hlt' : ∀ b, M.F b → b < M.H.size := ok.Flt
 have x : yG M (M.over L) := ⟨fun id C h => ⟨C, h, C.le_refl⟩, fun b h => .inl h, fun b h => g.G b (by rw [lo.G]; exact h), fun b h => hsame b (ok.Flt b h), fun b h => hsame b (ok.Flt b (ok.GF b h)), fun b h => zK5 (hsame b h)⟩
 have hown : ∀ b, qN (M.over L) b → qN M b := fun b h => h
 refine ⟨⟨fun id o h => ?_, fun id h => ok.non id h, ok.disj, fun b h => ⟨fun hf => ?_, ?_⟩, fun b h => .inr h, fun b h => ?_⟩, ⟨x, hsz, fun b hb _ => hsame b hb, fun b h _ => h, fun b h hs => .inl (hG b h hs), fun b h hs => ?_⟩⟩
 ·obtain ⟨C, hC, hO⟩ := ok.obj id o h
  exact ⟨C, hC, hO.ext x fun ho b hb => hsame b (ok.own b ⟨id, o, C, h, ho, hC, hb⟩).2⟩
 ·have := ok.own b (hown b h)
  rcases hf with hf | hf
  ·exact this.1 hf
  ·exact this.1 (ok.GF b (hG b hf this.2))
 ·have h1 := (ok.own b (hown b h)).2
  show b < L.H.size
  omega
 ·show b < L.H.size
  rcases h with h | h
  ·have := ok.Flt b h; omega
  ·exact okL.Flt b (okL.GF b h)
 ·rcases h with h | h
  ·exact .inl h
  ·exact .inl (ok.GF b (hG b h hs))
theorem vDr {h0 : Hp} {r : RC} {c : zG} {d : r.den} (h : zDx h0 r c = some d) : ∀ id ∈ vI [r] [c], ∃ o, h0 id = some o ∧ o.owned = true := by
 unfold zDx at h
 split at h
 all_goals (try (intro id hid; simp [vI] at hid; done))
 ·rename_i t id
  intro id' hid
  have := List.mem_singleton.1 hid
  subst this
  split at h
  ·exact ⟨_, by assumption, rfl⟩
  ·cases h
 ·rename_i t id n
  intro id' hid
  have := List.mem_singleton.1 hid
  subst this
  split at h
  ·exact ⟨_, by assumption, rfl⟩
  ·cases h
 ·rename_i id
  intro id' hid
  have := List.mem_singleton.1 hid
  subst this
  split at h
  ·exact ⟨_, by assumption, rfl⟩
  ·exact ⟨_, by assumption, rfl⟩
  ·cases h
 ·rename_i id
  intro id' hid
  have := List.mem_singleton.1 hid
  subst this
  split at h
  ·exact ⟨_, by assumption, rfl⟩
  ·cases h
 ·rename_i id
  intro id' hid
  have := List.mem_singleton.1 hid
  subst this
  split at h
  ·exact ⟨_, by assumption, rfl⟩
  ·cases h
 ·cases h
theorem zGq {L : zA} : ∀ {l : List RC} {cs : List zG} {d : RL l}, zBb L.h l cs = some d → ∀ id ∈ vI l cs, ∃ o, L.h id = some o ∧ o.owned = true
 | [], [], _, _, id, hid => by cases hid
 | r :: l, c :: cs, d, h, id, hid => by
  unfold zBb at h
  split at h
  ·rename_i x xs e1 e2
   rw [zXq] at hid
   rcases List.mem_append.1 hid with hid | hid
   ·exact vDr e1 id hid
   ·exact zGq e2 id hid
  ·cases h
 | [], _ :: _, _, h, _, _ => by cases h
 | _ :: _, [], _, h, _, _ => by cases h
theorem yCc {E : qA} (hE : jI E) (hS : zAt E.sums) (hm : E.P.follows .mixedOrders = true) {A : zZ} {k pre na : Nat} {f : FuncId} {fn : Func} (hf : E.P.funcs[f]? = some fn) (hL : ∀ c, fn.body = some c → vM E.P A pre na fn.ntmps c) (hcall : ∀ vs w, (callFunc f vs).run E.P w = .ok (.enter f vs) w)
  {as : List AS} {rs : RS} {X : Type} {S : AD as → Option X} {pack : X → RL rs.cells} {unpack : RL rs.cells → X} (hpu : ∀ d, pack (unpack d) = d) (hev : ∀ d x, S d = some x → ∀ (Ml : zA) (vs : List Value), zO (zT Ml) (zDe as d).1 vs → ∃ args', zO (zT Ml) args' vs ∧ evF E A k pre na fn args' (zDe as d).2 (zB4 rs unpack) = some x)
  {nm : Nat} {args : List zD} {h : Hp} {v : zD} {u : zX} (hy : yD (zC2 as rs S pack nm args h) v u) : zFk E.P f args h v u := by
 intro M w vs hh hH ok hv
 refine .inl ⟨hcall vs w, ?_⟩
 unfold zC2 at hy
 split at hy
 ·exact hy.elim
 rename_i args' u0 hfrz
 split at hy
 case h_2 => exact hy.elim
 rename_i d hd
 obtain ⟨hc, hy⟩ := zHy hy
 rw [Bool.and_eq_true] at hc
 obtain ⟨x, hx, rfl, rfl⟩ := hy
 subst hh
 obtain ⟨M1, a1, a2, a3, a4, a5, a6⟩ := qYp ok (vY.refl _) hv hfrz
 rw [← a2] at hd
 obtain ⟨Ml, lo, b2, b3, b4, b5⟩ := vCl a3 a5 hd
 obtain ⟨args2, hargs2, hev2⟩ := hev d x hx Ml _ b5
 refine Calls.mono (qLn hE hS hm hf hL hev2 b2 (by rw [lo.H, a1]; exact hH) b3 hargs2) fun e w' he => ?_
 cases e with
 | panicked _ => exact he.elim
 | outgrown => exact he.elim
 | returned rv =>
  obtain ⟨L0, v0, st, hK, c1, c2, c3, c4, _, c5, c6, c7, c8, _⟩ := he
  have hK : zPa st.h rs v0 = some (pack x) := by
   unfold zB4 at hK
   split at hK
   ·rename_i d' hd'
    cases hK
    rw [hd', hpu]
   ·cases hK
  unfold zPa at hK
  split at hK
  case h_2 => cases hK
  rename_i cs hcs
  split at hK
  case h_2 => cases hK
  rename_i cs' u1 hfr
  obtain ⟨hnd, hK⟩ := yX hK
  obtain ⟨hlen, us, d1, d2⟩ := yKe hcs c5
  rw [← c1] at hfr hK
  obtain ⟨L, e1, e2, e3, e4, e5, e6⟩ := zGg c3 (vY.refl _) d1 hfr
  rw [← e2] at hK
  have g : zAs Ml L := c4.trans e4.grow
  obtain ⟨f1, f2⟩ := zA.over_ok a3 e3 lo b4 g
  have hfree : ∀ i, i < rs.cells.length → (M1.over L).h (nm + i) = none := fun i hi => by
   have h1 := qHj hc.1 i hi
   show M1.h (nm + i) = none
   rw [a2]
   rcases a6 (nm + i) with h | ⟨own, t, xs, h, _⟩ | ⟨ver, xs, h, _⟩
   ·rw [a2] at h; rw [h]; exact h1
   ·rw [h1] at h; cases h
   ·rw [h1] at h; cases h
  obtain ⟨Mc, g1, g2, g3, g4, g5, g6, g7, g8⟩ := qJ9 e3 f1 ⟨rfl, rfl⟩ hfree hK (zM7 hnd) (zGq hK) (fun id hid C hC b hb => by
   obtain ⟨o, ho, hoo⟩ := zGq hK id hid
   have hown : qN L b := ⟨id, o, C, ho, hoo, hC, hb⟩
   have hge : ¬ b < M1.H.size := fun hlt => b4 b (g.own b hown (by rw [lo.H]; exact hlt))
   refine ⟨fun h => hge (a3.own b h).2, fun h => ?_, (e3.own b hown).2⟩
   rcases h with h | h
   ·exact hge (a3.Flt b h)
   ·exact (e3.own b hown).1 (e3.GF b h))
  have st2 : yO M1 Mc := by
   have hown : ∀ b, qN Mc b → b < M1.H.size → qN M1 b := fun b hb hlt => by
    rcases g7 b hb with h | ⟨id, hid, C, hC, hbC⟩
    ·exact h
    ·obtain ⟨o, ho, hoo⟩ := zGq hK id hid
     exact absurd (g.own b ⟨id, o, C, ho, hoo, hC, hbC⟩ (by rw [lo.H]; exact hlt)) (b4 b)
   refine ⟨f2.ext.trans f2.size g6, ?_, fun b hb hn => ?_, hown, fun b hb hlt => ?_, fun b hb hlt => ?_⟩
   ·rw [g1]; exact f2.size
   ·rw [g1]; exact f2.frame b hb hn
   ·rw [g2] at hb; exact f2.Gb b hb hlt
   ·rw [g3] at hb; exact f2.Fb b hb hlt
  refine ⟨Mc, ⟨c6, c7, c8, ?_, ?_, g5, a4.trans st2⟩, ?_⟩
  ·rw [g1]; show L.H = _; rw [e1, c2]
  ·rw [zBj, ← a2]; exact g4
  ·exact d2 Mc _ (g8 us e5)
theorem vCg {E : qA} (hE : jI E) (hS : zAt E.sums) (hm : E.P.follows .mixedOrders = true) {A : zZ} {k pre na : Nat} {f : FuncId} {fn : Func} (hf : E.P.funcs[f]? = some fn) (hL : ∀ c, fn.body = some c → vM E.P A pre na fn.ntmps c) (hcall : ∀ vs w, (callFunc f vs).run E.P w = .ok (.enter f vs) w)
  {as : List AS} {rs : RS} {X : Type} {S : AD as → Option X} {pack : X → RL rs.cells} {unpack : RL rs.cells → X} (hpu : ∀ d, pack (unpack d) = d) (hev : ∀ d, evF E A k pre na fn (zDe as d).1 (zDe as d).2 (zB4 rs unpack) = S d)
  {nm : Nat} {args : List zD} {h : Hp} {v : zD} {u : zX} (hy : yD (zC2 as rs S pack nm args h) v u) : zFk E.P f args h v u :=
 yCc hE hS hm hf hL hcall hpu (fun d x hx _ _ hv => ⟨_, hv, (hev d).trans hx⟩) hy
theorem yQ4 {E : qA} (hE : jI E) (hS : zAt E.sums) (hm : E.P.follows .mixedOrders = true) {A : zZ} {k pre na : Nat} {f : FuncId} {fn : Func} (hf : E.P.funcs[f]? = some fn) (hL : ∀ c, fn.body = some c → vM E.P A pre na fn.ntmps c) (hcall : ∀ vs w, (callFunc f vs).run E.P w = .ok (.enter f vs) w)
  {sh : Bool} {t : Ty} {rs : RS} {X : Type} {S : List t.den → Option X} {pack : X → RL rs.cells} {unpack : RL rs.cells → X} (hpu : ∀ d, pack (unpack d) = d) (hnil : ∀ x, S [] = some x → evF E A k pre na fn [.c .nsl] (zBo []) (zB4 rs unpack) = some x)
  (hev : ∀ xs x, S xs = some x → evF E A k pre na fn [.c (.nfl sh t xs)] (zBo []) (zB4 rs unpack) = some x)
  {nm : Nat} {args : List zD} {h : Hp} {v : zD} {u : zX} (hy : yD (zC2 [.c (.dat sh t)] rs (fun d => S d.1) pack nm args h) v u) : zFk E.P f args h v u :=
 yCc hE hS hm hf hL hcall hpu (fun d x hx Ml vs hv => by
  obtain ⟨xs, _⟩ := d
  match vs, hv with
  | [v], hv =>
   have hv1 : zW Ml.H (bif sh then Ml.G else Ml.F) (.sl t) xs (fun _ => some v) := hv.1
   have hv2 := hv1
   simp only [zW, Option.some.injEq] at hv1
   obtain ⟨A', n, c, rfl, hn, hc, h⟩ := hv1
   cases A' with
   | some a => exact ⟨[.c (.nfl sh t xs)], ⟨⟨⟨a, n, c, rfl⟩, hv2⟩, trivial⟩, hev xs x hx⟩
   | none =>
    rcases h with ⟨rfl, h0⟩ | ⟨B, o, e, _⟩
    ·have h0 := h0 rfl
     subst h0
     have hn : n = 0 := hn
     subst hn
     exact ⟨[.c .nsl], ⟨rfl, trivial⟩, hnil x hx⟩
    ·cases e) hy
def yA.orElse : yA → yA → yA
 | .alts [], b => b
 | a, _ => a
abbrev zH := Nat → Nat → List zD → Hp → yA
def qP : List (Nat × zH) → zSv
 | [], _, _, _, _, _ => .stuck
 | (g, e) :: l, k, nm, f, args, h => bif Nat.beq g f then (e k nm args h).orElse (qP l k nm f args h) else qP l k nm f args h
def yHm (P : Program) (r : Nat × zH) : Prop := ∀ k nm args h v u, yD (r.2 k nm args h) v u → zFk P r.1 args h v u
def zP6 (e : zH) : Prop := ∀ k nm (args : List zD) h h', (args.any yQ = false → ∀ id, (id ∈ args.flatMap yK ∨ zCj nm id = true) → h id = h' id) → (args.any yQ = true → h = h') → e k nm args h = e k nm args h'
theorem vDx {a b : yA} {v : zD} {u : zX} (h : yD (a.orElse b) v u) : yD a v u ∨ yD b v u := by
 unfold yA.orElse at h
 split at h
 ·exact .inr h
 ·exact .inl h
theorem yAb {P : Program} : ∀ {l : List (Nat × zH)}, (∀ r ∈ l, yHm P r) → yH3 P (qP l)
 | [], _ => fun k nm f args h v u hy => hy.elim
 | (g, e) :: l, hl => fun k nm f args h v u hy => by
  have ih := yAb (l := l) fun r hr => hl r (List.mem_cons_of_mem _ hr)
  unfold qP at hy
  cases hg : Nat.beq g f with
  | false => rw [hg] at hy; exact ih k nm f args h v u hy
  | true =>
   rw [hg] at hy
   have : g = f := by simpa using hg
   subst this
   rcases vDx hy with hy | hy
   ·exact hl (g, e) (List.mem_cons_self ..) k nm args h v u hy
   ·exact ih k nm g args h v u hy
theorem qTy : ∀ {l : List (Nat × zH)}, (∀ r ∈ l, zP6 r.2) → zAt (qP l)
 | [], _ => fun k nm f args h h' _ _ => rfl
 | (g, e) :: l, hl => fun k nm f args h h' h1 h2 => by
  have ih := qTy (l := l) (fun r hr => hl r (List.mem_cons_of_mem _ hr)) k nm f args h h' h1 h2
  unfold qP
  have he : e k nm args h = e k nm args h' := hl (g, e) (List.mem_cons_self ..) k nm args h h' h1 h2
  rw [ih, he]
section
variable {h h' : Hp}
theorem ySo {t : Ty} {c : zG} (hh : ∀ id ∈ yU c, h id = h' id) : zH8 h t c = zH8 h' t c := by
 have e := zSf hh
 unfold zH8
 cases c <;> first | rfl | simp only [e]
theorem qYw {p : PC} {c : zG} (hh : ∀ id ∈ yU c, h id = h' id) : inP h p c = inP h' p c := by
 have e := fun t => ySo (t := t) hh
 unfold inP
 cases p with
 | dat sh t => cases sh with
  | false => cases c <;> exact e t
  | true => cases c <;> first | rfl | (rename_i b _ _; cases b <;> rfl)
 | fn f => cases c <;> first | rfl | (rename_i cap; cases cap <;> rfl)
 | _ => cases c <;> rfl
theorem yNr : ∀ {l : List PC} {cs : List zG}, (∀ id ∈ cs.flatMap yU, h id = h' id) → inL h l cs = inL h' l cs
 | [], [], _ => rfl
 | [], _ :: _, _ => rfl
 | _ :: _, [], _ => rfl
 | p :: l, c :: cs, hh => by
  simp only [List.flatMap_cons, List.mem_append] at hh
  unfold inL
  rw [qYw fun id hi => hh id (.inl hi), yNr fun id hi => hh id (.inr hi)]
theorem yQz {ls : List (List PC)} : zE2 h ls [] = zE2 h' ls [] := by
 cases ls <;> rfl
theorem yR4 {s : AS} {a : zD} (hb : yQ a = false) : s.get h a = s.get h' a := by
 unfold AS.get
 cases s with
 | c p => cases a <;> rfl
 | agg l => cases a <;> rfl
 | ptr l =>
  cases a with
  | c x => cases x <;> first | rfl | (exact absurd hb (by simp [yQ]))
  | _ => rfl
 | fn f caps =>
  cases a with
  | c x => cases x with
   | fn g ids =>
    cases ids with
    | nil => dsimp only; rw [yQz]
    | cons _ _ => exact absurd hb (by simp [yQ])
   | _ => rfl
  | _ => rfl
theorem vDk {s : AS} {a : zD} {cs : List zG} (hb : yQ a = false) (e : s.get h a = some cs) : ∀ id ∈ cs.flatMap yU, id ∈ yK a := by
 unfold AS.get at e
 split at e
 ·cases e; intro id hid; simp only [List.flatMap_cons, List.flatMap_nil, List.append_nil] at hid; exact hid
 ·obtain ⟨_, e⟩ := yX e
  cases e; exact fun id hid => hid
 ·exact absurd hb (by simp [yQ])
 ·rename_i f caps g ids
  obtain ⟨_, e⟩ := yX e
  cases ids with
  | nil => cases caps with
   | nil => cases e; intro id hid; simp at hid
   | cons _ _ => cases e
  | cons _ _ => exact absurd hb (by simp [yQ])
 ·cases e
theorem qUc : ∀ {l : List AS} {as : List zD}, as.any yQ = false → zEb h l as = zEb h' l as
 | [], [], _ => rfl
 | [], _ :: _, _ => rfl
 | _ :: _, [], _ => rfl
 | s :: l, a :: as, hb => by
  simp only [List.any_cons, Bool.or_eq_false_iff] at hb
  unfold zEb
  rw [yR4 (h := h) (h' := h') hb.1, qUc hb.2]
theorem qZ1 : ∀ {l : List AS} {as : List zD} {cs : List zG}, as.any yQ = false → zEb h l as = some cs → ∀ id ∈ cs.flatMap yU, id ∈ as.flatMap yK
 | [], [], cs, _, e => by cases e; intro id hid; simp at hid
 | [], _ :: _, _, _, e => by cases e
 | _ :: _, [], _, _, e => by cases e
 | s :: l, a :: as, cs, hb, e => by
  simp only [List.any_cons, Bool.or_eq_false_iff] at hb
  unfold zEb at e
  split at e
  ·rename_i c1 rest e1 e2
   cases e
   intro id hid
   rw [List.flatMap_append, List.mem_append] at hid
   rw [List.flatMap_cons, List.mem_append]
   rcases hid with hid | hid
   ·exact .inl (vDk hb.1 e1 id hid)
   ·exact .inr (qZ1 hb.2 e2 id hid)
  ·cases e
theorem yWo {l : List AS} {as : List zD} (hb : as.any yQ = false) (hh : ∀ id ∈ as.flatMap yK, h id = h' id) : inA h l as = inA h' l as := by
 unfold inA
 rw [qUc (h := h) (h' := h') hb]
 cases e : zEb h' l as with
 | none => rfl
 | some cs => exact yNr fun id hid => hh id (qZ1 hb e id hid)
theorem zMa {x : zG} : [x].flatMap yU = yK (.c x) := by simp [yK]
theorem qLg {c c' : zG} {u : zX} (e : zC1 h c = some (c', u)) : (∀ id ∈ yU c', id ∈ yU c) ∧ (yQ (.c c') = true → yQ (.c c) = true) := by
 cases c with
 | osl id r =>
  unfold zC1 at e
  dsimp only at e
  split at e
  ·cases e; exact ⟨fun id hid => (by cases hid), fun hb => (by cases hb)⟩
  ·cases r with
   | none => cases e; exact ⟨fun id hid => (by cases hid), fun hb => (by cases hb)⟩
   | some _ => cases e
  ·cases e
 | mrow _ _ _ => cases e
 | _ => cases e; exact ⟨fun _ h => h, fun h => h⟩
theorem zMu : ∀ {l : List Bool} {cs : List zG}, (∀ id ∈ cs.flatMap yU, h id = h' id) → jO h l cs = jO h' l cs
 | [], cs, _ => by cases cs <;> rfl
 | true :: l, [], _ => rfl
 | false :: l, [], _ => rfl
 | true :: l, c :: cs, hh => by
  simp only [List.flatMap_cons, List.mem_append] at hh
  unfold jO
  rw [yEp fun id hi => hh id (.inl hi), zMu fun id hi => hh id (.inr hi)]
 | false :: l, c :: cs, hh => by
  simp only [List.flatMap_cons, List.mem_append] at hh
  unfold jO
  rw [zMu fun id hi => hh id (.inr hi)]
theorem zKp : ∀ {l : List Bool} {cs cs' : List zG} {u : zX}, jO h l cs = some (cs', u) → ∀ id ∈ cs'.flatMap yU, id ∈ cs.flatMap yU
 | [], cs, cs', u, e => by cases cs <;> cases e <;> exact fun _ h => h
 | true :: l, [], cs', u, e => by cases e; exact fun _ h => h
 | false :: l, [], cs', u, e => by cases e; exact fun _ h => h
 | true :: l, c :: cs, cs', u, e => by
  unfold jO at e
  split at e
  ·rename_i c1 u1 cs1 us1 e1 e2
   cases e
   intro id hid
   rw [List.flatMap_cons, List.mem_append] at hid ⊢
   exact hid.imp ((qLg e1).1 id) (zKp e2 id)
  ·cases e
 | false :: l, c :: cs, cs', u, e => by
  unfold jO at e
  split at e
  ·rename_i cs1 us1 e2
   cases e
   intro id hid
   rw [List.flatMap_cons, List.mem_append] at hid ⊢
   exact hid.imp (fun h => h) (zKp e2 id)
  ·cases e
theorem yS8 {s : AS} {a : zD} (hh : ∀ id ∈ yK a, h id = h' id) : zGm h s a = zGm h' s a := by
 unfold zGm
 cases s with
 | c p => cases a with
  | c x =>
   have := zMu (h := h) (h' := h') (l := [p.isKept]) (cs := [x]) (by rw [zMa]; exact hh)
   simp only [this]
  | _ => rfl
 | agg l => cases a with
  | agg xs =>
   have := zMu (h := h) (h' := h') (l := l.map PC.isKept) (cs := xs) hh
   simp only [this]
  | _ => rfl
 | _ => rfl
theorem vEh {s : AS} {a a' : zD} {u : zX} (e : zGm h s a = some (a', u)) : (∀ id ∈ yK a', id ∈ yK a) ∧ (yQ a = false → yQ a' = false) := by
 unfold zGm at e
 split at e
 ·rename_i p x
  split at e
  ·rename_i y u1 e1
   cases e
   refine ⟨fun id hid => by have := zKp e1 id (by rw [zMa]; exact hid); rwa [zMa] at this, fun hb => ?_⟩
   cases hk : p.isKept with
   | false => rw [hk] at e1; cases e1; exact hb
   | true =>
    rw [hk] at e1
    unfold jO at e1
    split at e1
    ·rename_i c1 u2 cs1 us1 e2 e3
     cases e3
     cases e1
     cases hy : yQ (.c y) with
     | false => rfl
     | true => rw [(qLg e2).2 hy] at hb; cases hb
    ·cases e1
  ·cases e
 ·rename_i l xs
  split at e
  ·rename_i ys u1 e1
   cases e
   exact ⟨zKp e1, fun _ => rfl⟩
  ·cases e
 ·cases e; exact ⟨fun _ h => h, fun h => h⟩
theorem yHe : ∀ {l : List AS} {as : List zD}, (∀ id ∈ as.flatMap yK, h id = h' id) → zEn h l as = zEn h' l as
 | [], as, _ => by cases as <;> rfl
 | _ :: _, [], _ => rfl
 | s :: l, a :: as, hh => by
  simp only [List.flatMap_cons, List.mem_append] at hh
  unfold zEn
  rw [yS8 fun id hi => hh id (.inl hi), yHe fun id hi => hh id (.inr hi)]
theorem yGf : ∀ {l : List AS} {as as' : List zD} {u : zX}, zEn h l as = some (as', u) → (∀ id ∈ as'.flatMap yK, id ∈ as.flatMap yK) ∧ (as.any yQ = false → as'.any yQ = false)
 | [], as, as', u, e => by cases as <;> cases e <;> exact ⟨fun _ h => h, fun h => h⟩
 | s :: l, [], as', u, e => by cases e; exact ⟨fun _ h => h, fun h => h⟩
 | s :: l, a :: as, as', u, e => by
  unfold zEn at e
  split at e
  ·rename_i a1 u1 as1 us1 e1 e2
   cases e
   obtain ⟨k1, k2⟩ := vEh e1
   obtain ⟨k3, k4⟩ := yGf e2
   refine ⟨fun id hid => ?_, fun hb => ?_⟩
   ·rw [List.flatMap_cons, List.mem_append] at hid ⊢
    exact hid.imp (k1 id) (k3 id)
   ·simp only [List.any_cons, Bool.or_eq_false_iff] at hb ⊢
    exact ⟨k2 hb.1, k4 hb.2⟩
  ·cases e
theorem qIt : ∀ {n nm : Nat}, (∀ i, i < n → h (nm + i) = h' (nm + i)) → zGt h nm n = zGt h' nm n
 | 0, _, _ => rfl
 | n + 1, nm, hh => by
  unfold zGt
  have := hh 0 (by omega)
  rw [Nat.add_zero] at this
  rw [this, qIt fun i hi => by have := hh (i + 1) (by omega); rw [show nm + (i + 1) = nm + 1 + i by omega] at this; exact this]
end
theorem qQv {as : List AS} {rs : RS} {X : Type} {S : Nat → AD as → Option X} {pack : X → RL rs.cells} : zP6 fun k nm args h => zC2 as rs (S k) pack nm args h := by
 intro k nm args h h' h1 h2
 cases hb : args.any yQ with
 | true => rw [h2 hb]
 | false =>
  have hh := h1 hb
  show zC2 as rs (S k) pack nm args h = zC2 as rs (S k) pack nm args h'
  unfold zC2
  rw [yHe (h := h) (h' := h') fun id hid => hh id (.inl hid)]
  cases e : zEn h' as args with
  | none => rfl
  | some p =>
   obtain ⟨args', u⟩ := p
   obtain ⟨k1, k2⟩ := yGf e
   dsimp only
   rw [yWo (h := qE h u) (h' := qE h' u) (k2 hb) fun id hid => zIn (hh id (.inl (k1 id hid)))]
   cases inA (qE h' u) as args' with
   | none => rfl
   | some d =>
    dsimp only
    cases hle : Nat.ble rs.cells.length 100 with
    | false => simp
    | true =>
     have hle := Nat.le_of_ble_eq_true hle
     rw [qIt (h := h) (h' := h') fun i hi => hh _ (.inr (by
      simp only [zCj, Bool.and_eq_true]
      exact ⟨Nat.ble_eq_true_of_le (by omega), by simp [Nat.blt_eq]; omega⟩))]
def zCg : Code → List Code
 | .seq a b => zCg a ++ zCg b
 | .cond _ a b => zCg a ++ zCg b
 | .block _ b => zCg b
 | .loop b => [b]
 | _ => []
def qC (c : Code) (i : Nat) : Code := match (zCg c)[i]? with
 | some b => b
 | none => .skip
def qD (fn : Func) : Code := match fn.body with
 | some c => c
 | none => .skip
def qUe (P : Program) (A : zZ) (pre na nt : Nat) (b : Code) : Prop := (∃ L, zG0 A b = some L ∧ qF P pre na nt b L) ∨ (zG0 A b = none ∧ vM P A pre na nt b)
theorem vEu {P : Program} {A : zZ} {pre na nt : Nat} : ∀ (c : Code), (∀ b ∈ zCg c, qUe P A pre na nt b) → vM P A pre na nt c := by
 intro c
 induction c with
 | seq a b iha ihb => exact fun h => ⟨iha fun x hx => h x (List.mem_append_left _ hx), ihb fun x hx => h x (List.mem_append_right _ hx)⟩
 | cond t a b iha ihb => exact fun h => ⟨iha fun x hx => h x (List.mem_append_left _ hx), ihb fun x hx => h x (List.mem_append_right _ hx)⟩
 | block id b ih => exact fun h => ih h
 | loop b ih =>
  intro h
  rcases h b (List.mem_cons_self ..) with ⟨L, h1, h2⟩ | ⟨h1, h2⟩
  ·refine ⟨fun L' h3 => ?_, fun h3 => ?_⟩
   ·rw [h1] at h3; cases h3; exact h2
   ·rw [h1] at h3; cases h3
  ·refine ⟨fun L' h3 => ?_, fun _ => h2⟩
   rw [h1] at h3; cases h3
 | _ => exact fun _ => trivial
theorem zLb {P : Program} {A : zZ} {pre na nt : Nat} {c : Code} {n : Nat} (hn : (zCg c).length = n) (h : ∀ i, i < n → qUe P A pre na nt (qC c i)) : vM P A pre na nt c :=
 vEu c fun b hb => by
  obtain ⟨i, hi, rfl⟩ := List.getElem_of_mem hb
  have e : qC c i = (zCg c)[i] := by
   unfold qC
   rw [List.getElem?_eq_getElem hi]
  have := h i (by omega)
  rwa [e] at this
theorem zF6 {P : Program} {A : zZ} {pre na nt : Nat} {c : Code} {n : Nat} (hn : (zCg c).length = n) (h : ∀ i, i < n → ∃ L, zG0 A (qC c i) = some L ∧ qF P pre na nt (qC c i) L) : vM P A pre na nt c :=
 zLb hn fun i hi => .inl (h i hi)
theorem vEi {P : Program} {A : zZ} {pre na nt : Nat} {c : Code} (hn : (zCg c).length = 0) : vM P A pre na nt c := zF6 hn fun i hi => absurd hi (Nat.not_lt_zero i)
theorem body_loops {P : Program} {A : zZ} {pre na : Nat} {fn : Func} (h : vM P A pre na fn.ntmps (qD fn)) : ∀ c, fn.body = some c → vM P A pre na fn.ntmps c := fun c hc => by
 unfold qD at h
 rw [hc] at h
 exact h
theorem zOd {P : Program} {f : FuncId} {fn : Func} (hf : P.funcs[f]? = some fn) (hb : fn.body.isNone = false) (hn : (fn.name == "runtime.NumGoroutine") = false) : ∀ vs w, (callFunc f vs).run P w = .ok (.enter f vs) w := fun vs w => by
 have h1 : (program).run P w = .ok P w := rfl
 unfold callFunc
 simp only [Sem.run_bind, h1, Result.andThen_ok, hf, hn, hb, Bool.false_eq_true, if_false, Sem.run_pure]
abbrev zC (x : Int) : Int := IntKind.wrap .i64 x
abbrev zAm (k : IntKind) (x y : Int) : Int := zIk (fun _ a b => a &&& b) k x y
abbrev bor (k : IntKind) (x y : Int) : Int := zIk (fun _ a b => a ||| b) k x y
abbrev shl (k : IntKind) (x y : Int) : Int := k.wrap (x * 2 ^ (min y.toNat k.bits))
abbrev shr (k : IntKind) (x y : Int) : Int := x.fdiv (2 ^ (min y.toNat k.bits))
abbrev zY (n b : Nat) : Bool := Nat.ble (n * b) 140737488355328 && Nat.ble n 140737488355328
abbrev zHb (l c : Int) (b : Nat) : Bool := decide (0 ≤ l) && decide (l ≤ c) && decide (c * (b : Int) ≤ 140737488355328) && decide (c ≤ 140737488355328)
abbrev vZ (lt : Bool) (x y : Int) : Int := bif lt then (bif decide (y < x) then y else x) else (bif decide (y > x) then y else x)
abbrev qOy (xs : List (List Int)) (n : Nat) : Option (List (List Int)) :=
 zB4 (.c .mat) (fun d => d.1) (.c (.osl 0 none)) ⟨fun _ => .undef, fun _ => some (.pmat 0 xs n)⟩
theorem vEf (xs : List (List Int)) (n : Nat) : qOy xs n = bif Nat.beq xs.length n then some xs else none := by
 unfold qOy zB4 zPa RS.get RS.cells
 dsimp only [List.map, RC.isFro, jO, vI, zFi, qE]
 cases h : Nat.beq xs.length n <;> simp [zBb, zDx, h]
theorem yXe {P : Program} : zSz P (fun _ => false) := fun t h => by cases h
open Go.ChangeShapes Go.WideShapes Go.ChangeAt Go.RowKit
def zOi (f : TypeId → Option Ty) : Nat → List (Nat × TypeId) → Option Ty
 | _, [] => none
 | off, [x] => bif Nat.beq x.1 off then f x.2 else none
 | off, x :: y :: l => bif Nat.beq x.1 off then (match f x.2 with
  | some a => (match zOi f (off + a.size) (y :: l) with | some b => some (.pair a b) | none => none)
  | none => none) else none
def zHf (P : Program) : TypeDesc → List (Nat × TypeId)
 | .struct fs => fs.toList.map fun f => (f.offset, f.type)
 | .array n e => (List.range n).map fun i => (i * P.cellsOf e, e)
 | _ => []
def zC4 (P : Program) : Nat → TypeId → Option Ty
 | 0, _ => none
 | d + 1, t => match P.underlying t with
  | some (.int k) => bif Nat.beq (P.cellsOf t) 1 then some (.int k) else none
  | some .bool => bif Nat.beq (P.cellsOf t) 1 then some .bool else none
  | some (.slice e) => bif Nat.beq (P.cellsOf t) 1 then (match zC4 P d e with | some a => some (.sl a) | none => none) else none
  | some x => match zOi (zC4 P d) 0 (zHf P x) with
   | some a => bif Nat.beq (P.cellsOf t) a.size then some a else none
   | none => none
  | none => none
def Wf : (t : Ty) → t.den → Prop
 | .int k, n => (Lit.int k n).wf = true
 | .bool, _ => True
 | .sl t, xs => xs.length ≤ maxLen ∧ ∀ i (h : i < xs.length), Wf t xs[i]
 | .pair a b, p => Wf a p.1 ∧ Wf b p.2
theorem qKh {P : Program} : ∀ {d : Nat} {t : TypeId} {ty : Ty}, zC4 P d t = some ty → P.cellsOf t = ty.size
 | 0, _, _, h => by cases h
 | d + 1, t, ty, h => by
  unfold zC4 at h
  split at h
  ·obtain ⟨h1, h2⟩ := yX h; cases h2; exact Nat.eq_of_beq_eq_true h1
  ·obtain ⟨h1, h2⟩ := yX h; cases h2; exact Nat.eq_of_beq_eq_true h1
  ·obtain ⟨h1, h2⟩ := yX h
   split at h2
   ·cases h2; exact Nat.eq_of_beq_eq_true h1
   ·cases h2
  ·split at h
   ·obtain ⟨h1, h2⟩ := yX h; cases h2; simpa using h1
   ·cases h
  ·cases h
section
variable {H : Type} {enc : TypeId × Value → H} {P : Program} {w : World}
abbrev zR0 (w : World) : Nat → Prop := fun b => b < w.heap.size
theorem vD1 {a : Addr} {n : Nat} {cs : List Value} (h : w.cells? 0 a n = some cs) : cs.length = n ∧ ∀ i, i < n → ∃ v, cs[i]? = some v ∧ w.cell? (a.add i) = some v := by
 unfold World.cells? at h
 rw [if_pos (Nat.zero_le _)] at h
 have hl := mapM_some_length h
 have hg := mapM_some_get h
 simp at hl
 refine ⟨hl, fun i hi => ?_⟩
 have := hg i i (by simp [hi])
 have hlt : i < cs.length := by omega
 rw [List.getElem?_eq_getElem hlt] at this
 exact ⟨cs[i], List.getElem?_eq_getElem hlt, this⟩
theorem yEx {a : Addr} {v : Value} (h : w.cell? a = some v) : a.spot = none ∧ a.block < w.heap.size ∧ qW w.heap a.block a.off = some v := by
 unfold World.cell? at h
 cases hb : w.heap[a.block]? with
 | none => rw [hb] at h; cases h
 | some o =>
  rw [hb] at h
  cases o with
  | cells c e z =>
   dsimp only at h
   split at h
   ·cases h
   ·rename_i hs
    refine ⟨by simpa using hs, ?_, ?_⟩
    ·exact (Array.getElem?_eq_some_iff.1 hb).1
    ·unfold qW; rw [hb]; exact h
  | _ => cases h
theorem yEj {α : Type} {p : Nat → α → Prop} : ∀ (n : Nat), (∀ i, i < n → ∃ x, p i x) → ∃ xs : List α, xs.length = n ∧ ∀ i (h : i < xs.length), p i xs[i]
 | 0, _ => ⟨[], rfl, fun i h => absurd h (Nat.not_lt_zero i)⟩
 | n + 1, h => by
  obtain ⟨xs, h1, h2⟩ := yEj n fun i hi => h i (by omega)
  obtain ⟨x, hx⟩ := h n (by omega)
  refine ⟨xs ++ [x], by simp [h1], fun i hi => ?_⟩
  by_cases hin : i < xs.length
  ·rw [List.getElem_append_left hin]; exact h2 i hin
  ·have : i = n := by simp at hi; omega
   subst this
   rw [List.getElem_append_right (by omega)]
   simp [h1]
   exact hx
def zUm (P : Program) (w : World) (ty : Ty) (cs : List Value) : Prop := ∃ x : ty.den, cs.length = ty.size ∧ zW w.heap (zR0 w) ty x (fun j => cs[j]?) ∧ Wf ty x
theorem yDe {d : Nat} {fuel : Nat} (ih : ∀ (t : TypeId) (ty : Ty) (cs : List Value) (x : DataW H × List MemPlace), zC4 P d t = some ty → DataW.trod enc P w 0 (fun _ => true) true fuel t cs = some x → zUm P w ty cs) :
  ∀ (l : List (Nat × TypeId)) (off : Nat) (ty : Ty) (cs : List Value) (out : List (DataW H × List MemPlace)), zOi (zC4 P d) off l = some ty → off + ty.size ≤ cs.length →
   (l.mapM fun p => DataW.trod enc P w 0 (fun _ => true) true fuel p.2 ((cs.drop p.1).take (P.cellsOf p.2))) = some out → zUm P w ty ((cs.drop off).take ty.size)
 | [], off, ty, cs, out, h, _, _ => by cases h
 | [x], off, ty, cs, out, h, hc, hm => by
  obtain ⟨h1, h2⟩ := yX h
  have ho : x.1 = off := by simpa using h1
  simp only [List.mapM_cons, List.mapM_nil, Option.pure_def, Option.bind_eq_bind, Option.bind_eq_some_iff] at hm
  obtain ⟨y, hy, _⟩ := hm
  rw [ho, qKh h2] at hy
  exact ih _ _ _ _ h2 hy
 | x :: y :: l, off, ty, cs, out, h, hc, hm => by
  obtain ⟨h1, h2⟩ := yX h
  have ho : x.1 = off := by simpa using h1
  split at h2
  ·rename_i a ha
   split at h2
   ·rename_i b hb
    cases h2
    simp only [Ty.size] at hc ⊢
    rw [List.mapM_cons] at hm
    simp only [Option.pure_def, Option.bind_eq_bind, Option.bind_eq_some_iff] at hm
    obtain ⟨z, hz, zs, hzs, _⟩ := hm
    rw [ho, qKh ha] at hz
    obtain ⟨p, p1, p2, p3⟩ := ih _ _ _ _ ha hz
    obtain ⟨q, q1, q2, q3⟩ := yDe ih (y :: l) (off + a.size) b cs zs hb (by omega) hzs
    refine ⟨(p, q), by simp only [List.length_take, List.length_drop, Ty.size]; omega, ⟨?_, ?_⟩, p3, q3⟩
    ·refine yL (fun _ h => h) (fun _ _ => rfl) a p _ _ (fun j hj => ?_) p2
     simp only [List.getElem?_take, List.getElem?_drop]
     rw [if_pos (by omega), if_pos hj]
    ·refine yL (fun _ h => h) (fun _ _ => rfl) b q _ _ (fun j hj => ?_) q2
     simp only [List.getElem?_take, List.getElem?_drop]
     rw [if_pos (by omega), if_pos hj]
     congr 1; omega
   ·cases h2
  ·cases h2
theorem qN1 : ∀ (d : Nat) (t : TypeId) (ty : Ty) (fuel : Nat) (cs : List Value) (x : DataW H × List MemPlace), zC4 P d t = some ty → DataW.trod enc P w 0 (fun _ => true) true fuel t cs = some x → zUm P w ty cs
 | 0, _, _, _, _, _, h, _ => by cases h
 | d + 1, t, ty, 0, cs, x, _, h => by simp [DataW.trod] at h
 | d + 1, t, ty, fuel + 1, cs, x, hl, h => by
  unfold zC4 at hl
  split at hl
  ·rename_i k hu
   obtain ⟨_, hl⟩ := yX hl
   cases hl
   obtain ⟨n, rfl, _, hw⟩ := DataW.trod_int hu h
   exact ⟨n, rfl, rfl, hw⟩
  ·rename_i hu
   obtain ⟨_, hl⟩ := yX hl
   cases hl
   obtain ⟨b, rfl, _⟩ := DataW.trod_bool hu h
   exact ⟨b, rfl, rfl, trivial⟩
  ·rename_i e hu
   obtain ⟨_, hl⟩ := yX hl
   split at hl
   ·rename_i a ha
    cases hl
    rcases DataW.trod_slice hu h with ⟨rfl, _⟩ | ⟨ad, len, cap, elems, rest, n, hn, rfl, _, _, hlc, hm, hel, hg, _, _⟩
    ·refine ⟨([] : List a.den), rfl, ?_, ?_⟩
     ·simp only [zW]
      exact ⟨none, 0, 0, rfl, rfl, Nat.le_refl _, .inl ⟨trivial, fun _ => rfl⟩⟩
     ·simp only [Wf]
      exact ⟨Nat.zero_le _, fun i hi => absurd hi (Nat.not_lt_zero i)⟩
    ·have key : ∀ i, i < len → ∃ x : a.den, (zW w.heap (zR0 w) a x (fun j => qW w.heap ad.block (ad.off + i * a.size + j)) ∧ (i = 0 → ad.spot = none) ∧ ad.block < w.heap.size) ∧ Wf a x := by
      intro i hi
      have h1 := hg i hi
      have hil : i < elems.length := by omega
      rw [List.getElem?_eq_getElem hil, Option.bind_eq_some_iff] at h1
      obtain ⟨cs, hcs, htr⟩ := h1
      rw [qKh ha] at hcs
      obtain ⟨y, y1, y2, y3⟩ := qN1 d e a n cs _ ha htr
      obtain ⟨c1, c2⟩ := vD1 hcs
      have addb : ∀ j, ((ad.add (i * a.size)).add j).block = ad.block ∧ ((ad.add (i * a.size)).add j).off = ad.off + i * a.size + j := by
       intro j
       unfold Addr.add
       constructor
       ·split <;> split <;> rfl
       ·split <;> split <;> simp_all
      have at0 : (i = 0 → ad.spot = none) ∧ ad.block < w.heap.size := by
       obtain ⟨v, _, hv⟩ := c2 0 a.size_pos
       have h1 := yEx hv
       refine ⟨fun h0 => ?_, by have := h1.2.1; rwa [(addb 0).1] at this⟩
       have h2 := h1.1
       subst h0
       simpa [Addr.add] using h2
      refine ⟨y, ⟨yL (fun _ h => h) (fun _ _ => rfl) a y _ _ (fun j hj => ?_) y2, at0⟩, y3⟩
      obtain ⟨v, v1, v2⟩ := c2 j hj
      rw [v1]
      have h1 := (yEx v2).2.2
      rwa [(addb j).1, (addb j).2] at h1
     obtain ⟨xs, x1, x2⟩ := yEj len key
     refine ⟨xs, rfl, ?_, ?_⟩
     ·simp only [zW]
      refine ⟨some ad, len, cap, rfl, x1.symm, hlc, ?_⟩
      by_cases h0 : xs = []
      ·exact .inl ⟨h0, fun h => by cases h⟩
      ·refine .inr ⟨ad.block, ad.off, ?_, ?_, fun i hi => (x2 i hi).1.1⟩
       ·have := (x2 0 (List.length_pos_iff.2 h0)).1.2.1 rfl
        cases ad
        simp at this
        rw [this]
       ·exact (x2 0 (List.length_pos_iff.2 h0)).1.2.2
     ·simp only [Wf]
      exact ⟨by omega, fun i hi => (x2 i hi).2⟩
   ·cases hl
  ·rename_i y n1 n2 n3 hu
   split at hl
   ·rename_i a ha
    obtain ⟨hsz, hl⟩ := yX hl
    cases hl
    have hsz : P.cellsOf t = ty.size := by simpa using hsz
    have fin : ∀ out, cs.length = P.cellsOf t → ((zHf P y).mapM fun p => DataW.trod enc P w 0 (fun _ => true) true fuel p.2 ((cs.drop p.1).take (P.cellsOf p.2))) = some out → zUm P w ty cs := by
     intro out hlen hmap
     have := yDe (fun t' ty' cs' x' h1 h2 => qN1 d t' ty' fuel cs' x' h1 h2) (zHf P y) 0 ty cs out ha (by omega) hmap
     rwa [List.drop_zero, List.take_of_length_le (by omega)] at this
    unfold DataW.trod at h
    rw [hu] at h
    cases y with
    | struct fs =>
     dsimp only at h
     split at h
     ·rename_i hlen
      rw [Option.map_eq_some_iff] at h
      obtain ⟨out, ho, _⟩ := h
      refine fin out hlen ?_
      simp only [zHf, List.mapM_map]
      exact ho
     ·cases h
    | array n e =>
     dsimp only at h
     split at h
     ·rename_i hlen
      rw [Option.map_eq_some_iff] at h
      obtain ⟨out, ho, _⟩ := h
      refine fin out hlen ?_
      simp only [zHf, List.mapM_map]
      exact ho
     ·cases h
    | _ => simp [zHf, zOi] at ha
   ·cases hl
  ·cases hl
end
open Go.ChangeShapes Go.WideShapes Go.ChangeAt Go.RowKit
def zFj (sh : Bool) : Ty → List PC
 | .int k => [.int k]
 | .bool => [.bool]
 | .sl t => [.dat sh t]
 | .pair a b => zFj sh a ++ zFj sh b
def zGn : (l m : List PC) → PL l → PL m → PL (l ++ m)
 | [], _, _, e => e
 | _ :: l, m, d, e => (d.1, zGn l m d.2 e)
theorem qC9 : ∀ (l m : List PC) (d : PL l) (e : PL m), vH (l ++ m) (zGn l m d e) = vH l d ++ vH m e
 | [], _, _, _ => rfl
 | p :: l, m, d, e => by
  show zNv p d.1 :: vH (l ++ m) (zGn l m d.2 e) = zNv p d.1 :: (vH l d.2 ++ vH m e)
  rw [qC9 l m d.2 e]
def zD8 (sh : Bool) : (t : Ty) → t.den → PL (zFj sh t)
 | .int _, n => (n, ())
 | .bool, b => (b, ())
 | .sl _, xs => (xs, ())
 | .pair a b, p => zGn _ _ (zD8 sh a p.1) (zD8 sh b p.2)
def WfP : (p : PC) → p.den → Prop
 | .int k, n => (Lit.int k n).wf = true
 | .bool, _ => True
 | .dat _ t, xs => Wf (.sl t) xs
 | .fn _, _ => True
 | .nil, _ => True
 | .nilp, _ => True
def WfL : (l : List PC) → PL l → Prop
 | [], _ => True
 | p :: l, d => WfP p d.1 ∧ WfL l d.2
theorem qCb : ∀ (l m : List PC) (d : PL l) (e : PL m), WfL l d → WfL m e → WfL (l ++ m) (zGn l m d e)
 | [], _, _, _, _, h => h
 | _ :: l, m, d, e, h, h' => ⟨h.1, qCb l m d.2 e h.2 h'⟩
theorem qJ7 (sh : Bool) : ∀ (t : Ty) (x : t.den), Wf t x → WfL (zFj sh t) (zD8 sh t x)
 | .int _, _, h => ⟨h, trivial⟩
 | .bool, _, h => ⟨h, trivial⟩
 | .sl _, _, h => ⟨h, trivial⟩
 | .pair a b, p, h => qCb _ _ _ _ (qJ7 sh a p.1 h.1) (qJ7 sh b p.2 h.2)
theorem zOc : ∀ (l : List PC) (d : PL l), (vH l d).length = l.length
 | [], _ => rfl
 | p :: l, d => by
  show (vH l d.2).length + 1 = l.length + 1
  rw [zOc l d.2]
def M0 (w : World) : zA := ⟨fun _ => none, zR0 w, zR0 w, zBo [], w.heap⟩
theorem vD5 (w : World) : Ok (M0 w) where
 obj := fun id o h => by cases h
 non := fun _ _ => rfl
 disj := fun i j oi oj Ci Cj b _ h => by cases h
 own := fun b h => by
  obtain ⟨id, o, C, h1, _⟩ := h
  cases h1
 GF := fun _ h => h
 Flt := fun _ h => h
theorem qLs (sh : Bool) {w : World} : ∀ (t : Ty) (x : t.den) (cs : List Value), cs.length = t.size → zW w.heap (zR0 w) t x (fun j => cs[j]?) → zO (zV (M0 w)) (vH (zFj sh t) (zD8 sh t x)) cs
 | .int k, n, cs, hl, h => by
  match cs, hl with
  | [c], _ =>
   have e : c = .int k n := by simpa [zW] using h
   exact ⟨e, trivial⟩
 | .bool, b, cs, hl, h => by
  match cs, hl with
  | [c], _ =>
   have e : c = .bool b := by simpa [zW] using h
   exact ⟨e, trivial⟩
 | .sl t, xs, cs, hl, h => by
  match cs, hl with
  | [c], _ =>
   refine ⟨?_, trivial⟩
   have h' := yL (F' := (bif sh then (M0 w).G else (M0 w).F)) (fun b h => by cases sh <;> exact h) (fun b _ => rfl) (.sl t) xs (fun j => [c][j]?) (fun _ => some c) (fun j hj => by
    have : j = 0 := by simp [Ty.size] at hj; exact hj
    subst this; rfl) h
   exact h'
 | .pair a b, p, cs, hl, h => by
  have hl' : cs.length = a.size + b.size := hl
  have h1 := qLs sh a p.1 (cs.take a.size) (by rw [List.length_take]; omega) (yL (fun _ h => h) (fun _ _ => rfl) a p.1 _ _ (fun j hj => by
   rw [List.getElem?_take, if_pos hj]) h.1)
  have h2 := qLs sh b p.2 (cs.drop a.size) (by rw [List.length_drop]; omega) (yL (fun _ h => h) (fun _ _ => rfl) b p.2 _ _ (fun j hj => by
   rw [List.getElem?_drop]; congr 1; omega) h.2)
  show zO _ (vH (zFj sh a ++ zFj sh b) (zGn _ _ (zD8 sh a p.1) (zD8 sh b p.2))) cs
  rw [qC9]
  have := zO.append h1 h2
  rwa [List.take_append_drop] at this
def zEa (sh : Bool) (P : Program) (t : TypeId) (ty : Ty) : AS := bif zAn P t == some true then .agg (zFj sh ty) else (match ty with
 | .int k => .c (.int k) | .bool => .c .bool | .sl t => .c (.dat sh t) | .pair a b => .agg (zFj sh (.pair a b)))
def zS4 (P : Program) : List TypeId → Option (List Ty)
 | [] => some []
 | t :: ts => match zC4 P 8 t, zS4 P ts with
  | some a, some l => some (a :: l)
  | _, _ => none
def zFe (sh : Bool) (P : Program) : List TypeId → List Ty → List AS
 | t :: ts, a :: l => zEa sh P t a :: zFe sh P ts l
 | _, _ => []
theorem yQy {P : Program} {t : TypeId} {ty : Ty} (h : zC4 P 8 t = some ty) (ha : (zAn P t == some true) = false) : (∃ k, P.underlying t = some (.int k) ∧ ty = .int k) ∨ (P.underlying t = some .bool ∧ ty = .bool) ∨ ∃ e a, P.underlying t = some (.slice e) ∧ ty = .sl a := by
 unfold zC4 at h
 split at h
 ·rename_i k hu
  obtain ⟨_, h⟩ := yX h
  cases h
  exact .inl ⟨k, hu, rfl⟩
 ·rename_i hu
  obtain ⟨_, h⟩ := yX h
  cases h
  exact .inr (.inl ⟨hu, rfl⟩)
 ·rename_i e hu
  obtain ⟨_, h⟩ := yX h
  split at h
  ·cases h; exact .inr (.inr ⟨e, _, hu, rfl⟩)
  ·cases h
 ·rename_i x _ _ _ hu
  split at h
  ·rename_i a hx
   exfalso
   unfold zAn at ha
   rw [hu] at ha
   cases x <;> first | (simp [zHf, zOi] at hx; done) | (cases ha)
  ·cases h
 ·cases h
section
variable {H : Type} {enc : TypeId × Value → H} {P : Program} {w : World}
theorem yO9 (sh : Bool) {t : TypeId} {ty : Ty} {v : Value} {d : DataW H} {ps : List MemPlace} {base : Nat} (hl : zC4 P 8 t = some ty) (hok : Value.okWide P w .any base t v) (h : DataW.Trod enc P w 0 (fun _ => true) true t v d ps) :
  ∃ x : PL (zEa sh P t ty).cells, (∀ n, zT (M0 w) ((zEa sh P t ty).mk n (vH _ x)) v) ∧ (zEa sh P t ty).boxes (vH _ x) = [] ∧ WfL _ x := by
 obtain ⟨fuel, hf⟩ := h
 obtain ⟨x, x1, x2, x3⟩ := qN1 8 t ty fuel _ _ hl hf
 have hrep := qLs sh ty x _ x1 x2
 have hwf := qJ7 sh ty x x3
 unfold zEa
 cases ha : (zAn P t == some true) with
 | true =>
  simp only [cond_true]
  refine ⟨zD8 sh ty x, fun n => ?_, rfl, hwf⟩
  have ha' : zAn P t = some true := by simpa using ha
  have hv : ∃ cs, v = .agg cs := by
   unfold zAn at ha'
   unfold Value.okWide at hok
   split at ha' <;> first | (rename_i e; rw [e] at hok; obtain ⟨cs, h1, _⟩ := hok; exact ⟨cs, h1⟩) | (cases ha')
  obtain ⟨cs, rfl⟩ := hv
  exact ⟨cs, rfl, hrep⟩
 | false =>
  simp only [cond_false]
  rcases yQy hl ha with ⟨k, hu, rfl⟩ | ⟨hu, rfl⟩ | ⟨e, a, hu, rfl⟩
  ·have hv : ∃ n, v = .int k n := by
    simp only [Value.okWide, hu, Cell.okWide] at hok
    cases v <;> simp_all [Cell.ok]
   obtain ⟨n0, rfl⟩ := hv
   exact ⟨zD8 sh _ x, fun n => hrep.1, rfl, hwf⟩
  ·have hv : ∃ b, v = .bool b := by
    simp only [Value.okWide, hu, Cell.okWide] at hok
    cases v <;> simp_all [Cell.ok]
   obtain ⟨b, rfl⟩ := hv
   exact ⟨zD8 sh _ x, fun n => hrep.1, rfl, hwf⟩
  ·obtain ⟨ad, len, cap, rfl⟩ := okWide_slice hu hok
   exact ⟨zD8 sh _ x, fun n => hrep.1, rfl, hwf⟩
theorem yBv (sh : Bool) {base : Nat} : ∀ (ts : List TypeId) (tys : List Ty) (vs : List Value) (ds : List (DataW H)) (ps : List MemPlace) (n : Nat), zS4 P ts = some tys → (∀ (j : Nat) (t : TypeId) (v : Value), ts[j]? = some t → vs[j]? = some v → Value.okWide P w .any base t v) →
  DataW.TrodAll enc P w 0 (fun _ => true) true ts vs ds ps → ∃ x : AD (zFe sh P ts tys), zO (zT (M0 w)) (zBp (zFe sh P ts tys) (vH _ x) n).1 vs ∧ (zBp (zFe sh P ts tys) (vH _ x) n).2 = [] ∧ WfL _ x
 | [], tys, vs, ds, ps, n, hl, hok, h => by
  cases hl
  match vs, ds, h with
  | [], [], _ => exact ⟨(), trivial, rfl, trivial⟩
  | _ :: _, [], h => exact False.elim h
  | _ :: _, _ :: _, h => exact False.elim h
  | [], _ :: _, h => exact False.elim h
 | t :: ts, tys, vs, ds, ps, n, hl, hok, h => by
  unfold zS4 at hl
  split at hl
  ·rename_i a l ha hl'
   cases hl
   match vs, ds, h with
   | [], [], h => exact False.elim h
   | [], _ :: _, h => exact False.elim h
   | _ :: _, [], h => exact False.elim h
   | v :: vs, d :: ds, h =>
    obtain ⟨p, q, h1, h2, _⟩ := h
    obtain ⟨x, x1, x2, x3⟩ := yO9 sh ha (hok 0 t v rfl rfl) h1
    obtain ⟨y, y1, y2, y3⟩ := yBv sh ts l vs ds q n hl' (fun j t' v' h1 h2 => hok (j + 1) t' v' h1 h2) h2
    refine ⟨zGn _ _ x y, ?_⟩
    have e : vH ((zFe sh P (t :: ts) (a :: l)).flatMap AS.cells) (zGn _ _ x y) = vH _ x ++ vH _ y := qC9 _ _ _ _
    have ht : (vH _ x ++ vH _ y).take (zEa sh P t a).cells.length = vH _ x := by
     rw [List.take_append_of_le_length (by rw [zOc]; exact Nat.le_refl _), List.take_of_length_le (by rw [zOc]; exact Nat.le_refl _)]
    have hd : (vH _ x ++ vH _ y).drop (zEa sh P t a).cells.length = vH _ y := by
     rw [List.drop_append_of_le_length (by rw [zOc]; exact Nat.le_refl _), List.drop_of_length_le (by rw [zOc]; exact Nat.le_refl _), List.nil_append]
    rw [e]
    have em : zBp (zFe sh P (t :: ts) (a :: l)) (vH _ x ++ vH _ y) n = ((zEa sh P t a).mk n (vH _ x) :: (zBp (zFe sh P ts l) (vH _ y) n).1, (zBp (zFe sh P ts l) (vH _ y) n).2) := by
     show ((zEa sh P t a).mk n _ :: _, (zEa sh P t a).boxes _ ++ _) = _
     rw [ht, hd, x2]
     rfl
    rw [em]
    exact ⟨⟨x1 n, y1⟩, y2, qCb _ _ _ _ x3 y3⟩
  ·cases hl
theorem lawArgs (sh : Bool) {base : Nat} {ts : List TypeId} {tys : List Ty} {asp : List AS} {vs : List Value} {ds : List (DataW H)} {ps : List MemPlace} (hl : zS4 P ts = some tys) (has : zFe sh P ts tys = asp)
  (hok : ∀ (j : Nat) (t : TypeId) (v : Value), ts[j]? = some t → vs[j]? = some v → Value.okWide P w .any base t v) (h : DataW.TrodAll enc P w 0 (fun _ => true) true ts vs ds ps) :
  ∃ x : AD asp, zO (zT (M0 w)) (zBp asp (vH _ x) 0).1 vs ∧ (zBp asp (vH _ x) 0).2 = [] ∧ WfL _ x := by
 subst has
 exact yBv sh ts tys vs ds ps 0 hl hok h
theorem law_calls {E : qA} (hE : jI E) (hS : zAt E.sums) (hm : E.P.follows .mixedOrders = true) {A : zZ} {k pre : Nat} {f : FuncId} {fn : Func} (hf : E.P.funcs[f]? = some fn) (hL : ∀ c, fn.body = some c → vM E.P A pre 0 fn.ntmps c)
  {as : List AS} {d : AD as} {unpack : RL (RS.c .bool).cells → Bool} (hup : ∀ d, unpack d = d.1) (hev : evF E A k pre 0 fn (zDe as d).1 (zDe as d).2 (zB4 (.c .bool) unpack) = some true) (hb : (zBp as (vH _ d) 0).2 = []) {vs : Array Value} (hv : zO (zT (M0 w)) (zBp as (vH _ d) 0).1 vs.toList) :
  Calls E.P f vs w fun e w' => e = .returned (.bool true) ∧ Below w.heap.size w w' := by
 have hh : (M0 w).h = (zDe as d).2 := by
  show zBo [] = zBo (zBp as (vH _ d) 0).2
  rw [hb]
 refine Calls.mono (qLn hE hS hm hf hL hev (M := M0 w) (w := w) hh rfl (vD5 w) hv) fun e w' he => ?_
 cases e with
 | returned rv =>
  obtain ⟨M', v, st, hK, _, hH, _, hg, _, hrv, o1, o2, o3, _⟩ := he
  refine ⟨?_, o1, o2, o3, ?_, fun b hb => ?_⟩
  ·unfold zB4 at hK
   split at hK
   ·rename_i r hr
    have hKe : unpack r = true := by injection hK
    unfold zPa at hr
    split at hr
    ·rename_i cs hcs
     split at hr
     ·rename_i cs' u hfz
      obtain ⟨_, hr⟩ := yX hr
      cases v with
      | c x =>
       cases hcs
       have e1 : cs' = [x] := by
        simp only [RS.cells, List.map, RC.isFro, jO] at hfz
        cases hfz; rfl
       subst e1
       have hr' : zBb (qE st.h u) [.bool] [x] = some r := hr
       cases x with
       | bool b =>
        have e2 : r = (b, ()) := by simp only [zBb, zDx] at hr'; cases hr'; rfl
        have : rv = .bool b := hrv
        have hb : b = true := by have := (hup r).symm.trans hKe; rw [e2] at this; exact this
        rw [this, hb]
       | _ => simp [zBb, zDx] at hr'
      | _ => cases hcs
     ·cases hr
    ·cases hr
   ·cases hK
  ·have := hg.size
   rw [hH] at this
   exact this
  ·have := hg.same b hb
   rw [hH] at this
   exact this
 | _ => exact he.elim
end
inductive XC where
 | p (c : PC) | own (t : Ty) | mat | map
 | link (j : Nat)
abbrev XC.den : XC → Type
 | .p c => c.den | .own t => List t.den | .mat => List (List Int) | .map => List (Int × Bool) | .link _ => Unit
def XC.lnk : XC → Option Nat
 | .link j => some j
 | _ => none
def RC.lnk : RC → Option Nat
 | .link j => some j
 | _ => none
def zD5 : List (Option Nat) → List Nat → List zG → Bool
 | none :: l, ids, _ :: cs => zD5 l ids cs
 | some j :: l, ids, .ptr id 0 :: cs => (match ids[j]? with | some k => Nat.beq id k | none => false) && zD5 l ids cs
 | some _ :: _, _, _ => false
 | _, _, _ => true
def zGc : List (Option Nat) → List Nat → List zG → List zG
 | none :: l, ids, c :: cs => c :: zGc l ids cs
 | some j :: l, ids, c :: cs => (match ids[j]? with | some id => .ptr id 0 | none => c) :: zGc l ids cs
 | _, _, cs => cs
def qNq : List zG → Option Nat
 | [] => none
 | .ptr id 0 :: _ => some id
 | _ :: l => qNq l
def zOp (h : Hp) : Nat → Nat → Option (List Nat)
 | 0, _ => none
 | 1, id => some [id]
 | n + 2, id => match zK6 h id with
  | some cells => (match qNq cells with
   | some id2 => (match zOp h (n + 1) id2 with | some l => some (id :: l) | none => none)
   | none => none)
  | none => none
def zBq : Nat → Nat → List Nat
 | _, 0 => []
 | n, m + 1 => n :: zBq (n + 1) m
abbrev XL : List XC → Type
 | [] => Unit
 | c :: l => c.den × XL l
inductive AX where
 | c (x : XC) | agg (l : List PC) | ptr (io : Bool) (l : List XC) | fn (f : Nat) (caps : List (Bool × List XC))
 | chn (ls : List (List XC))
def AX.cells : AX → List XC
 | .c x => [x]
 | .agg l => l.map .p
 | .ptr _ l => l
 | .fn _ caps => caps.flatMap (·.2)
 | .chn ls => ls.flatten
def AX.nb : AX → Nat
 | .ptr _ _ => 1
 | .fn _ caps => caps.length
 | .chn ls => ls.length
 | _ => 0
def AX.isChn : AX → Bool
 | .chn _ => true
 | _ => false
def zLe (ls : List (List XC)) : List (Bool × List XC) := ls.map fun l => (true, l)
abbrev XD (l : List AX) : Type := XL (l.flatMap AX.cells)
def AX.looks : AX → Bool
 | .ptr _ _ => true
 | .fn _ _ => true
 | _ => false
def zE7 (l : List AX) (na : Nat) : Bool := l.zipIdx.all fun p => !p.1.looks || Nat.blt p.2 na
def zMm (h : Hp) (io : Bool) (id : Nat) : Option (List zG) := match io, h id with
 | true, some (.box true cells) => some cells
 | false, some (.box _ cells) => some cells
 | false, some (.robox cells) => some cells
 | _, _ => none
def zAy (h : Hp) : List (Bool × List XC) → List Nat → Option (List zG × List (Bool × Nat))
 | [], [] => some ([], [])
 | (io, l) :: ls, id :: ids => match zMm h io id, zAy h ls ids with
  | some cells, some (rest, bs) => bif Nat.beq cells.length l.length then some (cells ++ rest, (io, id) :: bs) else none
  | _, _ => none
 | _, _ => none
def AX.get (h : Hp) : AX → zD → Option (List zG × List (Bool × Nat))
 | .c _, .c x => some ([x], [])
 | .agg l, .agg xs => bif Nat.beq xs.length l.length then some (xs, []) else none
 | .ptr io l, .c (.ptr id 0) => zAy h [(io, l)] [id]
 | .fn f caps, .c (.fn g ids) => bif Nat.beq f g then zAy h caps ids else none
 | .chn ls, .c (.ptr id 0) => match zOp h ls.length id with
  | some ids => zAy h (zLe ls) ids
  | none => none
 | _, _ => none
def zA8 (h : Hp) : List AX → List zD → Option (List zG × List (Bool × Nat))
 | [], [] => some ([], [])
 | s :: l, a :: as => match s.get h a, zA8 h l as with
  | some (cs, bs), some (cs', bs') => some (cs ++ cs', bs ++ bs')
  | _, _ => none
 | _, _ => none
def inX (h : Hp) : (x : XC) → zG → Option x.den
 | .p p, c => inP h p c
 | .own t, .osl id none => match h id with
  | some (.arr true s xs) => zAe s t xs
  | _ => none
 | .mat, .osl id none => match h id with
  | some (.mat _ xs) => some xs
  | _ => none
 | .map, .map id => match h id with
  | some (.imap kvs) => some kvs
  | _ => none
 | .link _, .ptr _ 0 => some ()
 | _, _ => none
def zDv (h : Hp) : (l : List XC) → List zG → Option (XL l)
 | [], [] => some ()
 | x :: l, c :: cs => match inX h x c, zDv h l cs with
  | some d, some ds => some (d, ds)
  | _, _ => none
 | _, _ => none
def wB : List XC → List zG → List Nat
 | .p _ :: l, _ :: cs => wB l cs
 | .link _ :: l, _ :: cs => wB l cs
 | _ :: l, .osl id _ :: cs => id :: wB l cs
 | _ :: l, .map id :: cs => id :: wB l cs
 | _ :: l, _ :: cs => wB l cs
 | _, _ => []
def zR7 : List XC → List zG → List Nat
 | .p _ :: l, c :: cs => yU c ++ zR7 l cs
 | _ :: l, _ :: cs => zR7 l cs
 | _, _ => []
def vK : Nat := 500
def jW : (l : List XC) → XL l → Nat → List zG × List Obj
 | [], _, _ => ([], [])
 | .p p :: l, d, n => let r := jW l d.2 n; (zNv p d.1 :: r.1, r.2)
 | .own t :: l, d, n => let r := jW l d.2 (n + 1); (.osl n none :: r.1, .arr true t d.1 :: r.2)
 | .mat :: l, d, n => let r := jW l d.2 (n + 1); (.osl n none :: r.1, .mat 0 d.1 :: r.2)
 | .map :: l, d, n => let r := jW l d.2 (n + 1); (.map n :: r.1, .imap d.1 :: r.2)
 | .link j :: l, d, n => let r := jW l d.2 n; (.ptr j 0 :: r.1, r.2)
def zRm : List (Bool × List XC) → List zG → List Obj
 | [], _ => []
 | (io, l) :: ls, cs => (bif io then .box true (cs.take l.length) else .robox (cs.take l.length)) :: zRm ls (cs.drop l.length)
def AX.mk (n : Nat) (cs : List zG) : AX → zD
 | .c _ => match cs with | x :: _ => .c x | [] => .undef
 | .agg _ => .agg cs
 | .ptr _ _ => .c (.ptr n 0)
 | .fn f caps => .c (.fn f ((List.range caps.length).map (n + ·)))
 | .chn _ => .c (.ptr n 0)
def AX.boxes (cs : List zG) : AX → List Obj
 | .ptr io l => zRm [(io, l)] cs
 | .fn _ caps => zRm caps cs
 | .chn ls => zRm (zLe ls) cs
 | _ => []
def mkX : List AX → List zG → Nat → List zD × List Obj
 | [], _, _ => ([], [])
 | s :: l, cs, n =>
  let mine := cs.take s.cells.length
  let bs := s.boxes mine
  let rest := mkX l (cs.drop s.cells.length) (n + bs.length)
  (s.mk n mine :: rest.1, bs ++ rest.2)
def zP4 (bs rows : List Obj) : Hp := fun n => bif Nat.ble vK n then rows[n - vK]? else bs[n]?
def zA9 (l : List AX) (d : XD l) : List zD × Hp :=
 let r := jW (l.flatMap AX.cells) d vK
 let m := mkX l r.1 0
 (m.1, zP4 m.2 r.2)
def zOh : List (Bool × List XC) → List Nat → Option (List Nat)
 | [], [] => some []
 | (io, _) :: ls, id :: ids => match zOh ls ids with
  | some l => some (bif io then id :: l else l)
  | none => none
 | _, _ => none
def AX.io (b : Nat) : AX → zD → Option (List Nat)
 | .c _, _ => some []
 | .agg _, _ => some []
 | .ptr io l, .c (.ptr id 0) => zOh [(io, l)] [id]
 | .fn _ caps, .c (.fn _ ids) => zOh caps ids
 | .chn ls, _ => some (zBq b ls.length)
 | _, _ => none
def zWj : List AX → (Nat → zD) → Nat → Nat → Option (List Nat)
 | [], _, _, _ => some []
 | s :: l, t, n, b => match s.io b (t n), zWj l t (n + 1) (b + s.nb) with
  | some a, some b => some (a ++ b)
  | _, _ => none
def zLw (h : Hp) : List (List RC) → List Nat → Option (List zG)
 | [], [] => some []
 | o :: os, n :: ns => match h n, zLw h os ns with
  | some (.box true cells), some rest => bif Nat.beq cells.length o.length then some (cells ++ rest) else none
  | _, _ => none
 | _, _ => none
def qMm (h : Hp) (ns : Nat) (cs : List zG) : Option (List Nat) := bif Nat.beq ns 0 then some [] else match qNq cs with
 | some id => zOp h ns id
 | none => none
def zF7 (st : St) (as : List AX) (rs : RS) (os : List (List RC)) (ns : Nat) (v : zD) : Option (RL (rs.cells ++ os.flatten)) :=
 match zWj as st.t 0 0 with
 | none => none
 | some io => match rs.get v with
  | none => none
  | some cs => match qMm st.h ns cs with
   | none => none
   | some nw => match zLw st.h os (io ++ nw) with
    | none => none
    | some bs => bif zFi (io ++ nw) then (match jO st.h ((rs.cells ++ os.flatten).map RC.isFro) (cs ++ bs) with
     | some (cs, u) => bif zFi (vI (rs.cells ++ os.flatten) cs) && zD5 ((rs.cells ++ os.flatten).map RC.lnk) (io ++ nw) cs then zBb (qE st.h u) (rs.cells ++ os.flatten) cs else none
     | none => none) else none
def zPs (as : List AX) (rs : RS) (os : List (List RC)) (ns : Nat) {X : Type} (unpack : RL (rs.cells ++ os.flatten) → X) (v : zD) (st : St) : Option X := match zF7 st as rs os ns v with
 | some d => some (unpack d)
 | none => none
def zYe (as : List AX) (rs : RS) (os : List (List RC)) (ns : Nat) (rs2 : RS) (os2 : List (List RC)) (ns2 : Nat) {X Y : Type} (up : RL (rs.cells ++ os.flatten) → X) (up2 : RL (rs2.cells ++ os2.flatten) → Y) (v : zD) (st : St) : Option (X ⊕ Y) := match zF7 st as rs os ns v with
 | some d => some (.inl (up d))
 | none => match zF7 st as rs2 os2 ns2 v with
  | some d => some (.inr (up2 d))
  | none => none
def zF2 : List (List RC) → List zG → List (List zG)
 | [], _ => []
 | o :: os, cs => cs.take o.length :: zF2 os (cs.drop o.length)
def yV : List (Bool × Nat) → List Nat
 | [] => []
 | (true, id) :: l => id :: yV l
 | (false, _) :: l => yV l
def zUq : List (Bool × Nat) → List Nat
 | [] => []
 | (true, _) :: l => zUq l
 | (false, id) :: l => id :: zUq l
def zNd : List Nat → List (List zG) → zX
 | id :: ids, cs :: css => (id, .box true cs) :: zNd ids css
 | _, _ => []
def zC7 (ids : List Nat) : zX := ids.map fun id => (id, .gone)
def vHu (nm : Nat) (rs : RS) (os : List (List RC)) (ids : List Nat) (d : RL (rs.cells ++ os.flatten)) : zD × zX :=
 let r := zCz nm (rs.cells ++ os.flatten) d
 let cs := zGc ((rs.cells ++ os.flatten).map RC.lnk) ids r.1
 (rs.mk (cs.take rs.cells.length), r.2 ++ zNd ids (zF2 os (cs.drop rs.cells.length)))
def qCr (a b : List Nat) : Bool := a.all fun x => !b.any (Nat.beq x)
def zGk (h : Hp) : AX → zD → Option (zD × zX)
 | .c (.p p), .c x => match jO h [p.isKept] [x] with
  | some ([x], u) => some (.c x, u)
  | _ => none
 | .agg l, .agg xs => match jO h (l.map PC.isKept) xs with
  | some (xs, u) => some (.agg xs, u)
  | none => none
 | _, a => some (a, [])
def zEg (h : Hp) : List AX → List zD → Option (List zD × zX)
 | s :: l, a :: as => match zGk h s a, zEg h l as with
  | some (a, u), some (as, us) => some (a :: as, u ++ us)
  | _, _ => none
 | _, as => some (as, [])
def zIb (as : List AX) (nm n : Nat) (args : List zD) (h : Hp) : Option (zX × List Nat × List Nat × XD as) :=
 match zEg h as args with
 | none => none
 | some (args, u) => match zA8 (qE h u) as args with
  | none => none
  | some (cs, bs) => match zDv (qE h u) (as.flatMap AX.cells) cs with
   | none => none
   | some d =>
    let rows := wB (as.flatMap AX.cells) cs
    let mine := yV bs ++ rows
    bif zGt h nm n && Nat.ble n 100 && Nat.ble bs.length vK && zFi mine && qCr mine (zR7 (as.flatMap AX.cells) cs) && qCr mine (zUq bs) && zD5 ((as.flatMap AX.cells).map XC.lnk) (bs.map (·.2)) cs then
     some (u, yV bs, rows, d)
    else none
def zPu (u : zX) (io rows : List Nat) (rs : RS) (os : List (List RC)) (ns nm : Nat) (d : RL (rs.cells ++ os.flatten)) : zD × zX :=
 let r := vHu nm rs os (io ++ zBq (nm + (rs.cells ++ os.flatten).length) ns) d
 (r.1, u ++ (zC7 rows ++ r.2))
def zEj (as : List AX) (rs : RS) (os : List (List RC)) (ns : Nat) {X : Type} (S : XD as → Option X) (pack : X → RL (rs.cells ++ os.flatten)) (nm : Nat) (args : List zD) (h : Hp) : yA :=
 match zIb as nm ((rs.cells ++ os.flatten).length + ns) args h with
 | none => .stuck
 | some (u, io, rows, d) => .call X (S d) fun r => zPu u io rows rs os ns nm (pack r)
def zEz (as : List AX) (rs : RS) (os : List (List RC)) (ns : Nat) (rs2 : RS) (os2 : List (List RC)) (ns2 : Nat) {X Y : Type} (S : XD as → Option (X ⊕ Y)) (pk : X → RL (rs.cells ++ os.flatten)) (pk2 : Y → RL (rs2.cells ++ os2.flatten)) (nm : Nat) (args : List zD) (h : Hp) : yA :=
 match zIb as nm (((rs.cells ++ os.flatten).length + ns) + ((rs2.cells ++ os2.flatten).length + ns2)) args h with
 | none => .stuck
 | some (u, io, rows, d) => .call2 X Y (S d) (fun r => zPu u io rows rs os ns nm (pk r)) (fun r => zPu u io rows rs2 os2 ns2 nm (pk2 r))
def zBf (M : zA) (mine : List Nat) (b : Nat) : Prop := ∃ id ∈ mine, ∃ C, M.κ id = some C ∧ b ∈ C.fp
structure LoX (M : zA) (mine : List Nat) (Ml : zA) : Prop where
 H : Ml.H = M.H
 F : Ml.F = fun b => b < M.H.size ∧ ¬ zBf M mine b
 G : Ml.G = M.G
def zCi (M : zA) (mine : List Nat) : Prop := ∀ id ∈ mine, ∃ o, M.h id = some o ∧ o.owned = true
theorem zBf.own {M : zA} {mine : List Nat} (ho : zCi M mine) {b : Nat} (h : zBf M mine b) : qN M b := by
 obtain ⟨id, hid, C, hC, hb⟩ := h
 obtain ⟨o, h1, h2⟩ := ho id hid
 exact ⟨id, o, C, h1, h2, hC, hb⟩
theorem zEy {M : zA} (ok : Ok M) {mine : List Nat} (ho : zCi M mine) {b : Nat} (h : M.F b) : b < M.H.size ∧ ¬ zBf M mine b := ⟨ok.Flt b h, fun hh => (ok.own b (hh.own ho)).1 h⟩
theorem yFi {M M' : zA} (ok : Ok M) {mine : List Nat} (ho : zCi M mine) {id : Nat} {o : Obj} (hn : id ∉ mine) (hh : M'.h = yC M.h id o) (hκ : M'.κ = M.κ) (hH : M'.H = M.H) (ok' : Ok M') {b : Nat} (h : M'.G b) : b < M.H.size ∧ ¬ zBf M mine b := by
 have hf := ok'.GF b h
 refine ⟨by have := ok'.Flt b hf; rwa [hH] at this, fun hd => ?_⟩
 obtain ⟨jd, hj, C, hC, hb⟩ := hd
 obtain ⟨q, h1, h2⟩ := ho jd hj
 refine (ok'.own b ⟨jd, q, C, ?_, h2, ?_, hb⟩).1 hf
 ·rw [hh, yE _ _ (fun e => hn (by rw [← e]; exact hj))]; exact h1
 ·rw [hκ]; exact hC
theorem yRe {M : zA} (ok : Ok M) {mine : List Nat} (ho : zCi M mine) {c : zG} {v : Value} {t : Ty} {xs : List t.den} (hn : ∀ id ∈ yU c, id ∉ mine) (hv : zV M c v) (h : zA5 M.h c = some ⟨t, xs⟩) :
  zW M.H (fun b => b < M.H.size ∧ ¬ zBf M mine b) (.sl t) xs (fun _ => some v) := by
 unfold zA5 at h
 split at h
 ·rename_i sh s ys
  cases h
  cases sh with
  | true => exact yL (fun b hb => zEy ok ho (ok.GF b hb)) (fun _ _ => rfl) _ _ _ _ (fun _ _ => rfl) hv
  | false => exact yL (fun b hb => zEy ok ho hb) (fun _ _ => rfl) _ _ _ _ (fun _ _ => rfl) hv
 ·rename_i id r
  have hid' : id ∉ mine := hn id (by simp [yU])
  split at h
  ·rename_i own s ys hid
   cases h
   cases own with
   | false =>
    obtain ⟨C, hC, hO⟩ := ok.obj _ _ hid
    exact yL (fun b hb => zEy ok ho (ok.GF b hb)) (fun _ _ => rfl) _ _ _ _ (fun _ _ => rfl) (zIp hC hO hv)
   | true =>
    obtain ⟨M', h1, h2, h3, h4, h5⟩ := yHb ok hid
    obtain ⟨C, hC, hO⟩ := h3.obj id _ (by rw [h2]; exact yB _ _ _)
    have := zIp hC hO (hv.ext h4.ext)
    exact yL (fun b hb => yFi ok ho hid' h2 h5 h1 h3 hb) (fun b _ => by rw [h1]) _ _ _ _ (fun _ _ => rfl) this
  ·rename_i ver ys hid
   cases r with
   | some p => cases h
   | none =>
    cases h
    obtain ⟨M', h1, h2, h3, h4, h5⟩ := yCu ok hid
    obtain ⟨C, hC, hO⟩ := h3.obj id _ (by rw [h2]; exact yB _ _ _)
    have := zIp (r := none) hC hO (hv.ext h4.ext)
    exact yL (fun b hb => yFi ok ho hid' h2 h5 h1 h3 hb) (fun b _ => by rw [h1]) _ _ _ _ (fun _ _ => rfl) this
  ·cases h
 ·rename_i id i ver
  have hid' : id ∉ mine := hn id (by simp [yU])
  split at h
  ·rename_i v' ys hid
   cases hver : Nat.beq v' ver with
   | false => rw [hver] at h; cases h
   | true =>
    rw [hver] at h
    cases h
    have e : v' = ver := by simpa using hver
    subst e
    obtain ⟨C, hC, hO⟩ := ok.obj _ _ hid
    obtain ⟨C', hC', hone, _, hrow⟩ := hv
    rw [hC] at hC'; cases hC'
    obtain ⟨rb, rl, hr1, hr2⟩ := hrow hO.1
    by_cases hi : i < ys.length
    ·obtain ⟨B, rb', v2, k1, k2, k3, k4, k5, k6⟩ := zJm hO hi
     rw [hr1] at k3
     cases k3
     rw [show ys.getD i [] = ys[i] by simp [List.getD, hi]]
     simp only [zW]
     cases rb with
     | none =>
      obtain ⟨rfl, h0⟩ := hr2
      exact ⟨none, 0, 0, rfl, h0.symm, Nat.le_refl _, .inl ⟨List.eq_nil_of_length_eq_zero h0, fun _ => rfl⟩⟩
     | some R =>
      obtain ⟨a, c, rfl, h1, h2, h3⟩ := hr2
      refine ⟨_, _, c, rfl, rfl, h1, ?_⟩
      by_cases h0 : ys[i].length = 0
      ·exact .inl ⟨List.eq_nil_of_length_eq_zero h0, fun h => by cases h⟩
      ·have ha : a = 0 := by rcases h2 with h | h <;> omega
       subst ha
       have hR : R ∈ C.fp := by
        have : (some R, ys[i].length) ∈ C.rows := List.mem_of_getElem? hr1
        simp only [zR.fp, List.mem_append, List.mem_filterMap]
        exact .inr ⟨_, this, rfl⟩
       refine .inr ⟨R, 0, rfl, ⟨?_, fun hd => ?_⟩, fun j hj => ?_⟩
       ·have := k6 R rfl 0 (by omega)
        unfold qW at this
        cases hR : M.H[R]? with
        | none => rw [hR] at this; cases this
        | some x => exact (Array.getElem?_eq_some_iff.1 hR).1
       ·obtain ⟨jd, hj, D, hD, hb⟩ := hd
        obtain ⟨q, q1, q2⟩ := ho jd hj
        exact ok.disj jd id q _ D C R (fun e => hid' (by rw [← e]; exact hj)) q1 hid q2 rfl hD hC hb hR
       ·simp only [zW, Ty.size, Nat.zero_add, Nat.mul_one, Nat.add_zero]
        exact k6 R rfl j hj
    ·have : C.rows[i]? = none := List.getElem?_eq_none (by have := hO.2.2.2.1; omega)
     rw [this] at hr1; cases hr1
  ·cases h
 ·cases h
def TrX (M : zA) (mine : List Nat) (c c' : zG) : Prop := ∀ v Ml, LoX M mine Ml → zV M c v → zV Ml c' v
theorem yPd {M : zA} (ok : Ok M) {mine : List Nat} (ho : zCi M mine) {p : PC} {c : zG} {d : p.den} (hn : ∀ id ∈ yU c, id ∉ mine) (h : inP M.h p c = some d) : TrX M mine c (zNv p d) := by
 intro v Ml lo hv
 unfold inP at h
 split at h
 ·rename_i k j n
  cases e : zBm j k with
  | false => rw [e] at h; cases h
  | true => rw [e] at h; cases h; rw [← zG3 e]; exact hv
 ·cases h; exact hv
 ·rename_i t c
  show zW Ml.H Ml.F _ _ _
  rw [lo.H, lo.F]
  unfold zH8 at h
  split at h
  ·cases h
   rw [show v = .slice none 0 0 from hv]
   exact zRt
  ·split at h
   ·rename_i s ys hr
    obtain ⟨e, hx⟩ := zBg h
    subst e
    subst hx
    exact yRe ok ho hn hv hr
   ·cases h
 ·rename_i t s xs
  obtain ⟨e, hx⟩ := zBg h
  subst e
  subst hx
  show zW Ml.H Ml.G _ _ _
  rw [lo.H, lo.G]
  exact hv
 ·cases h
  rw [show v = .slice none 0 0 from hv]
  exact zRt
 ·rename_i f g
  cases e : Nat.beq f g with
  | false => rw [e] at h; cases h
  | true =>
   have : f = g := by simpa using e
   subst this
   obtain ⟨cv, rfl, hc⟩ := hv
   refine ⟨cv, rfl, ?_⟩
   generalize cv.toList = l at hc
   cases l with
   | nil => trivial
   | cons _ _ => exact hc.elim
 ·exact hv
 ·exact hv
 ·cases h
def TrK (M : zA) (mine : List Nat) (κ : Nat → Option zR) (c c' : zG) : Prop := ∀ v Ml, LoX M mine Ml → Ml.κ = κ → zV M c v → zV Ml c' v
structure yZl (M : zA) (id : Nat) (o : Obj) (C : zR) : Prop where
 κ : M.κ id = some C
 rep : ∀ Ml : zA, Ml.H = M.H → Ml.G = M.G → yM Ml o { C with ver := 0 }
 own : o.owned = true
 was : ∃ q, M.h id = some q ∧ q.owned = true
theorem yXp {M Ml : zA} (hH : Ml.H = M.H) {kvs : List (Int × Bool)} {C : zR} (h : yM M (.imap kvs) C) : yM Ml (.imap kvs) { C with ver := 0 } := by
 obtain ⟨B, es, ck, h1, h2, h3, h4, h5⟩ := h
 exact ⟨B, es, ck, h1, h2, by rw [hH]; exact h3, h4, h5⟩
theorem yEn {j : Nat} {l : List (Option Nat)} {ids : List Nat} {c : zG} {cs : List zG} (h : zD5 (some j :: l) ids (c :: cs) = true) : ∃ id, c = .ptr id 0 ∧ ids[j]? = some id ∧ zD5 l ids cs = true := by
 cases c with
 | ptr id off =>
  cases off with
  | zero =>
   have h : ((match ids[j]? with | some k => Nat.beq id k | none => false) && zD5 l ids cs) = true := h
   rw [Bool.and_eq_true] at h
   have h1 := h.1
   split at h1
   ·rename_i k hk
    exact ⟨id, rfl, by rw [hk, Nat.eq_of_beq_eq_true h1], h.2⟩
   ·cases h1
  | succ _ => cases h
 | _ => cases h
theorem zJk {M : zA} (ok : Ok M) {mine : List Nat} (ho : zCi M mine) {κ : Nat → Option zR} : ∀ {l : List XC} {cs : List zG} {d : XL l} {n : Nat} {ids : List Nat}, zDv M.h l cs = some d → zD5 (l.map XC.lnk) ids cs = true → (∀ id ∈ zR7 l cs, id ∉ mine) →
  (wB l cs).length = (jW l d n).2.length ∧ (∀ (i : Nat) (id : Nat) (o : Obj), (wB l cs)[i]? = some id → (jW l d n).2[i]? = some o → ∃ C, yZl M id o C) ∧
   ((∀ (i : Nat) (id : Nat) (C : zR), (wB l cs)[i]? = some id → M.κ id = some C → κ (n + i) = some { C with ver := 0 }) → (∀ j id, ids[j]? = some id → κ j = M.κ id) → zO (TrK M mine κ) cs (jW l d n).1)
 | [], [], _, n, _, _, _, _ => ⟨rfl, fun i id o h => by simp [wB] at h, fun _ _ => trivial⟩
 | x :: l, c :: cs, d, n, ids, h, hl, hn => by
  unfold zDv at h
  split at h
  ·rename_i y ys h1 h2
   cases h
   cases x with
   | p p =>
    have hn1 : ∀ id ∈ yU c, id ∉ mine := fun id hid => hn id (List.mem_append_left _ hid)
    obtain ⟨k1, k2, k3⟩ := zJk ok ho (κ := κ) (n := n) (ids := ids) h2 hl (fun id hid => hn id (List.mem_append_right _ hid))
    exact ⟨k1, k2, fun hκ hj => ⟨fun v Ml lo _ hv => yPd ok ho hn1 h1 v Ml lo hv, k3 hκ hj⟩⟩
   | own t =>
    cases c with
    | osl id r =>
     cases r with
     | some _ => cases h1
     | none =>
      have h1 : (match M.h id with | some (.arr true s xs) => zAe s t xs | _ => none) = some y := h1
      split at h1
      ·rename_i s xs hid
       obtain ⟨e, hx⟩ := zBg h1
       subst e
       subst hx
       obtain ⟨C, hC, hO⟩ := ok.obj id _ hid
       obtain ⟨k1, k2, k3⟩ := zJk ok ho (κ := κ) (n := n + 1) (ids := ids) h2 hl hn
       refine ⟨by simp only [wB, jW, List.length_cons, k1], fun i jd o hi ho' => ?_, fun hκ hj => ⟨fun v Ml lo hk hv => ?_, k3 (fun i jd D hi hD => ?_) hj⟩⟩
       ·cases i with
        | zero =>
         cases hi
         cases ho'
         refine ⟨C, hC, fun Ml e1 e2 => ?_, rfl, _, hid, rfl⟩
         obtain ⟨q1, q2, q3, q4⟩ := hO
         refine ⟨q1, q2, q3, ?_⟩
         rw [e1, e2]
         exact q4
        | succ i => exact k2 i jd o hi ho'
       ·obtain ⟨D, hD, hS⟩ := hv
        rw [hC] at hD; cases hD
        refine ⟨{ C with ver := 0 }, by rw [hk]; exact hκ 0 id C rfl hC, ?_⟩
        show vV Ml.H { C with ver := 0 } 0 C.len v
        rw [lo.H]
        exact hS
       ·have := hκ (i + 1) jd D hi hD
        rw [← this]; congr 1; omega
      ·cases h1
    | _ => cases h1
   | mat =>
    cases c with
    | osl id r =>
     cases r with
     | some _ => cases h1
     | none =>
      have h1 : (match M.h id with | some (.mat _ xs) => some xs | _ => none) = some y := h1
      split at h1
      ·rename_i ver xs hid
       cases h1
       obtain ⟨C, hC, hO⟩ := ok.obj id _ hid
       obtain ⟨k1, k2, k3⟩ := zJk ok ho (κ := κ) (n := n + 1) (ids := ids) h2 hl hn
       refine ⟨by simp only [wB, jW, List.length_cons, k1], fun i jd o hi ho' => ?_, fun hκ hj => ⟨fun v Ml lo hk hv => ?_, k3 (fun i jd D hi hD => ?_) hj⟩⟩
       ·cases i with
        | zero =>
         cases hi
         cases ho'
         refine ⟨C, hC, fun Ml e1 e2 => ?_, rfl, _, hid, rfl⟩
         obtain ⟨q1, q2⟩ := hO
         refine ⟨rfl, ?_⟩
         rw [e1]
         exact q2
        | succ i => exact k2 i jd o hi ho'
       ·obtain ⟨D, hD, hS⟩ := hv
        rw [hC] at hD; cases hD
        refine ⟨{ C with ver := 0 }, by rw [hk]; exact hκ 0 id C rfl hC, ?_⟩
        show vV Ml.H { C with ver := 0 } 0 C.len v
        rw [lo.H]
        exact hS
       ·have := hκ (i + 1) jd D hi hD
        rw [← this]; congr 1; omega
      ·cases h1
    | _ => cases h1
   | map =>
    cases c with
    | map id =>
     have h1 : (match M.h id with | some (.imap kvs) => some kvs | _ => none) = some y := h1
     split at h1
     ·rename_i kvs hid
      cases h1
      obtain ⟨C, hC, hO⟩ := ok.obj id _ hid
      obtain ⟨k1, k2, k3⟩ := zJk ok ho (κ := κ) (n := n + 1) (ids := ids) h2 hl hn
      refine ⟨by simp only [wB, jW, List.length_cons, k1], fun i jd o hi ho' => ?_, fun hκ hj => ⟨fun v Ml lo hk hv => ?_, k3 (fun i jd D hi hD => ?_) hj⟩⟩
      ·cases i with
       | zero =>
        cases hi
        cases ho'
        exact ⟨C, hC, fun Ml e1 e2 => yXp e1 hO, rfl, _, hid, rfl⟩
       | succ i => exact k2 i jd o hi ho'
      ·obtain ⟨D, B, hD, hB, e⟩ := hv
       rw [hC] at hD; cases hD
       exact ⟨{ C with ver := 0 }, B, by rw [hk]; exact hκ 0 id C rfl hC, hB, e⟩
      ·have := hκ (i + 1) jd D hi hD
       rw [← this]; congr 1; omega
     ·cases h1
    | _ => cases h1
   | link j =>
    obtain ⟨id, rfl, hid, hl'⟩ := yEn hl
    obtain ⟨k1, k2, k3⟩ := zJk ok ho (κ := κ) (n := n) (ids := ids) h2 hl' hn
    refine ⟨k1, k2, fun hκ hj => ⟨fun v Ml lo hk hv => ?_, k3 hκ hj⟩⟩
    obtain ⟨C, B, hC, hB, e⟩ := hv
    exact ⟨C, B, by rw [hk, hj j id hid]; exact hC, hB, e⟩
  ·cases h
 | [], _ :: _, _, _, _, h, _, _ => by cases h
 | _ :: _, [], _, _, _, h, _, _ => by cases h
end Go.Ab
