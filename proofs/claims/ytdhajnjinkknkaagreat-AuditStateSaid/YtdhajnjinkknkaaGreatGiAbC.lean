/- part 2 -/
import Derived.Test.YtdhajnjinkknkaaGreatGiAbB
import Derived.ProofKit
import Derived.Below
import Derived.Carry
set_option linter.unusedVariables false
set_option linter.unusedSimpArgs false
set_option linter.unusedSectionVars false
namespace Go.Ab
theorem yFx {t t' : Nat → zG} {d : Option Nat} {v : zG} {x : Nat} (h : t x = t' x) : zAt t d v x = zAt t' d v x := by
 cases d with
 | none => exact h
 | some d =>
  show wO t d v x = wO t' d v x
  unfold wO
  cases Nat.beq x d with
  | true => rfl
  | false => exact h
theorem zX0 {t : Nat → zG} {d : Option Nat} {v : zG} {x : Nat} (h : d ≠ some x) : zAt t d v x = t x := by
 cases d with
 | none => rfl
 | some d =>
  show wO t d v x = _
  unfold wO
  cases e : Nat.beq x d with
  | false => rfl
  | true => exact absurd (by rw [show x = d by simpa using e]) h
theorem vFw {t t' : Nat → zG} {v : zG} {x : Nat} : zAt t (some x) v x = zAt t' (some x) v x := by
 show wO t x v x = wO t' x v x
 unfold wO
 simp
theorem yX9 {t : Nat → zG} {d e : Option Nat} {v u : zG} (h : ∀ x, d = some x → e ≠ some x) : zAt (zAt t d v) e u = zAt (zAt t e u) d v := by
 funext x
 by_cases hd : d = some x
 ·subst hd
  rw [zX0 (h x rfl)]
  exact vFw
 ·rw [zX0 hd]
  exact yFx (zX0 hd)
theorem zH1 {n : Nat} : ∀ {u : qF} {h h' : Hp}, h n = h' n → qK h u n = qK h' u n
 | [], _, _, e => e
 | (id, o) :: u, h, h', e => zH1 (u := u) (by
   by_cases hn : n = id
   ·subst hn; rw [yG, yG]
   ·rw [yN _ _ hn, yN _ _ hn]; exact e)
theorem qYb {n : Nat} : ∀ {u : qF} {h h' : Hp}, n ∈ wS u → qK h u n = qK h' u n
 | [], _, _, hm => by simp [wS] at hm
 | (id, o) :: u, h, h', hm => by
  by_cases hu : n ∈ wS u
  ·exact qYb (u := u) hu
  ·have e : n = id := by
    simp only [wS, List.map_cons, List.mem_cons] at hm hu
    exact hm.resolve_right hu
   subst e
   exact zH1 (u := u) (by rw [yG, yG])
theorem yXv {u v : qF} {h : Hp} (hd : ∀ a ∈ wS u, a ∉ wS v) : qK (qK h u) v = qK (qK h v) u := by
 funext n
 by_cases hu : n ∈ wS u
 ·rw [zNn (hd n hu)]
  exact qYb hu
 ·rw [zNn (u := u) (h := qK h v) hu]
  exact zH1 (zNn hu)
theorem yWb {st : St} {x y : It} (hd : ∀ t, x.o.dst = some t → y.o.dst ≠ some t) (hu : ∀ a ∈ wS x.u, a ∉ wS y.u) : vG (vG st x) y = vG (vG st y) x := by
 unfold vG
 simp only [St.mk.injEq]
 exact ⟨yX9 hd, yXv hu⟩
theorem yH9 {x : It} : ∀ {l : List It} {st : St}, (∀ y ∈ l, (∀ t, x.o.dst = some t → y.o.dst ≠ some t) ∧ ∀ a ∈ wS x.u, a ∉ wS y.u) → vG (l.foldl vG st) x = l.foldl vG (vG st x)
 | [], _, _ => rfl
 | y :: l, st, h => by
  rw [List.foldl_cons, List.foldl_cons, yWb (h y (List.mem_cons_self ..)).1 (h y (List.mem_cons_self ..)).2]
  exact yH9 fun z hz => h z (List.mem_cons_of_mem _ hz)
theorem zTc (t : Nat) : ∀ (l : List It) (st st' : St), st.t t = st'.t t → (l.foldl vG st).t t = ((l.filter fun it => it.o.dst == some t).foldl vG st').t t
 | [], _, _, h => h
 | y :: l, st, st', h => by
  rw [List.foldl_cons, List.filter_cons]
  cases hy : y.o.dst == some t with
  | true =>
   rw [if_pos rfl, List.foldl_cons]
   exact zTc t l _ _ (yFx h)
  | false =>
   rw [if_neg (by simp)]
   exact zTc t l _ _ (by
    show zAt st.t y.o.dst y.v t = _
    rw [zX0 (by simpa using hy)]; exact h)
theorem zYg (n : Nat) : ∀ (l : List It) (st st' : St), st.h n = st'.h n → (l.foldl vG st).h n = ((l.filter fun it => (wS it.u).contains n).foldl vG st').h n
 | [], _, _, h => h
 | y :: l, st, st', h => by
  rw [List.foldl_cons, List.filter_cons]
  cases hy : (wS y.u).contains n with
  | true =>
   rw [if_pos rfl, List.foldl_cons]
   exact zYg n l _ _ (zH1 h)
  | false =>
   rw [if_neg (by simp)]
   exact zYg n l _ _ (by
    show qK st.h y.u n = _
    rw [zNn (by simpa [wS] using hy)]; exact h)
theorem qQi {S W : It → Bool} {pfx post : List It} {it : It} (hit : S it = false) (h1 : ∀ y ∈ pfx, W y = true → S y = true) (h2 : ∀ y ∈ post, W y = true → S y = false) : ((pfx ++ it :: post).filter S).filter W = pfx.filter W := by
 rw [List.filter_append, List.filter_append, List.filter_cons, hit, if_neg (by simp)]
 have e1 : (pfx.filter S).filter W = pfx.filter W := by
  rw [List.filter_filter]
  refine List.filter_congr fun y hy => ?_
  cases hw : W y with
  | false => simp
  | true => simp [h1 y hy hw]
 have e2 : (post.filter S).filter W = [] := by
  rw [List.filter_filter, List.filter_eq_nil_iff]
  intro y hy
  cases hw : W y with
  | false => simp
  | true => simp [h2 y hy hw]
 rw [e1, e2, List.append_nil]
def zK2 (d : zGx) (a : Nat) : Prop := match d.refs with
 | none => True
 | some l => a ∈ l ∨ zCj d.nm a = true
theorem qM1 {x y : zGx} (h : zFn x y = false) : (∀ a ∈ x.upd, ¬ zK2 y a) ∧ (∀ a ∈ y.upd, ¬ zK2 x a) ∧ ∀ a ∈ x.upd, a ∉ y.upd := by
 unfold zFn at h
 simp only [Bool.or_eq_false_iff] at h
 obtain ⟨⟨⟨⟨h1, h2⟩, h3⟩, h4⟩, h5⟩ := h
 have key : ∀ (d e : zGx), zWb d.upd e.refs = false → d.upd.any (zCj e.nm) = false → ∀ a ∈ d.upd, ¬ zK2 e a := by
  intro d e hm ho a ha hl
  unfold zWb at hm
  unfold zK2 at hl
  cases hr : e.refs with
  | none =>
   rw [hr] at hm
   have : d.upd = [] := by simpa using hm
   rw [this] at ha; cases ha
  | some l =>
   rw [hr] at hm hl
   rcases hl with hl | hl
   ·have := List.any_eq_false.1 hm a ha
    simp at this
    exact this hl
   ·have := List.any_eq_false.1 ho a ha
    rw [hl] at this; exact this rfl
 refine ⟨key x y h1 h3, key y x h2 h4, fun a ha hb => ?_⟩
 have := List.any_eq_false.1 h5 a ha
 simp at this
 exact this hb
section
variable {E : qC} {A : qA} {k pre na nt : Nat} {R : Type} {ops : Array Oper}
theorem qFz {i j : Nat} {x y : Oper} (hi : ops[i]? = some x) (hj : ops[j]? = some y) (h : zEv ops i j = true) :
  (∀ d, x.dst = some d → d ∉ y.looksAt ops) ∧ (∀ d, x.dst = some d → y.dst ≠ some d) ∧ (∀ d, y.dst = some d → d ∉ x.looksAt ops) := by
 unfold zEv at h
 rw [hi, hj] at h
 exact Oper.apart_spec h
theorem yQr (hE : zAh E) (hS : zA9 E.sums) {S : Nat → Bool} (hC : zR0 ops S) {st : St} {pfx post : List It} {it : It} (hops : ∀ y ∈ pfx ++ it :: post, ops[y.i]? = some y.o) (hg : zVp E A k pre na nt ops (pfx.foldl vG st) it)
  (hu : ∀ y ∈ pfx ++ it :: post, y.wt = false → y.u = []) (hp : (pfx ++ it :: post).Pairwise (qK8 pre ops (Region.before ops))) (hit : S it.i = false)
  (hr : ∀ o, ops[it.i]? = some o → ∀ e ∈ o.after.toList, Region.binds .any e = true → S e.on = true) :
  zVp E A k pre na nt ops (((pfx ++ it :: post).filter fun y => S y.i).foldl vG st) it ∧
   (∀ y ∈ post, S y.i = true → (∀ t, it.o.dst = some t → y.o.dst ≠ some t) ∧ ∀ a ∈ wS it.u, a ∉ wS y.u) := by
 have hio : ops[it.i]? = some it.o := hops it (by simp)
 obtain ⟨hp1, hp2, hp3⟩ := List.pairwise_append.1 hp
 have before : ∀ y ∈ pfx, S y.i = false → zEv ops y.i it.i = true ∧ (y.wt = true → it.wt = true → zFn (y.dn pre) (it.dn pre) = false) := fun y hy hs => by
  rcases hp3 y hy it (List.mem_cons_self ..) with h | h
  ·rw [vCo hC h hr] at hs; cases hs
  ·exact h
 have behind : ∀ y ∈ post, S y.i = true → zEv ops it.i y.i = true ∧ (it.wt = true → y.wt = true → zFn (it.dn pre) (y.dn pre) = false) := fun y hy hs => by
  rcases (List.pairwise_cons.1 hp2).1 y hy with h | h
  ·rw [qSt hC _ _ rfl h hs] at hit; cases hit
  ·exact h
 have tmpEq : ∀ t, t ∈ it.o.looksAt ops → (((pfx ++ it :: post).filter fun y => S y.i).foldl vG st).t t = (pfx.foldl vG st).t t := fun t ht => by
  rw [zTc t _ st st rfl, zTc t pfx st st rfl, qQi hit (fun y hy hw => ?_) fun y hy hw => ?_]
  ·cases hs : S y.i with
   | true => rfl
   | false =>
    have := (qFz (hops y (by simp [hy])) hio (before y hy hs).1).1 t (by simpa using hw)
    exact absurd ht this
  ·cases hs : S y.i with
   | false => rfl
   | true =>
    have := (qFz hio (hops y (by simp [hy])) (behind y hy hs).1).2.2 t (by simpa using hw)
    exact absurd ht this
 have hEq : it.wt = true → ∀ n, zK2 (it.dn pre) n → (((pfx ++ it :: post).filter fun y => S y.i).foldl vG st).h n = (pfx.foldl vG st).h n := fun hw n hn => by
  rw [zYg n _ st st rfl, zYg n pfx st st rfl, qQi hit (fun y hy hy' => ?_) fun y hy hy' => ?_]
  ·cases hs : S y.i with
   | true => rfl
   | false =>
    have hm : n ∈ wS y.u := by simpa using hy'
    have hyw : y.wt = true := by
     cases h : y.wt with
     | true => rfl
     | false => rw [hu y (by simp [hy]) h] at hm; simp [wS] at hm
    exact absurd hn ((qM1 ((before y hy hs).2 hyw hw)).1 n hm)
  ·cases hs : S y.i with
   | false => rfl
   | true =>
    have hm : n ∈ wS y.u := by simpa using hy'
    have hyw : y.wt = true := by
     cases h : y.wt with
     | true => rfl
     | false => rw [hu y (by simp [hy]) h] at hm; simp [wS] at hm
    exact absurd hn ((qM1 ((behind y hy hs).2 hw hyw)).2.1 n hm)
 generalize hL : ((pfx ++ it :: post).filter fun y => S y.i).foldl vG st = stL at tmpEq hEq ⊢
 refine ⟨⟨?_, fun hw => ?_, hg.n⟩, fun y hy hs => ?_⟩
 ·rw [← hg.w]
  unfold zOn
  cases hgd : it.o.guard with
  | none => rfl
  | some p =>
   obtain ⟨j, want⟩ := p
   dsimp only
   cases hsl : zZz ops j with
   | none => rfl
   | some s =>
    have : s ∈ it.o.looksAt ops := by
     have hsl : (ops[j]?).bind (·.dst) = some s := hsl
     simp only [Oper.looksAt, hgd, hsl]
     simp
    simp only [tmpEq s this]
 ·obtain ⟨hd, hy, hrf⟩ := hg.y hw
  have hev : ∀ x ∈ it.o.op.operands, stL.ev x = (pfx.foldl vG st).ev x := fun x hx => by
   cases x with
   | tmp t => exact tmpEq t (List.mem_append_left _ (List.mem_filterMap.2 ⟨.tmp t, by simpa using hx, rfl⟩))
   | _ => rfl
  have hrefs : zD8 stL.ev it.o = zD8 (pfx.foldl vG st).ev it.o := by
   unfold zD8
   have : it.o.op.operands.toList.map stL.ev = it.o.op.operands.toList.map (pfx.foldl vG st).ev := List.map_congr_left fun x hx => hev x (by simpa using hx)
   simp only [this]
  refine ⟨hd, ?_, by rw [hrf, hrefs]⟩
  rw [yVp hev]
  have hh : opS E A k pre it.o (pfx.foldl vG st).ev stL.h = opS E A k pre it.o (pfx.foldl vG st).ev (pfx.foldl vG st).h := vEo hS (by
   rw [← hrf]
   have := hEq hw
   unfold zK2 at this
   have hdn : (it.dn pre).refs = it.r := rfl
   rw [hdn] at this
   cases h : it.r with
   | none =>
    rw [h] at this
    exact funext fun n => this n trivial
   | some l =>
    rw [h] at this
    exact this)
  rw [hh]
  exact hy
 ·obtain ⟨h1, h2⟩ := behind y hy hs
  refine ⟨(qFz hio (hops y (by simp [hy])) h1).2.1, fun a ha hb => ?_⟩
  have hwi : it.wt = true := by
   cases h : it.wt with
   | true => rfl
   | false => rw [hu it (by simp) h] at ha; simp [wS] at ha
  have hwy : y.wt = true := by
   cases h : y.wt with
   | true => rfl
   | false => rw [hu y (by simp [hy]) h] at hb; simp [wS] at hb
  exact (qM1 (h2 hwi hwy)).2.2 a ha hb
end
theorem vGh {ops : Array Oper} (h : zRm ops = true) {j : Nat} {o : Oper} (ho : ops[j]? = some o) : ∀ e ∈ o.after.toList, Region.binds .any e = true → e.on < j := by
 intro e he hb
 have hj := (Array.getElem?_eq_some_iff.1 ho).1
 have hm : (o, j) ∈ ops.toList.zipIdx := by
  rw [List.mem_zipIdx_iff_getElem?]
  simpa using ho
 have := List.all_eq_true.1 (List.all_eq_true.1 h _ hm) e he
 simpa [hb, Nat.blt_eq] using this
theorem zYd {L : Array Bool} {i : Nat} (hi : i < L.size) (j : Nat) : (L.setIfInBounds i true).getD j false = (L.getD j false || i == j) := by
 by_cases h : i = j
 ·subst h; simp [hi]
 ·rw [getD_set_ne false h]
  have : (i == j) = false := by simpa using h
  rw [this, Bool.or_false]
section
variable {E : qC} {A : qA} {k pre na nt : Nat} {a0 : Nat → Value} {R : Type} {ops : Array Oper} {M0 : zC} {w0 : World} {Q : Exit → Act → World → Prop}
theorem vE9 (hE : zAh E) (hS : zA9 E.sums) (he : zRm ops = true) {its : List It} {st : St} (hi : its.map (·.i) = List.range ops.size) (hops : ∀ y ∈ its, ops[y.i]? = some y.o) (hg : ∀ pfx it post, its = pfx ++ it :: post → zVp E A k pre na nt ops (pfx.foldl vG st) it)
  (hp : its.Pairwise (qK8 pre ops (Region.before ops))) (hQ : ∀ a w, vC na nt a0 M0 w0 (its.foldl vG st) a w → Q .normal a w) :
  ∀ (fuel : Nat) (L : Array Bool) (a : Act) (w : World), L.size = ops.size → (∃ U : List Nat, U.length ≤ fuel ∧ ∀ j, j < ops.size → L.getD j false = false → j ∈ U) → zR0 ops (fun j => L.getD j false) →
   vC na nt a0 M0 w0 ((its.filter fun y => L.getD y.i false).foldl vG st) a w → wpAny E.P .any ops Q fuel L a w := by
 have hu : ∀ y ∈ its, y.wt = false → y.u = [] := fun y hy hw => by
  obtain ⟨pfx, post, e⟩ := List.append_of_mem hy
  exact ((hg pfx y post e).n hw).2.1
 have hil : ∀ y ∈ its, y.i < ops.size := fun y hy => (Array.getElem?_eq_some_iff.1 (hops y hy)).1
 have hnd : (its.map (·.i)).Nodup := by rw [hi]; exact List.nodup_range
 have full : ∀ (L : Array Bool) (a : Act) (w : World), (∀ j, j < ops.size → L.getD j false = true) → vC na nt a0 M0 w0 ((its.filter fun y => L.getD y.i false).foldl vG st) a w → Q .normal a w := fun L a w hl r => by
  rw [List.filter_eq_self.2 fun y hy => hl y.i (hil y hy)] at r
  exact hQ a w r
 have rdy : ∀ (L : Array Bool), L.size = ops.size → Region.ready .any ops L = [] → ∀ j, j < ops.size → L.getD j false = true := fun L hL hr j => by
  induction j using Nat.strongRecOn with
  | _ j ih =>
   intro hj
   cases hb : L.getD j false with
   | true => rfl
   | false =>
    have ho : ops[j]? = some ops[j] := Array.getElem?_eq_getElem hj
    have : j ∈ Region.ready .any ops L := mem_ready.2 ⟨by
     have hjL : j < L.size := by omega
     simpa [Array.getD, hjL] using hb, ops[j], ho, fun e he' hb' => by
      have hlt := vGh he ho e (by simpa using he') hb'
      exact ih e.on hlt (by omega)⟩
    rw [hr] at this; cases this
 intro fuel
 induction fuel with
 | zero =>
  intro L a w hL hU hC r
  obtain ⟨U, hUl, hU⟩ := hU
  have hU0 : U = [] := List.eq_nil_of_length_eq_zero (by omega)
  have hall : ∀ j, j < ops.size → L.getD j false = true := fun j hj => by
   cases hb : L.getD j false with
   | true => rfl
   | false => have := hU j hj hb; rw [hU0] at this; cases this
  refine ⟨?_, full L a w hall r⟩
  cases hr : Region.ready .any ops L with
  | nil => rfl
  | cons j l =>
   have : j ∈ Region.ready .any ops L := by rw [hr]; exact List.mem_cons_self ..
   obtain ⟨h0, o, ho, _⟩ := mem_ready.1 this
   have hj := (Array.getElem?_eq_some_iff.1 ho).1
   have := hall j hj
   have hjL : j < L.size := by omega
   simp [Array.getD, hjL] at this h0
   rw [this] at h0; cases h0
 | succ fuel ih =>
  intro L a w hL hU hC r
  refine ⟨fun hr => full L a w (rdy L hL hr) r, fun i hir => ?_⟩
  obtain ⟨h0, o, ho, hready⟩ := mem_ready.1 hir
  have hilt := (Array.getElem?_eq_some_iff.1 ho).1
  have hiL : i < L.size := by omega
  have h0' : L.getD i false = false := by simpa [Array.getD, hiL] using h0
  obtain ⟨it, hit, hiti⟩ : ∃ it ∈ its, it.i = i := by
   have : i ∈ its.map (·.i) := by rw [hi]; simpa using hilt
   obtain ⟨it, h1, h2⟩ := List.mem_map.1 this
   exact ⟨it, h1, h2⟩
  obtain ⟨pfx, post, e⟩ := List.append_of_mem hit
  have hio : ops[it.i]? = some it.o := hops it hit
  have hoo : o = it.o := by rw [hiti, ho] at hio; exact Option.some.inj hio
  subst hoo
  have hgood := yQr hE hS hC (by rw [← e]; exact hops) (hg pfx it post e) (by rw [← e]; exact hu) (by rw [← e]; exact hp) (by rw [hiti]; exact h0') (fun o' ho' ed hed hb => by
   rw [hio] at ho'
   cases ho'
   exact hready ed (by simpa using hed) hb)
  rw [← e] at hgood
  obtain ⟨hgd, hcomm⟩ := hgood
  have hw := qWw hgd.w r
  have yC : (its.filter fun y => (L.setIfInBounds i true).getD y.i false).foldl vG st = vG ((its.filter fun y => L.getD y.i false).foldl vG st) it := by
   have other : ∀ y ∈ pfx ++ post, (L.setIfInBounds i true).getD y.i false = L.getD y.i false := fun y hy => by
    rw [zYd hiL]
    have : y.i ≠ i := fun h => by
     rw [e, List.map_append, List.map_cons] at hnd
     have h2 := List.nodup_append.1 hnd
     rcases List.mem_append.1 hy with hy | hy
     ·exact h2.2.2 y.i (List.mem_map_of_mem hy) it.i (List.mem_cons_self ..) (by rw [h, hiti])
     ·exact (List.nodup_cons.1 h2.2.1).1 (by rw [hiti, ← h]; exact List.mem_map_of_mem hy)
    have : (i == y.i) = false := by simpa using Ne.symm this
    rw [this, Bool.or_false]
   have e1 : its.filter (fun y => L.getD y.i false) = pfx.filter (fun y => L.getD y.i false) ++ post.filter (fun y => L.getD y.i false) := by
    conv => lhs; rw [e]
    rw [List.filter_append, List.filter_cons, if_neg (by rw [hiti, h0']; simp)]
   have e2 : its.filter (fun y => (L.setIfInBounds i true).getD y.i false) = pfx.filter (fun y => L.getD y.i false) ++ it :: post.filter (fun y => L.getD y.i false) := by
    conv => lhs; rw [e]
    rw [List.filter_append, List.filter_cons, if_pos (by rw [hiti, zYd hiL]; simp), List.filter_congr fun y hy => other y (List.mem_append_left _ hy), List.filter_congr fun y hy => other y (List.mem_append_right _ hy)]
   rw [e1, e2, List.foldl_append, List.foldl_append, List.foldl_cons]
   exact (yH9 fun y hy => by
    obtain ⟨hy1, hy2⟩ := List.mem_filter.1 hy
    exact hcomm y hy1 hy2).symm
  have hC' : zR0 ops fun j => (L.setIfInBounds i true).getD j false := fun j o' hj ho' ed hed hb => by
   dsimp only at hj ⊢
   rw [zYd hiL] at hj
   refine getD_set_true ?_
   rw [Bool.or_eq_true] at hj
   rcases hj with hj | hj
   ·exact hC j o' hj ho' ed hed hb
   ·have : i = j := by simpa using hj
    subst this
    rw [ho] at ho'; cases ho'
    exact hready ed (by simpa using hed) hb
  have hU' : ∃ U : List Nat, U.length ≤ fuel ∧ ∀ j, j < ops.size → (L.setIfInBounds i true).getD j false = false → j ∈ U := by
   obtain ⟨U, hl, hU⟩ := hU
   refine ⟨U.erase i, ?_, fun j hj hb => ?_⟩
   ·rw [List.length_erase_of_mem (hU i hilt h0')]; omega
   ·rw [zYd hiL, Bool.or_eq_false_iff] at hb
    exact (List.mem_erase_of_ne (by have := hb.2; simp at this; exact fun h => this h.symm)).2 (hU j hj hb.1)
  unfold wpOp
  rw [ho]
  dsimp only
  cases hwt : it.wt with
  | true =>
   rw [hwt] at hw
   rw [if_pos hw]
   obtain ⟨hd, hy, _⟩ := hgd.y hwt
   refine .inl (vC.op hE r hd hy fun a' w' r' => ?_)
   exact ih _ _ _ (by simpa using hL) hU' hC' (by rw [yC]; exact r')
  | false =>
   rw [hwt] at hw
   rw [if_neg (by simp [hw])]
   obtain ⟨hv, hu', hdst⟩ := hgd.n hwt
   refine ih _ _ _ (by simpa using hL) hU' hC' ?_
   rw [yC]
   have := r.skip (dst := it.o.dst) fun d hd => (hdst d hd).1
   unfold vG
   rw [hv, hu']
   exact this
theorem yRg (hE : zAh E) (hS : zA9 E.sums) {id : Nat} {st : St} {K : St → Option R} {out : R} {a : Act} {w : World} (hm : E.P.follows .mixedOrders = true) (he : zRm ops = true)
  (h : zN8 E A k pre na nt ops (Region.before ops) (ops.toList.zipIdx.map fun p => (p.2, p.1)) [] st K = some out) (r : vC na nt a0 M0 w0 st a w)
  (hK : ∀ st' a' w', vC na nt a0 M0 w0 st' a' w' → K st' = some out → Q .normal a' w') : (Code.region id ops true).wp E.P Q a w := by
 obtain ⟨its, h1, h2, h3, _, h5⟩ := qLe hE _ _ _ _ _ h
 have hi : its.map (·.i) = List.range ops.size := by
  have := congrArg (List.map Prod.fst) h1
  rw [List.map_map, List.map_map] at this
  refine Eq.trans this ?_
  have e : (Prod.fst ∘ fun p : Oper × Nat => (p.2, p.1)) = Prod.snd := rfl
  rw [e, List.zipIdx_map_snd, ← List.range_eq_range']
  simp
 have hops : ∀ y ∈ its, ops[y.i]? = some y.o := fun y hy => by
  have : (y.i, y.o) ∈ ops.toList.zipIdx.map fun p => (p.2, p.1) := by rw [← h1]; exact List.mem_map.2 ⟨y, hy, rfl⟩
  obtain ⟨p, hp, e⟩ := List.mem_map.1 this
  have := List.mem_zipIdx_iff_getElem?.1 hp
  rw [(Prod.mk.inj e).1, (Prod.mk.inj e).2] at this
  simpa using this
 refine wp_region_any hm (vE9 hE hS he (nt := nt) (na := na) (a0 := a0) (M0 := M0) (w0 := w0) hi hops h3 h5 (fun a w r => hK _ a w r h2) _ _ _ _ (by simp) ⟨List.range ops.size, by simp, fun j hj _ => by simpa using hj⟩ (fun j o hj => ?_) ?_)
 ·exfalso
  by_cases h : j < ops.size <;> simp [Array.getD, h] at hj
 ·rw [List.filter_eq_nil_iff.2 fun y hy => by
   by_cases h : y.i < ops.size <;> simp [Array.getD, h]]
  exact ⟨r.ex, r.defers, r.size, r.os, r.tape, r.output, r.keep⟩
end
def zC.nilObj (M : zC) (nm : Nat) (o : Obj) (sz : Nat) : zC := { M with κ := κset M.κ nm ⟨none, 0, sz, 0, []⟩, h := yC M.h nm o }
def zA2 (t : Ty) (rows : Bool) : Obj := bif rows then .mat 0 [] else .arr true t []
def zBm (t : Ty) (rows : Bool) : Nat := bif rows then 1 else t.size
theorem zC.nilObj_ok {M : zC} (ok : Ok M) {nm : Nat} (hnm : M.h nm = none) (t : Ty) (rows : Bool) :
  Ok (M.nilObj nm (zA2 t rows) (zBm t rows)) ∧ yL M (M.nilObj nm (zA2 t rows) (zBm t rows)) ∧ (∀ b, qQ (M.nilObj nm (zA2 t rows) (zBm t rows)) b → qQ M b) := by
 have hO : ∀ M' : zC, yJ M' (zA2 t rows) ⟨none, 0, zBm t rows, 0, []⟩ := fun M' => by
  cases rows with
  | false => exact ⟨rfl, rfl, fun _ => rfl, rfl⟩
  | true => exact ⟨rfl, rfl, rfl, rfl, by simp [zS.fp], rfl⟩
 have x : yL M (M.nilObj nm (zA2 t rows) (zBm t rows)) := ⟨fun id C h => by
  have hne : id ≠ nm := fun e => by rw [e, ok.non nm hnm] at h; cases h
  exact ⟨C, by show κset M.κ nm _ id = _; rw [κset_ne _ _ hne]; exact h, C.le_refl⟩, fun _ h => h, fun _ h => h, fun _ _ => rfl, fun _ _ => rfl, fun _ _ => rfl⟩
 refine ⟨Ok.build ok x (fun id => id = nm) (fun id h => yN _ _ h) (fun id h => κset_ne _ _ h) (fun _ _ _ _ _ _ _ _ _ => rfl) (fun id o C h1 h2 h3 h4 b hb => (ok.own b ⟨id, o, C, h2, h3, h4, hb⟩).1) (Nat.le_refl _)
  (fun id o e h => ?_) (fun id e h => ?_) (fun id o C b e h1 h2 h3 h4 => ?_) ok.GF ok.Flt, x, fun b hb => ?_⟩
 ·subst e
  have e1 : (M.nilObj id (zA2 t rows) (zBm t rows)).h id = some (zA2 t rows) := yG _ _ _
  rw [e1] at h
  cases h
  exact ⟨_, κset_same _ _ _, hO _⟩
 ·subst e
  have e1 : (M.nilObj id (zA2 t rows) (zBm t rows)).h id = some (zA2 t rows) := yG _ _ _
  rw [e1] at h; cases h
 ·subst e
  have e1 : (M.nilObj id (zA2 t rows) (zBm t rows)).κ id = some _ := κset_same _ _ _
  rw [e1] at h3
  cases h3
  simp [zS.fp] at h4
 ·obtain ⟨id, o, C, h1, h2, h3, h4⟩ := hb
  by_cases e : id = nm
  ·subst e
   have e1 : (M.nilObj id (zA2 t rows) (zBm t rows)).κ id = some _ := κset_same _ _ _
   rw [e1] at h3
   cases h3
   simp [zS.fp] at h4
  ·exact ⟨id, o, C, by rw [← h1]; exact (yN _ _ e).symm, h2, by rw [← h3]; exact (κset_ne _ _ e).symm, h4⟩
theorem zAk.same_mem {M M' : zC} (hF : M'.F = M.F) (hG : M'.G = M.G) (hH : M'.H = M.H) (ho : ∀ b, qQ M' b → qQ M b) : zAk M M' :=
 ⟨fun b h => by rw [hF]; exact h, fun b h => by rw [hG]; exact h, fun _ _ => by rw [hH], fun _ _ => by rw [hH], fun _ _ => by rw [hH], by rw [hH]; exact Nat.le_refl _, fun _ _ _ => by rw [hH], fun b h _ => ho b h,
  fun b h _ => .inl (by rw [hG] at h; exact h), fun b h _ => .inl (by rw [hF] at h; exact h)⟩
theorem zAk.refl (M : zC) : zAk M M := .same_mem rfl rfl rfl fun _ h => h
section
variable {na nt : Nat} {a0 : Nat → Value} {M0 : zC} {w0 w : World} {a : Act}
theorem zQ.set_left {α β : Type} {R : α → β → Prop} {l : List α} {m : List β} (h : zQ R l m) {j : Nat} {c : α} (hc : ∀ (h1 : j < l.length) (h2 : j < m.length), R c m[j]) : zQ R (l.set j c) m := by
 refine zQ.of_get (by rw [List.length_set]; exact h.length) fun i hi hi' => ?_
 rw [List.length_set] at hi
 by_cases e : j = i
 ·subst e
  rw [List.getElem_set_self]
  exact hc hi hi'
 ·rw [List.getElem_set_ne e]
  exact h.get i hi hi'
theorem yPj {st : St} {s : Nat} {j : Option Nat} (r : vC na nt a0 M0 w0 st a w) : vC na nt a0 M0 w0 (qMs st s j) a w := by
 obtain ⟨M, h1, h2, h3, h4, h5⟩ := r.ex
 unfold qMs
 split
 ·split
  ·rename_i c hs
   split
   ·rename_i c' u hf
    have hv := h5 s
    rw [hs] at hv
    rw [← h1] at hf
    obtain ⟨L, k1, k2, k3, k4, k5, _⟩ := zPg h3 (wB.refl _) (show zV M c _ from hv) hf
    refine ⟨⟨L, by rw [k2, h1], k1.trans h2, k3, h4.trans k4.grow, fun t => ?_⟩, r.defers, r.size, r.os, r.tape, r.output, r.keep⟩
    show zX _ (wO st.t s _ t) _
    unfold wO
    cases e : Nat.beq t s with
    | false => exact (h5 t).ext k4.ext
    | true =>
     have e : t = s := by simpa using e
     subst e
     exact k5
   ·exact r
  ·exact r
 ·rename_i j
  split
  ·rename_i id hs
   split
   ·rename_i cells hid
    split
    ·rename_i c qW
     split
     ·rename_i c' u hf
      have hid0 := hid
      rw [← h1] at hf hid
      obtain ⟨C0, hC0, hO0⟩ := h3.obj id _ hid
      obtain ⟨B0, vals0, e0, b10, b20, b30, b40, b50⟩ := hO0
      have hj : j < cells.length := (List.getElem?_eq_some_iff.1 qW).1
      have hjv : j < vals0.toList.length := by rw [← b40.length]; exact hj
      have hcv := b40.get j hj hjv
      have ec : cells[j] = c := (List.getElem?_eq_some_iff.1 qW).2
      rw [ec] at hcv
      obtain ⟨L, k1, k2, k3, k4, k5, k6, _⟩ := zPg h3 (wB.refl _) hcv hf
      have hidL : L.h id = some (.box true cells) := by
       rcases k6 id with h | ⟨own, t, xs, h, _⟩ | ⟨ver, xs, h, _⟩
       ·rw [h, hid]
       ·rw [hid] at h; cases h
       ·rw [hid] at h; cases h
      obtain ⟨C, hC, hO⟩ := k3.obj id _ hidL
      obtain ⟨B, vals, e, b1, b2, b3, b4, b5⟩ := hO
      obtain ⟨C1, hC1, le⟩ := k4.ext.κ id C0 hC0
      rw [hC] at hC1; cases hC1
      have eB : B = B0 := by rw [le.blk, b10] at b1; exact (Option.some.inj b1).symm
      subst eB
      rw [k1, b30] at b3
      cases b3
      have hx := zC.write_ext (H' := L.H) k3 hidL rfl hC C.le_refl (fun _ _ => rfl) (fun _ _ => rfl) (.box true (cells.set j c'))
      have hw := zC.write_ok (H' := L.H) (o' := .box true (cells.set j c')) k3 hidL rfl hC C.le_refl (fun _ h => h) rfl (fun _ _ => rfl) (fun _ _ => rfl) (by
       refine ⟨B, vals0, e0, b1, b2, by show L.H[B]? = _; rw [k1]; exact b30, ?_, fun h => (by cases h)⟩
       exact (b4.mono fun _ _ h => h.ext hx).set_left fun _ _ => k5.ext hx)
      refine ⟨⟨L.write id (.box true (cells.set j c')) C L.H, ?_, k1.trans h2, hw.1, (h4.trans k4.grow).trans hw.2.grow, fun t => ((h5 t).ext k4.ext).ext hx⟩, r.defers, r.size, r.os, r.tape, r.output, r.keep⟩
      show yC L.h id _ = yC (qK st.h u) id _
      rw [k2, h1]
     ·exact r
    ·exact r
   ·exact r
  ·rename_i cells hs
   split
   ·rename_i c qW
    split
    ·rename_i c' u hf
     have hv := h5 s
     rw [hs] at hv
     obtain ⟨vs, hvs, hall⟩ := hv
     rw [← h1] at hf
     have hj : j < cells.length := (List.getElem?_eq_some_iff.1 qW).1
     have hjv : j < vs.toList.length := by rw [← hall.length]; exact hj
     have hcv := hall.get j hj hjv
     have ec : cells[j] = c := (List.getElem?_eq_some_iff.1 qW).2
     rw [ec] at hcv
     obtain ⟨L, k1, k2, k3, k4, k5, k6, _⟩ := zPg h3 (wB.refl _) hcv hf
     refine ⟨⟨L, by rw [k2, h1], k1.trans h2, k3, h4.trans k4.grow, fun t => ?_⟩, r.defers, r.size, r.os, r.tape, r.output, r.keep⟩
     show zX _ (wO st.t s _ t) _
     unfold wO
     cases e : Nat.beq t s with
     | false => exact (h5 t).ext k4.ext
     | true =>
      have e : t = s := by simpa using e
      subst e
      exact ⟨vs, hvs, (hall.mono fun _ _ h => h.ext k4.ext).set_left fun _ _ => k5⟩
    ·exact r
   ·exact r
  ·exact r
theorem yTn {st : St} {nm : Nat} {g : Nat × Option Nat × Ty × Bool} (r : vC na nt a0 M0 w0 st a w) (hnm : st.h nm = none) : vC na nt a0 M0 w0 (qMo st nm g) a w := by
 obtain ⟨M, h1, h2, h3, h4, h5⟩ := r.ex
 have hM : M.h nm = none := by rw [h1]; exact hnm
 obtain ⟨k1, k2, k3⟩ := M.nilObj_ok h3 hM g.2.2.1 g.2.2.2
 have hnil : zV (M.nilObj nm (zA2 g.2.2.1 g.2.2.2) (zBm g.2.2.1 g.2.2.2)) (.osl nm none) (.slice none 0 0) := ⟨_, κset_same _ _ _, none, 0, rfl, rfl, rfl, rfl⟩
 have gr : zAk M0 (M.nilObj nm (zA2 g.2.2.1 g.2.2.2) (zBm g.2.2.1 g.2.2.2)) := h4.trans (.same_mem rfl rfl rfl k3)
 unfold qMo
 cases hmark : g.2.2.2 && qVr g.2.2.1 with
 | true => exact yPj r
 | false =>
 rw [cond_false]
 split
 ·split
  ·rename_i hs
   refine ⟨⟨M.nilObj nm (zA2 g.2.2.1 g.2.2.2) (zBm g.2.2.1 g.2.2.2), ?_, h2, k1, gr, fun t => ?_⟩, r.defers, r.size, r.os, r.tape, r.output, r.keep⟩
   ·show yC M.h nm _ = yC st.h nm _
    rw [h1]; rfl
   ·show zX _ (wO st.t g.1 _ t) _
    unfold wO
    cases e : Nat.beq t g.1 with
    | false => exact (h5 t).ext k2
    | true =>
     have e : t = g.1 := by simpa using e
     subst e
     have hv := h5 g.1
     rw [hs] at hv
     have hv : a.tmps.getD g.1 undef = .slice none 0 0 := hv
     rw [hv]; exact hnil
  ·exact r
 ·rename_i j hj
  split
  ·rename_i id hs
   split
   ·rename_i cells hid
    split
    ·rename_i qW
     have hne : id ≠ nm := fun e => by rw [e, hnm] at hid; cases hid
     let M1 := M.nilObj nm (zA2 g.2.2.1 g.2.2.2) (zBm g.2.2.1 g.2.2.2)
     have hid1 : M1.h id = some (.box true cells) := by
      show yC M.h nm _ id = _
      rw [yN _ _ hne, h1]; exact hid
     obtain ⟨C, hC, hO⟩ := k1.obj id _ hid1
     obtain ⟨B, vals, e, b1, b2, b3, b4, b5⟩ := hO
     have hx := zC.write_ext (H' := M1.H) k1 hid1 rfl hC C.le_refl (fun _ _ => rfl) (fun _ _ => rfl) (.box true (cells.set j (.osl nm none)))
     have hw := zC.write_ok (H' := M1.H) (o' := .box true (cells.set j (.osl nm none))) k1 hid1 rfl hC C.le_refl (fun _ h => h) rfl (fun _ _ => rfl) (fun _ _ => rfl) (by
      refine ⟨B, vals, e, b1, b2, b3, ?_, fun h => (by cases h)⟩
      have hl := b4.length
      refine zQ.of_get (by simpa using hl) fun i hi hi' => ?_
      have hb := b4.get i (by simpa using hi) hi'
      by_cases eij : j = i
      ·subst eij
       rw [List.getElem_set_self]
       have hlt : j < cells.length := by simpa using hi
       have ec : cells[j] = .nsl := by
        rw [List.getElem?_eq_getElem hlt] at qW
        exact Option.some.inj qW
       rw [ec] at hb
       have hb : vals.toList[j] = .slice none 0 0 := hb
       rw [hb]
       exact hnil.ext hx
      ·rw [List.getElem_set_ne eij]
       exact hb.ext hx)
     refine ⟨⟨M1.write id (.box true (cells.set j (.osl nm none))) C M1.H, ?_, h2, hw.1, gr.trans hw.2.grow, fun t => ((h5 t).ext k2).ext hx⟩, r.defers, r.size, r.os, r.tape, r.output, r.keep⟩
     show yC (yC M.h nm _) id _ = yC (yC st.h nm _) id _
     rw [h1]; rfl
    ·exact r
   ·exact r
  ·exact r
theorem yAj : ∀ {l : List (Nat × Option Nat × Ty × Bool)} {st st' : St} {nm : Nat}, vC na nt a0 M0 w0 st a w → zV2 st nm l = some st' → vC na nt a0 M0 w0 st' a w
 | [], st, st', nm, r, h => by cases h; exact r
 | g :: l, st, st', nm, r, h => by
  unfold zV2 at h
  split at h
  ·rename_i hnm
   exact yAj (yTn r hnm) h
  ·cases h
theorem qR3 {id : Nat} : ∀ {l : List Nat} {n i : Nat}, wY id l n = some i → n ≤ i ∧ l[i - n]? = some id
 | [], n, i, h => by cases h
 | x :: l, n, i, h => by
  unfold wY at h
  cases e : Nat.beq x id with
  | true =>
   rw [e] at h
   cases h
   have : x = id := by simpa using e
   exact ⟨Nat.le_refl _, by simp [this]⟩
  | false =>
   rw [e] at h
   obtain ⟨h1, h2⟩ := qR3 (l := l) h
   refine ⟨by omega, ?_⟩
   rw [show i - n = (i - (n + 1)) + 1 by omega, List.getElem?_cons_succ]
   exact h2
theorem qPi {h : Hp} : ∀ (n : Nat) {todo seen : List Nat}, seen.Nodup → (zOg h n todo seen).Nodup
 | 0, _, _, hs => hs
 | n + 1, [], _, hs => hs
 | n + 1, id :: todo, seen, hs => by
  unfold zOg
  cases e : seen.any (Nat.beq id) with
  | true => exact qPi n hs
  | false =>
   refine qPi n (List.nodup_append.2 ⟨hs, by simp, fun x hx y hy exy => ?_⟩)
   have : y = id := by simpa using hy
   subst this
   subst exy
   have := List.any_eq_false.1 e x hx
   simp at this
def zC6 (base : Nat) (κ : Nat → Option zS) (ids : List Nat) : Nat → Option zS := fun n => if base ≤ n then (match ids[n - base]? with
 | some id => (κ id).map fun C => { C with ver := 0 }
 | none => none) else none
def zC.ren (M : zC) (base : Nat) (ids : List Nat) : zC := { M with κ := zC6 base M.κ ids, h := zIl base M.h ids }
theorem vCt {base : Nat} {h : Hp} {ids : List Nat} {n : Nat} {o : Obj} (e : zIl base h ids n = some o) : ∃ id o', base ≤ n ∧ ids[n - base]? = some id ∧ h id = some o' ∧ o = zFx h (fun i => (wY i ids 0).map (base + ·)) o' := by
 unfold zIl at e
 cases hb : Nat.ble base n with
 | false => rw [hb] at e; cases e
 | true =>
  rw [hb] at e
  simp only [cond_true] at e
  split at e
  ·rename_i id hid
   obtain ⟨o', h1, h2⟩ := Option.map_eq_some_iff.1 e
   exact ⟨id, o', Nat.le_of_ble_eq_true hb, hid, h1, h2.symm⟩
  ·cases e
theorem yWv {base : Nat} {κ : Nat → Option zS} {ids : List Nat} {id i : Nat} {C : zS} (hi : wY id ids 0 = some i) (hC : κ id = some C) : zC6 base κ ids (base + i) = some { C with ver := 0 } := by
 obtain ⟨_, h⟩ := qR3 hi
 unfold zC6
 rw [if_pos (by omega), show base + i - base = i by omega]
 rw [Nat.sub_zero] at h
 rw [h]
 simp [hC]
theorem qDl {M : zC} (ok : Ok M) {base : Nat} {ids : List Nat} {c : zH} {v : Value} (h : zV M c v) : zV (M.ren base ids) (zGp M.h (fun i => (wY i ids 0).map (base + ·)) c) v := by
 have h1 := h.one
 have look : ∀ id C, M.κ id = some C → ∀ i, (wY id ids 0).map (base + ·) = some i → (M.ren base ids).κ i = some { C with ver := 0 } := fun id C hC i hi => by
  obtain ⟨j, hj, rfl⟩ := Option.map_eq_some_iff.1 hi
  exact yWv hj hC
 unfold zGp
 cases c with
 | osl id r =>
  dsimp only
  obtain ⟨C, hC, h⟩ := h
  cases e : (wY id ids 0).map (base + ·) with
  | none => exact h1
  | some i => cases r with
   | none => exact ⟨_, look id C hC i e, h⟩
   | some p => exact ⟨_, look id C hC i e, h⟩
 | bsl id x y =>
  dsimp only
  obtain ⟨C, B, hC, h⟩ := h
  cases e : (wY id ids 0).map (base + ·) with
  | none => exact h1
  | some i => exact ⟨_, B, look id C hC i e, h⟩
 | ptr id x =>
  dsimp only
  obtain ⟨C, B, hC, h⟩ := h
  cases e : (wY id ids 0).map (base + ·) with
  | none => exact h1
  | some i => exact ⟨_, B, look id C hC i e, h⟩
 | eptr id x y =>
  dsimp only
  obtain ⟨C, B, hC, h⟩ := h
  cases e : (wY id ids 0).map (base + ·) with
  | none => exact h1
  | some i => exact ⟨_, B, look id C hC i e, h⟩
 | mrow id x ver =>
  dsimp only
  obtain ⟨C, hC, ho, hle, h⟩ := h
  cases e : (wY id ids 0).map (base + ·) with
  | none => exact h1
  | some i =>
   split
   ·rename_i i' v' xs ei hid
    cases ei
    cases hver : Nat.beq v' ver with
    | false => exact h1
    | true =>
     have hv' : v' = ver := by simpa using hver
     obtain ⟨C', hC', hO⟩ := ok.obj id _ hid
     rw [hC] at hC'; cases hC'
     exact ⟨_, look id C hC i e, h1, Nat.le_refl _, fun _ => h (by rw [hO.1, hv'])⟩
   ·exact h1
 | mptr id x =>
  dsimp only
  obtain ⟨C, B, hC, h⟩ := h
  cases e : (wY id ids 0).map (base + ·) with
  | none => exact h1
  | some i => exact ⟨_, B, look id C hC i e, h⟩
 | meptr id x y ver =>
  dsimp only
  obtain ⟨C, hC, ho, hle, h⟩ := h
  cases e : (wY id ids 0).map (base + ·) with
  | none => exact h1
  | some i =>
   split
   ·rename_i i' v' xs ei hid
    cases ei
    cases hver : Nat.beq v' ver with
    | false => exact h1
    | true =>
     have hv' : v' = ver := by simpa using hver
     obtain ⟨C', hC', hO⟩ := ok.obj id _ hid
     rw [hC] at hC'; cases hC'
     exact ⟨_, look id C hC i e, h1, Nat.le_refl _, fun _ => h (by rw [hO.1, hv'])⟩
   ·exact h1
 | map id =>
  dsimp only
  obtain ⟨C, B, hC, h⟩ := h
  cases e : (wY id ids 0).map (base + ·) with
  | none => exact h1
  | some i => exact ⟨_, B, look id C hC i e, h⟩
 | fn f cap =>
  dsimp only
  obtain ⟨cv, rfl, h⟩ := h
  split
  ·rename_i c hc
   refine ⟨cv, rfl, ?_⟩
   have := zSk _ _ _ hc
   generalize cv.toList = l at h
   clear hc h1
   induction cap generalizing c l with
   | nil => cases c with
    | nil => cases l with
     | nil => trivial
     | cons _ _ => exact h.elim
    | cons _ _ => exact this.elim
   | cons x cap ih => cases c with
    | nil => exact this.elim
    | cons y c => cases l with
     | nil => exact h.elim
     | cons u l =>
      obtain ⟨⟨C, B, hC, hh⟩, h⟩ := h
      exact ⟨⟨_, B, look x C hC y this.1, hh⟩, ih c this.2 l h⟩
  ·exact h1
 | fsl sh t xs => exact h
 | fptr sh t x off => exact h
 | _ => exact h
theorem zOt {M : zC} (ok : Ok M) {base : Nat} {ids : List Nat} : ∀ {cs : List zH} {vs : List Value}, zQ (zV M) cs vs → zQ (zV (M.ren base ids)) (cs.map (zGp M.h fun i => (wY i ids 0).map (base + ·))) vs
 | [], [], _ => trivial
 | _ :: _, _ :: _, h => ⟨qDl ok h.1, zOt ok h.2⟩
 | [], _ :: _, h => h.elim
 | _ :: _, [], h => h.elim
theorem vBn {M : zC} (ok : Ok M) {base : Nat} {ids : List Nat} {x : zG} {v : Value} (h : zX M x v) : zX (M.ren base ids) (qQt M.h (fun i => (wY i ids 0).map (base + ·)) x) v := by
 cases x with
 | undef => trivial
 | skp => exact h
 | c x => exact qDl (c := x) ok h
 | agg cs =>
  obtain ⟨vs, h1, h2⟩ := h
  exact ⟨vs, h1, zOt ok h2⟩
 | tup xs =>
  obtain ⟨vs, h1, h2⟩ := h
  refine ⟨vs, h1, zQ.map_left (h2.mono fun p u hp => ?_)⟩
  obtain ⟨b, cs⟩ := p
  cases b with
  | true =>
   obtain ⟨us, q1, q2⟩ := hp
   exact ⟨us, q1, zOt ok q2⟩
  | false =>
   cases cs with
   | nil => exact hp
   | cons c cs => cases cs with
    | nil => exact qDl (c := c) ok hp
    | cons _ _ => exact hp
theorem qZi {M : zC} (ok : Ok M) {base : Nat} {ids : List Nat} {o : Obj} {C : zS} (h : yJ M o C) : yJ (M.ren base ids) (zFx M.h (fun i => (wY i ids 0).map (base + ·)) o) { C with ver := 0 } := by
 cases o with
 | box own cells =>
  obtain ⟨B, vals, e, h1, h2, h3, h4, h5⟩ := h
  exact ⟨B, vals, e, h1, h2, h3, zOt ok h4, h5⟩
 | robox cells =>
  obtain ⟨B, vals, e, h1, h2, h3, h4, h5⟩ := h
  exact ⟨B, vals, e, h1, h2, h3, zOt ok h4, h5⟩
 | arr own t xs => exact h
 | mat ver xs =>
  obtain ⟨h1, h2⟩ := h
  exact ⟨rfl, h2⟩
 | pmat ver xs n =>
  obtain ⟨h1, h2⟩ := h
  exact ⟨rfl, h2⟩
 | imap kvs => exact h
 | gone => trivial
theorem qNj {h : Hp} {ρ : Nat → Option Nat} (o : Obj) : (zFx h ρ o).owned = o.owned := by cases o <;> rfl
theorem zC.ren_ok {M : zC} (ok : Ok M) {base : Nat} {ids : List Nat} (hnd : ids.Nodup) : Ok (M.ren base ids) ∧ ∀ b, qQ (M.ren base ids) b → qQ M b := by
 have at' : ∀ n o, (M.ren base ids).h n = some o → ∃ id o' C, base ≤ n ∧ ids[n - base]? = some id ∧ M.h id = some o' ∧ M.κ id = some C ∧ o = zFx M.h (fun i => (wY i ids 0).map (base + ·)) o' ∧ yJ M o' C ∧ (M.ren base ids).κ n = some { C with ver := 0 } := fun n o h => by
  obtain ⟨id, o', h1, h2, h3, h4⟩ := vCt h
  obtain ⟨C, hC, hO⟩ := ok.obj id _ h3
  refine ⟨id, o', C, h1, h2, h3, hC, h4, hO, ?_⟩
  show zC6 base M.κ ids n = _
  unfold zC6
  rw [if_pos h1, h2]
  simp [hC]
 have own' : ∀ b, qQ (M.ren base ids) b → qQ M b := fun b ⟨n, o, C, h1, h2, h3, h4⟩ => by
  obtain ⟨id, o', C', k1, k2, k3, k4, k5, k6, k7⟩ := at' n o h1
  rw [k7] at h3
  cases h3
  exact ⟨id, o', C', k3, by rw [← h2, k5, qNj], k4, h4⟩
 refine ⟨⟨fun n o h => ?_, fun n h => ?_, fun i j oi oj Ci Cj b hij h1 h2 h3 h4 h5 h6 h7 h8 => ?_, fun b h => ok.own b (own' b h), ok.GF, ok.Flt⟩, own'⟩
 ·obtain ⟨id, o', C, k1, k2, k3, k4, rfl, k6, k7⟩ := at' n o h
  exact ⟨_, k7, qZi ok k6⟩
 ·show zC6 base M.κ ids n = none
  unfold zC6
  split
  ·rename_i hb
   split
   ·rename_i id hid
    have : M.h id = none := by
     cases e : M.h id with
     | none => rfl
     | some o =>
      have : (M.ren base ids).h n = some (zFx M.h (fun i => (wY i ids 0).map (base + ·)) o) := by
       show zIl base M.h ids n = _
       unfold zIl
       rw [show Nat.ble base n = true from Nat.ble_eq_true_of_le hb, hid]
       simp [e]
      rw [this] at h; cases h
    rw [ok.non id this]; rfl
   ·rfl
  ·rfl
 ·obtain ⟨id, o', C, k1, k2, k3, k4, k5, k6, k7⟩ := at' i oi h1
  obtain ⟨jd, p', D, q1, q2, q3, q4, q5, q6, q7⟩ := at' j oj h2
  rw [k7] at h5
  rw [q7] at h6
  cases h5
  cases h6
  refine ok.disj id jd o' p' C D b (fun e => ?_) k3 q3 (by rw [← h3, k5, qNj]) (by rw [← h4, q5, qNj]) k4 q4 h7 h8
  subst e
  have hi := (List.getElem?_eq_some_iff.1 k2)
  have hj := (List.getElem?_eq_some_iff.1 q2)
  have := (List.getElem_inj (h₀ := hi.1) (h₁ := hj.1) hnd).1 (by rw [hi.2, hj.2])
  omega
theorem yHo : ∀ {a b : List Nat}, zVf a b = true → a = b
 | [], [], _ => rfl
 | x :: a, y :: b, h => by
  simp only [zVf, Bool.and_eq_true] at h
  rw [Nat.eq_of_beq_eq_true h.1, yHo h.2]
 | [], _ :: _, h => by cases h
 | _ :: _, [], h => by cases h
theorem vFf {c v : zH} (h : qLx c v = true) : c = .undef ∨ c = v := by
 unfold qLx at h
 split at h
 ·exact .inl rfl
 ·exact .inr rfl
 ·exact .inr rfl
 ·exact .inr rfl
 ·exact .inr rfl
 ·exact .inr (by rw [Nat.eq_of_beq_eq_true h])
 ·simp only [Bool.and_eq_true] at h
  exact .inr (by rw [Nat.eq_of_beq_eq_true h.1.1, Nat.eq_of_beq_eq_true h.1.2, Nat.eq_of_beq_eq_true h.2])
 ·simp only [Bool.and_eq_true] at h
  exact .inr (by rw [Nat.eq_of_beq_eq_true h.1, Nat.eq_of_beq_eq_true h.2])
 ·simp only [Bool.and_eq_true] at h
  exact .inr (by rw [Nat.eq_of_beq_eq_true h.1, yHo h.2])
 ·exact .inr (by rw [Nat.eq_of_beq_eq_true h])
 ·cases h
theorem zE0 {α : Type} {c : Bool} {x : Option α} {y : α} (h : (bif c then x else none) = some y) : c = true ∧ x = some y := by
 cases c with
 | true => exact ⟨rfl, h⟩
 | false => cases h
theorem zFl {M : zC} (ok : Ok M) : ∀ {l : List CS} {cs : List zH} {d : SL l} {vs : List Value}, zAy l cs = some d → zQ (zV M) cs vs → zQ (zV M) (zDg l d) vs
 | [], [], _, [], _, _ => trivial
 | .int k :: l, c :: cs, d, v :: vs, h, hv => by
  cases c <;> first | (cases h; done) | skip
  unfold zAy at h
  obtain ⟨hk, h⟩ := zE0 h
  split at h
  ·rename_i d' hd
   cases h
   refine ⟨?_, zFl ok hd hv.2⟩
   rw [← zFh hk]; exact hv.1
  ·cases h
 | .bool :: l, c :: cs, d, v :: vs, h, hv => by
  cases c <;> first | (cases h; done) | skip
  unfold zAy at h
  split at h
  ·rename_i d' hd
   cases h
   exact ⟨hv.1, zFl ok hd hv.2⟩
  ·cases h
 | .dat sh t :: l, c :: cs, d, v :: vs, h, hv => by
  cases c <;> first | (cases h; done) | skip
  ·rename_i sh' s xs
   unfold zAy at h
   obtain ⟨hs, h⟩ := zE0 h
   split at h
   ·rename_i ys d' hx hd
    cases h
    obtain ⟨e, hx⟩ := zBe hx
    subst e
    subst hx
    refine ⟨?_, zFl ok hd hv.2⟩
    have h1 : qB M.H (bif sh' then M.G else M.F) (.sl s) xs (fun _ => some v) := hv.1
    cases sh with
    | true =>
     have : sh' = true := by simpa using hs
     subst this
     exact h1
    | false => cases sh' with
     | false => exact h1
     | true => exact yH ok.GF (fun _ _ => rfl) _ _ _ _ (fun _ _ => rfl) h1
   ·cases h
  ·unfold zAy at h
   split at h
   ·rename_i d' hd
    cases h
    refine ⟨?_, zFl ok hd hv.2⟩
    rw [show v = .slice none 0 0 from hv.1]
    exact ⟨none, 0, 0, rfl, rfl, Nat.le_refl _, .inl ⟨rfl, fun _ => rfl⟩⟩
   ·cases h
 | .lit c :: l, x :: cs, d, v :: vs, h, hv => by
  unfold zAy at h
  obtain ⟨he, h⟩ := zE0 h
  refine ⟨?_, zFl ok h hv.2⟩
  rcases vFf he with rfl | rfl
  ·exact hv.1.one
  ·exact hv.1
 | [], _ :: _, _, _, h, _ => by cases h
 | .int _ :: _, [], _, _, h, _ => by cases h
 | .bool :: _, [], _, _, h, _ => by cases h
 | .dat _ _ :: _, [], _, _, h, _ => by cases h
 | .lit _ :: _, [], _, _, h, _ => by cases h
 | [], [], _, _ :: _, _, hv => hv.elim
 | _ :: _, _ :: _, _, [], _, hv => hv.elim
theorem yY2 {M : zC} (ok : Ok M) {v : VS} {a : zG} {d : SL v.cells} {rv : Value} (h : qGi v a = some d) (hv : zX M a rv) : zX M (qN8 v d) rv := by
 cases v with
 | c x =>
  cases a with
  | c y =>
   have := zFl ok (vs := [rv]) (show zAy [x] [y] = some d from h) ⟨hv, trivial⟩
   show zX M (match zDg [x] d with | c :: _ => .c c | [] => .undef) rv
   match hh : zDg [x] d, this with
   | [c], this => exact this.1
  | _ => cases h
 | agg l =>
  cases a with
  | agg vs =>
   obtain ⟨us, rfl, hx⟩ := hv
   exact ⟨us, rfl, zFl ok (show zAy l vs = some d from h) hx⟩
  | _ => cases h
theorem yUn {M : zC} (ok : Ok M) {o : OS} {x : Obj} {d : o.den} {C : zS} (h : zVo o x = some d) (hO : yJ M x C) (hv : C.ver = 0) : yJ M (zXy o d) C ∧ (zXy o d).owned = x.owned := by
 unfold zVo at h
 split at h
 ·obtain ⟨he, h'⟩ := zE0 h
  have he := eq_of_beq he
  subst he
  clear h
  obtain ⟨B, vals, e, h1, h2, h3, h4, h5⟩ := hO
  exact ⟨⟨B, vals, e, h1, h2, h3, zFl ok h' h4, h5⟩, rfl⟩
 ·obtain ⟨B, vals, e, h1, h2, h3, h4, h5⟩ := hO
  exact ⟨⟨B, vals, e, h1, h2, h3, zFl ok h h4, h5⟩, rfl⟩
 ·obtain ⟨he, h'⟩ := zE0 h
  have he := eq_of_beq he
  subst he
  clear h
  obtain ⟨e, hx⟩ := zBe h'
  subst e
  subst hx
  exact ⟨hO, rfl⟩
 ·cases h
  exact ⟨⟨hv, hO.2⟩, rfl⟩
 ·cases h
  exact ⟨⟨hv, hO.2⟩, rfl⟩
 ·cases h
  exact ⟨hO, rfl⟩
 ·cases h
theorem yCb {f : zG → zG} {t : Nat → zG} : ∀ {l : List (Nat × VS)} {d : SV l} {n : Nat} {v : zG}, zY9 f t l = some d → (zLt l d).lookup n = some v → ∃ (s : VS) (x : SL s.cells), qGi s (f (t n)) = some x ∧ v = qN8 s x
 | [], d, n, v, _, h => by cases h
 | s :: l, d, n, v, hr, h => by
  unfold zY9 at hr
  split at hr
  ·rename_i x ds h1 h2
   cases hr
   unfold zLt at h
   rw [List.lookup_cons] at h
   cases e : n == s.1 with
   | true =>
    rw [e] at h
    cases h
    have : n = s.1 := by simpa using e
    rw [this]
    exact ⟨s.2, x, h1, rfl⟩
   | false =>
    rw [e] at h
    exact yCb h2 h
  ·cases hr
theorem yG8 {f : Obj → Obj} {h0 : Hp} : ∀ {l : List OS} {ids : List Nat} {d : OL l}, zWk f h0 l ids = some d → (zDo l d).length = ids.length ∧ ∀ (i : Nat) (o : Obj), (zDo l d)[i]? = some o → ∃ (s : OS) (x : s.den) (id : Nat) (y : Obj), ids[i]? = some id ∧ h0 id = some y ∧ zVo s (f y) = some x ∧ o = zXy s x
 | [], [], d, _ => ⟨rfl, fun i o h => by simp [zDo] at h⟩
 | s :: l, id :: ids, d, h => by
  unfold zWk at h
  split at h
  ·rename_i x ds h1 h2
   cases h
   obtain ⟨y, h3, h4⟩ := Option.bind_eq_some_iff.1 h1
   obtain ⟨k1, k2⟩ := yG8 h2
   refine ⟨by simp [zDo, k1], fun i o hi => ?_⟩
   cases i with
   | zero =>
    simp only [zDo, List.getElem?_cons_zero, Option.some.injEq] at hi
    exact ⟨s, x, id, y, rfl, h3, h4, hi.symm⟩
   | succ i =>
    simp only [zDo, List.getElem?_cons_succ] at hi
    exact k2 i o hi
  ·cases h
 | [], _ :: _, _, h => by cases h
 | _ :: _, [], _, h => by cases h
theorem yRh {g0 base n : Nat} {S : zF} {st : St} {d : S.den} (r : vC na nt a0 M0 w0 st a w) (h : qD5 g0 base n S st = some d) : vC na nt a0 M0 w0 (zT base S d) a w := by
 unfold qD5 at h
 split at h
 ·cases h
 rename_i st1 hg
 have r := yAj r hg
 dsimp only at h
 generalize hids : zOg st1.h n _ [] = ids at h
 have hnd : ids.Nodup := by rw [← hids]; exact qPi n List.nodup_nil
 split at h
 case h_2 => cases h
 rename_i da db ha hb
 cases h
 obtain ⟨M, h1, h2, h3, h4, h5⟩ := r.ex
 rw [← h1] at ha hb
 obtain ⟨k1, k2⟩ := M.ren_ok h3 (base := base) hnd
 obtain ⟨ol, oa⟩ := yG8 hb
 let M' : zC := { M.ren base ids with h := (zT base S (da, db)).h }
 have hM' : ∀ n o', M'.h n = some o' → ∃ o C, (M.ren base ids).h n = some o ∧ M'.κ n = some C ∧ yJ (M.ren base ids) o' C ∧ o'.owned = o.owned := fun m o' e => by
  have e : (bif Nat.ble base m then (zDo S.objs db)[m - base]? else none) = some o' := e
  obtain ⟨hle, e⟩ := zE0 e
  obtain ⟨s, x, id, y, q1, q2, q3, rfl⟩ := oa _ _ e
  obtain ⟨C, hC, hO⟩ := h3.obj id y q2
  have hκ : (M.ren base ids).κ m = some { C with ver := 0 } := by
   show zC6 base M.κ ids m = _
   unfold zC6
   rw [if_pos (Nat.le_of_ble_eq_true hle), q1]
   simp [hC]
  have hh : (M.ren base ids).h m = some (zFx M.h (fun i => (wY i ids 0).map (base + ·)) y) := by
   show zIl base M.h ids m = _
   unfold zIl
   rw [hle, q1]
   simp [q2]
  obtain ⟨p1, p2⟩ := yUn k1 q3 (qZi h3 hO) rfl
  exact ⟨_, _, hh, hκ, p1, p2⟩
 have x : yL (M.ren base ids) M' := ⟨fun _ C h => ⟨C, h, C.le_refl⟩, fun _ h => h, fun _ h => h, fun _ _ => rfl, fun _ _ => rfl, fun _ _ => rfl⟩
 have hown : ∀ b, qQ M' b → qQ (M.ren base ids) b := fun b ⟨id, o', C, q1, q2, q3, q4⟩ => by
  obtain ⟨o, D, p1, p2, p3, p4⟩ := hM' id o' q1
  exact ⟨id, o, C, p1, by rw [← p4]; exact q2, q3, q4⟩
 have ok' : Ok M' := by
  refine ⟨fun id o' q => ?_, fun id q => ?_, fun i j oi oj Ci Cj b hij q1 q2 q3 q4 q5 q6 q7 q8 => ?_, fun b hb => k1.own b (hown b hb), k1.GF, k1.Flt⟩
  ·obtain ⟨o, C, p1, p2, p3, p4⟩ := hM' id o' q
   exact ⟨C, p2, p3.ext x fun _ _ _ => rfl⟩
  ·have q : (bif Nat.ble base id then (zDo S.objs db)[id - base]? else none) = none := q
   show zC6 base M.κ ids id = none
   unfold zC6
   cases hle : Nat.ble base id with
   | false => rw [if_neg fun h => by rw [Nat.ble_eq_true_of_le h] at hle; cases hle]
   | true =>
    rw [hle] at q
    have q : (zDo S.objs db)[id - base]? = none := q
    rw [List.getElem?_eq_none_iff, ol] at q
    rw [List.getElem?_eq_none q]
    split <;> rfl
  ·obtain ⟨o1, C1, p1, p2, p3, p4⟩ := hM' i oi q1
   obtain ⟨o2, C2, p5, p6, p7, p8⟩ := hM' j oj q2
   exact k1.disj i j o1 o2 Ci Cj b hij p1 p5 (by rw [← p4]; exact q3) (by rw [← p8]; exact q4) q5 q6 q7 q8
 refine ⟨⟨M', rfl, h2, ok', h4.trans (.same_mem rfl rfl rfl fun b hb => k2 b (hown b hb)), fun m => ?_⟩, r.defers, r.size, r.os, r.tape, r.output, r.keep⟩
 show zX M' (match (zLt S.slots da).lookup m with | some v => v | none => .undef) _
 cases hl : (zLt S.slots da).lookup m with
 | none => trivial
 | some v =>
  obtain ⟨s, y, q1, rfl⟩ := yCb ha hl
  exact (yY2 k1 q1 (vBn h3 (h5 m))).ext x
theorem zYn {pre : Nat} {S : zF} {st : St} {d : S.den} (r : vC na nt a0 M0 w0 st a w) (h : zK3 pre S st = some d) : vC na nt a0 M0 w0 (zT (pre + zAi) S d) a w := yRh r h
end
def Ex.toExit : Ex → Exit
 | .normal => .normal
 | .ret => .ret
 | .exit id => .exit id
theorem yPa {P : Program} {Q : Exit → Act → World → Prop} {c : Code} (I : Nat → Act → World → Prop) (round : ∀ n a w, I n a w → c.wp P (Exit.then (fun a' w' => ∃ m, m < n ∧ I m a' w') Q) a w) {n : Nat} {a : Act} {w : World} (h₀ : I n a w) : (Code.loop c).wp P Q a w := by
 intro b k cs
 have key : ∀ n a w, I n a w → ∃ e a' w', Q e a' w' ∧ Arrives P (lone (b.at a (.code c :: .inLoop c :: k)) cs w) b k cs e a' w' := by
  intro n
  induction n using Nat.strongRecOn with
  | _ n ih =>
   intro a w hI
   obtain ⟨e, a₁, w₁, hq, harr⟩ := round n a w hI b (.inLoop c :: k) cs
   cases e with
   | normal =>
    obtain ⟨m, hm, hI₁⟩ := hq
    obtain ⟨e₂, a₂, w₂, hq₂, harr₂⟩ := ih m hm a₁ w₁ hI₁
    exact ⟨e₂, a₂, w₂, hq₂, .of_steps (Steps.trans harr (.one step_inLoop)) harr₂⟩
   | exit id => exact ⟨_, a₁, w₁, hq, .pass (x := .inLoop c) rfl (fun _ _ => .inl (by simp)) harr⟩
   | goto l => exact ⟨_, a₁, w₁, hq, .pass (x := .inLoop c) rfl (fun _ _ => .inl (by simp)) harr⟩
   | ret => exact ⟨_, a₁, w₁, hq, .pass (x := .inLoop c) rfl (fun _ _ => .inl (by simp)) harr⟩
   | panic ch => exact ⟨_, a₁, w₁, hq, .pass (x := .inLoop c) rfl (fun _ _ => .inl (by simp)) harr⟩
   | outgrown => exact ⟨_, a₁, w₁, hq, .pass (x := .inLoop c) rfl (fun _ _ => .inl (by simp)) harr⟩
 obtain ⟨e, a', w', hq, harr⟩ := key n a w h₀
 exact ⟨e, a', w', hq, .of_steps (.one step_loop) harr⟩
def zXk (tmps : Array Value) : ResultVar → Sem Value
 | .tmp t => pure (tmps.getD t undef)
 | .cell c t => do loadVar t (← asAddr (tmps.getD c undef))
def zHc (base : Nat) : (l : List (Ex × zF)) → zCn l → Ex × St
 | [], d => (.normal, ⟨fun _ => .undef, fun _ => none⟩)
 | [p], d => (p.1, zT base p.2 d)
 | p :: q :: l, d => match d with
  | .inl d => (p.1, zT base p.2 d)
  | .inr d => zHc base (q :: l) d
theorem qSw {R : Type} {base : Nat} {K : Ex → St → Option R} {out : R} : ∀ {l : List (Ex × zF)} {d : zCn l}, zJ4 base l d K = some out → K (zHc base l d).1 (zHc base l d).2 = some out
 | [], _, h => by cases h
 | [p], _, h => h
 | p :: q :: l, .inl d, h => h
 | p :: q :: l, .inr d, h => qSw (l := q :: l) h
def qE (P : Program) (pre na nt : Nat) (b : Code) (L : qG) : Prop := ∀ k d x, L.sum k d = some x → ∀ (a0 : Nat → Value) (M0 : zC) (w0 : World) (a : Act) (w : World) (Q : Exit → Act → World → Prop),
 vC na nt a0 M0 w0 (zT (pre + zAi) L.inS d) a w →
 (∀ (o : zCn L.outs) a' w', (∀ R K, L.elim (pre + zAi) x R K = zJ4 (pre + zAi) L.outs o K) → vC na nt a0 M0 w0 (zHc (pre + zAi) L.outs o).2 a' w' → Q (zHc (pre + zAi) L.outs o).1.toExit a' w') →
 (Code.loop b).wp P Q a w
def wN (P : Program) (A : qA) (pre na nt : Nat) : Code → Prop
 | .seq a b => wN P A pre na nt a ∧ wN P A pre na nt b
 | .cond _ a b => wN P A pre na nt a ∧ wN P A pre na nt b
 | .block _ b => wN P A pre na nt b
 | .loop b => ∀ L, zO2 A b = some L → qE P pre na nt b L
 | _ => True
theorem yC5 {A : qA} {c : Operand} {b : Bool} {st : St} (h : st.ev c = .c (.bool b)) : zTy A c b st = st := by
 unfold zTy
 split
 ·rename_i s _
  have h : st.t s = .c (.bool b) := h
  rw [qPw h]
 ·rfl
section
variable {E : qC} {A : qA} {k pre na nt : Nat} {a0 : Nat → Value} {R : Type} {M0 : zC} {w0 : World} {out : R}
theorem yMz (hE : zAh E) (hS : zA9 E.sums) (hm : E.P.follows .mixedOrders = true) : ∀ (c : Code), wN E.P A pre na nt c → ∀ (st : St) (K : Ex → St → Option R) (a : Act) (w : World) (Q : Exit → Act → World → Prop), evC E A k pre na nt c st K = some out → vC na nt a0 M0 w0 st a w →
  (∀ e st' a' w', vC na nt a0 M0 w0 st' a' w' → K e st' = some out → Q e.toExit a' w') → c.wp E.P Q a w := by
 intro c
 induction c with
 | skip => exact fun _ st K a w Q h r hK => wp_skip (hK .normal st a w r h)
 | region id ops draw =>
  intro _ st K a w Q h r hK
  cases draw with
  | true =>
   cases he : zRm ops with
   | false => simp only [evC, he] at h; cases h
   | true =>
    simp only [evC, he] at h
    exact yRg hE hS hm he h r fun st' a' w' r' h' => hK .normal st' a' w' r' h'
  | false =>
   simp only [evC] at h
   have := qVm hE (Q := Q) _ _ _ _ a w (fun p hp => by
    obtain ⟨q, hq, rfl⟩ := List.mem_map.1 hp
    have := List.mem_zipIdx_iff_getElem?.1 hq
    simpa using this) h r fun st' a' w' r' h' => hK .normal st' a' w' r' h'
   refine wp_region ?_
   have e : (ops.toList.zipIdx.map fun p => (p.2, p.1)).map (·.1) = List.range ops.size := by
    rw [List.map_map]
    have e : (Prod.fst ∘ fun p : Oper × Nat => (p.2, p.1)) = Prod.snd := rfl
    have e2 : ((fun x : Nat × Oper => x.1) ∘ fun p : Oper × Nat => (p.2, p.1)) = Prod.snd := rfl
    rw [e2, List.zipIdx_map_snd, ← List.range_eq_range']
    simp
   rw [e] at this
   exact this
 | seq x y ihx ihy =>
  intro hL st K a w Q h r hK
  simp only [evC] at h
  refine wp_seq (ihx hL.1 st _ a w _ h r fun e st' a' w' r' h' => ?_)
  cases e with
  | normal => exact ihy hL.2 st' K a' w' Q h' r' hK
  | ret => exact hK .ret st' a' w' r' h'
  | exit id => exact hK (.exit id) st' a' w' r' h'
 | cond c x y ihx ihy =>
  intro hL st K a w Q h r hK
  simp only [evC] at h
  split at h
  ·rename_i t ht
   obtain ⟨M, _, _, _, _, hv⟩ := r.ex
   have hc := qS3 hv c
   rw [ht] at hc
   refine wp_cond (t := t) hc ?_
   cases t with
   | true =>
    rw [yC5 ht, cond_true] at h
    exact ihx hL.1 st K a w Q h r hK
   | false =>
    rw [yC5 ht, cond_false] at h
    exact ihy hL.2 st K a w Q h r hK
  ·cases h
 | block id b ih =>
  intro hL st K a w Q h r hK
  simp only [evC] at h
  refine wp_block (ih hL st _ a w _ h r fun e st' a' w' r' h' => ?_)
  cases e with
  | normal => exact hK .normal st' a' w' r' h'
  | ret => exact hK .ret st' a' w' r' h'
  | exit i =>
   show if i = id then Q .normal a' w' else Q (.exit i) a' w'
   dsimp only at h'
   cases e : Nat.beq i id with
   | true =>
    rw [e] at h'
    rw [if_pos (by simpa using e)]
    exact hK .normal st' a' w' r' h'
   | false =>
    rw [e] at h'
    rw [if_neg (fun e' => by subst e'; simp at e)]
    exact hK (.exit i) st' a' w' r' h'
 | loop b ih =>
  intro hL st K a w Q h r hK
  simp only [evC] at h
  split at h
  ·cases h
  ·rename_i L hN
   split at h
   ·cases h
   ·rename_i d hd
    obtain ⟨x, hx, h⟩ := Option.bind_eq_some_iff.1 h
    exact hL L hN k d x hx a0 M0 w0 a w Q (zYn r hd) fun o a' w' ho r' => hK _ _ a' w' r' (qSw (by rw [← ho]; exact h))
 | exit id => exact fun _ st K a w Q h r hK => wp_exit (hK (.exit id) st a w r h)
 | ret => exact fun _ st K a w Q h r hK => wp_ret (hK .ret st a w r h)
 | _ => intro _ st K a w Q h; simp only [evC] at h; cases h
theorem qYu {a b : Ex} (h : zXz a b = true) : a = b := by
 cases a <;> cases b <;> first | rfl | (cases h; done) | skip
 rw [Nat.eq_of_beq_eq_true h]
theorem yO3 {a : Act} {w : World} {st : St} {e : Ex} (r : vC na nt a0 M0 w0 st a w) : ∀ {l : List (Ex × zF)} {x : zCn l}, zO4 pre l e st = some x → (zHc (pre + zAi) l x).1 = e ∧ vC na nt a0 M0 w0 (zHc (pre + zAi) l x).2 a w
 | [], _, h => by cases h
 | [p], x, h => by
  obtain ⟨he, h⟩ := zE0 h
  exact ⟨qYu he, zYn r h⟩
 | p :: q :: l, x, h => by
  unfold zO4 at h
  cases he : zXz p.1 e with
  | true =>
   rw [he] at h
   simp only [cond_true] at h
   split at h
   ·rename_i d hd
    cases h
    exact ⟨qYu he, zYn r hd⟩
   ·cases h
  | false =>
   rw [he] at h
   simp only [cond_false] at h
   split at h
   ·rename_i d hd
    cases h
    exact yO3 r (l := q :: l) hd
   ·cases h
theorem yVf (hE : zAh E) (hS : zA9 E.sums) (hm : E.P.follows .mixedOrders = true) {b : Code} {inS : zF} {outs : List (Ex × zF)} (hL : wN E.P A pre na nt b) {X : Type} (toX : zCn outs → X) (elim : Nat → X → (R : Type) → (Ex → St → Option R) → Option R) (hX : ∀ o R K, elim (pre + zAi) (toX o) R K = zJ4 (pre + zAi) outs o K)
  (rec : Nat → Nat → inS.den → Option X) (h0 : ∀ k d, rec k 0 d = none)
  (hstep : ∀ k n d, rec k (n + 1) d = evC E A k pre na nt b (zT (pre + zAi) inS d) (yKy pre inS outs toX (rec k n))) : qE E.P pre na nt b ⟨inS, outs, X, fun k d => rec k k d, elim⟩ := by
 intro k d x hx a0 M0 w0 a w Q r hQ
 refine yPa (fun n a w => ∃ d, vC na nt a0 M0 w0 (zT (pre + zAi) inS d) a w ∧ rec k n d = some x) (fun n a w ⟨d, r, hi⟩ => ?_) ⟨d, r, hx⟩
 cases n with
 | zero => rw [h0] at hi; cases hi
 | succ n =>
  rw [hstep k n d] at hi
  refine yMz hE hS hm b hL _ _ a w _ hi r fun e st' a' w' r' h' => ?_
  have out : ∀ e, (match zO4 pre outs e st' with | some o => some (toX o) | none => none) = some x → Q e.toExit a' w' := fun e h' => by
   split at h'
   ·rename_i o ho
    cases h'
    obtain ⟨h1, h2⟩ := yO3 (pre := pre) r' ho
    have := hQ o a' w' (fun R K => hX o R K) h2
    rw [h1] at this
    exact this
   ·cases h'
  cases e with
  | normal =>
   have h' : (match zK3 pre inS st' with | some d => rec k n d | none => none) = some x := h'
   split at h'
   ·rename_i d' hd
    exact ⟨n, Nat.lt_succ_self n, d', zYn r' hd, h'⟩
   ·cases h'
  | ret => exact out .ret h'
  | exit id => exact out (.exit id) h'
theorem vC2 (fn : Func) (tmps : Array Value) : results fn tmps = (do let vs ← fn.results.mapM (zXk tmps); pure (if h : vs.size = 1 then vs[0] else .tuple vs)) := rfl
theorem vJu (hE : zAh E) (hS : zA9 E.sums) (hm : E.P.follows .mixedOrders = true) {st : St} {a : Act} {w : World} {x : ResultVar} {v : zG} {M : zC} (hM : M.h = st.h) (hH : M.H = w.heap) (ok : Ok M) (ht : ∀ t, zX M (st.t t) (a.tmps.getD t undef)) (h : zGo E st x = some v) :
  ∃ rv, (zXk a.tmps x).run E.P w = .ok rv w ∧ zX M v rv := by
 unfold zGo at h
 split at h
 ·rename_i t
  cases h
  exact ⟨_, rfl, ht t⟩
 ·rename_i c t
  split at h
  ·rename_i id off hc
   split at h
   ·rename_i own cells hid
    split at h
    ·rename_i vs hcut
     have hv := ht c
     rw [hc] at hv
     obtain ⟨C, B, hC, hB, e⟩ := hv
     obtain ⟨C', hC', hO⟩ := ok.obj id _ (by rw [hM]; exact hid)
     rw [hC] at hC'; cases hC'
     obtain ⟨B', hB', hcells⟩ := yBh hO
     rw [hB] at hB'; cases hB'
     obtain ⟨rv2, hrun, hrep⟩ : ∃ rv, (loadVar t ⟨B, 0 + off, none⟩).run E.P w = .ok rv w ∧ zX M v rv := yH8 ok hH hcells hcut h
     refine ⟨rv2, ?_, hrep⟩
     simp only [Nat.zero_add] at hrun
     unfold zXk
     dsimp only
     rw [e]
     simp [asAddr, hrun]
    ·cases h
   ·cases h
  ·cases h
theorem yWf {M : zC} {v : zG} {p : Bool × List zH} {rv : Value} (h : zJm v = some p) (hv : zX M v rv) : zEq M p rv := by
 unfold zJm at h
 split at h
 ·cases h; exact hv
 ·cases h; exact hv
 ·cases h
theorem yGh {M : zC} : ∀ {vs : List zG} {xs : List (Bool × List zH)} {rs : List Value}, zQ (fun a b => zJm a = some b) vs xs → zQ (zX M) vs rs → zQ (zEq M) xs rs
 | [], [], [], _, _ => trivial
 | _ :: _, _ :: _, _ :: _, h, k => ⟨yWf h.1 k.1, yGh h.2 k.2⟩
 | [], [], _ :: _, _, k => k.elim
 | [], _ :: _, _, h, _ => h.elim
 | _ :: _, [], _, h, _ => h.elim
 | _ :: _, _ :: _, [], _, k => k.elim
theorem yKd {st : St} : ∀ (l : List ResultVar) (xs : List (Bool × List zH)), l.mapM (fun r => (zGo E st r).bind zJm) = some xs → ∃ vs, l.mapM (zGo E st) = some vs ∧ vs.mapM zJm = some xs
 | [], xs, h => by simp at h; subst h; exact ⟨[], rfl, rfl⟩
 | x :: l, xs, h => by
  simp only [List.mapM_cons, Option.bind_eq_bind, Option.bind_eq_some_iff] at h
  obtain ⟨p, ⟨v, h1, h2⟩, ps, h3, h4⟩ := h
  cases h4
  obtain ⟨vs, k1, k2⟩ := yKd l ps h3
  exact ⟨v :: vs, by simp [List.mapM_cons, h1, k1], by simp [List.mapM_cons, h2, k2]⟩
theorem vAo (hE : zAh E) (hS : zA9 E.sums) (hm : E.P.follows .mixedOrders = true) {fn : Func} {st : St} {a : Act} {w : World} {v : zG} {M : zC} (hM : M.h = st.h) (hH : M.H = w.heap) (ok : Ok M) (ht : ∀ t, zX M (st.t t) (a.tmps.getD t undef)) (h : zUz E fn st = some v) :
  ∃ rv, (results fn a.tmps).run E.P w = .ok rv w ∧ zX M v rv := by
 have one := fun x v => vJu hE hS hm (x := x) (v := v) hM hH ok ht
 have key : ∀ (l : List ResultVar) (vs : List zG), l.mapM (zGo E st) = some vs → ∃ rs : List Value, (l.mapM (zXk a.tmps)).run E.P w = .ok rs w ∧ zQ (zX M) vs rs := by
  intro l
  induction l with
  | nil => exact fun vs h => by simp at h; subst h; exact ⟨[], rfl, trivial⟩
  | cons x l ih =>
   intro vs h
   simp only [List.mapM_cons, Option.bind_eq_bind, Option.bind_eq_some_iff] at h
   obtain ⟨v, h1, vs', h2, h3⟩ := h
   cases h3
   obtain ⟨rv, k1, k2⟩ := one x v h1
   obtain ⟨rs, k3, k4⟩ := ih vs' h2
   refine ⟨rv :: rs, ?_, k2, k4⟩
   rw [List.mapM_cons]
   simp only [Sem.run_bind, k1, Result.andThen_ok, k3, Sem.run_pure]
 have run : ∀ (vs : List zG), fn.results.toList.mapM (zGo E st) = some vs → ∃ rs : List Value, (results fn a.tmps).run E.P w = .ok (if h : rs.length = 1 then rs[0] else .tuple rs.toArray) w ∧ zQ (zX M) vs rs := fun vs h => by
  obtain ⟨rs, k1, k2⟩ := key _ vs h
  refine ⟨rs, ?_, k2⟩
  rw [vC2, Array.mapM_eq_mapM_toList]
  simp only [Sem.run_map, Sem.run_bind, k1, Result.andThen_ok, Sem.run_pure]
  congr 1
 unfold zUz at h
 split at h
 ·rename_i hl
  cases h
  obtain ⟨rs, k1, k2⟩ := run [] (by rw [hl]; rfl)
  cases rs with
  | cons _ _ => exact k2.elim
  | nil => exact ⟨_, k1, #[], rfl, trivial⟩
 ·rename_i x hl
  obtain ⟨rs, k1, k2⟩ := run [v] (by rw [hl]; simp [h])
  match rs, k2 with
  | [r], k2 => exact ⟨_, k1, k2.1⟩
 ·rename_i h0 h1
  split at h
  ·rename_i xs hxs
   cases h
   obtain ⟨vs, k1, k2⟩ := yKd _ _ hxs
   obtain ⟨rs, r1, r2⟩ := run vs k1
   have hlen : rs.length ≠ 1 := fun e => by
    have e1 := r2.length
    have e2 := (zSk _ _ _ k1).length
    have h3 : fn.results.toList.length = 1 := by omega
    match hl : fn.results.toList, h3 with
    | [x], _ => exact h1 x hl
   rw [dif_neg hlen] at r1
   exact ⟨_, r1, rs.toArray, rfl, yGh (zSk _ _ _ k2) r2⟩
  ·cases h
theorem qLs (hE : zAh E) (hS : zA9 E.sums) (hm : E.P.follows .mixedOrders = true) {f : FuncId} {fn : Func} (hf : E.P.funcs[f]? = some fn) (hL : ∀ c, fn.body = some c → wN E.P A pre na fn.ntmps c) {args : List zG} {h : Hp} {K : zG → St → Option R} (hev : evF E A k pre na fn args h K = some out) {M : zC} {w : World} {vs : Array Value} (hh : M.h = h) (hH : M.H = w.heap) (ok : Ok M)
  (hv : zQ (zX M) args vs.toList) : Calls E.P f vs w fun
   | .returned rv, w' => ∃ (M' : zC) (v : zG) (st : St), K v st = some out ∧ M'.h = st.h ∧ M'.H = w'.heap ∧ Ok M' ∧ zAk M M' ∧ zX M' v rv ∧ w'.os = w.os ∧ w'.tape = w.tape ∧ w'.output = w.output ∧
     (∀ t, t < na → zX M' (st.t t) (vs.getD t undef))
   | _, _ => False := by
 unfold evF at hev
 cases hb : fn.body with
 | none => rw [hb] at hev; cases hev
 | some c =>
  rw [hb] at hev
  dsimp only at hev
  cases hle : Nat.ble args.length fn.ntmps with
  | false => rw [hle] at hev; cases hev
  | true =>
   rw [hle] at hev
   rw [cond_true] at hev
   have hl := hv.length
   have hle : args.length ≤ fn.ntmps := Nat.le_of_ble_eq_true hle
   have hsz : vs.size ≤ fn.ntmps := by simp at hl; omega
   have hslot : ∀ t, zX M (qAq args t) ((vs ++ Array.replicate (fn.ntmps - vs.size) undef).getD t undef) := fun t => by
    unfold qAq
    by_cases ht : t < args.length
    ·have ht' : t < vs.size := by simp at hl; omega
     have := hv.get t ht (by simpa using ht')
     simp only [List.getD_eq_getElem?_getD, List.getElem?_eq_getElem ht, Option.getD_some]
     simp only [Array.getD_eq_getD_getElem?, Array.getElem?_append_left ht', Array.getElem?_eq_getElem ht', Option.getD_some]
     simpa using this
    ·have ht' : ¬ t < vs.size := by simp at hl; omega
     simp only [List.getD_eq_getElem?_getD, List.getElem?_eq_none (Nat.not_lt.1 ht), Option.getD_none]
     show _ = undef
     simp only [Array.getD_eq_getD_getElem?, Array.getElem?_append_right (Nat.not_lt.1 ht')]
     by_cases h2 : t - vs.size < fn.ntmps - vs.size <;> simp [h2]
   have r : vC na fn.ntmps (fun t => (vs ++ Array.replicate (fn.ntmps - vs.size) undef).getD t undef) M w { t := qAq args, h := h } { tmps := vs ++ Array.replicate (fn.ntmps - vs.size) undef, defers := [] } w :=
    ⟨⟨M, hh, hH, ok, .refl M, hslot⟩, rfl, by simp; omega, rfl, rfl, rfl, fun _ _ => rfl⟩
   refine calls_of_wp hf hb (yMz hE hS hm c (hL c hb) _ _ _ _ _ hev r fun e st' a' w' r' hK => ?_)
   obtain ⟨M', q1, q2, q3, q4, q5⟩ := r'.ex
   have fin : ∀ v, zUz E fn st' = some v → K v st' = some out → a'.defers = [] ∧ ∃ rv, (results fn a'.tmps).run E.P w' = .ok rv w' ∧ ∃ (M' : zC) (v : zG) (st : St), K v st = some out ∧ M'.h = st.h ∧ M'.H = w'.heap ∧ Ok M' ∧ zAk M M' ∧ zX M' v rv ∧ w'.os = w.os ∧ w'.tape = w.tape ∧ w'.output = w.output ∧
     (∀ t, t < na → zX M' (st.t t) (vs.getD t undef)) := fun v hres hK => by
    obtain ⟨rv, k1, k2⟩ := vAo hE hS hm q1 q2 q3 q5 hres
    refine ⟨r'.defers, rv, k1, M', v, st', hK, q1, q2, q3, q4, k2, r'.os, r'.tape, r'.output, fun t ht => ?_⟩
    have := q5 t
    rw [r'.keep t ht] at this
    have e : (vs ++ Array.replicate (fn.ntmps - vs.size) undef).getD t undef = vs.getD t undef := by
     by_cases h1 : t < vs.size
     ·simp [Array.getD_eq_getD_getElem?, Array.getElem?_append_left h1]
     ·simp only [Array.getD_eq_getD_getElem?, Array.getElem?_append_right (Nat.not_lt.1 h1), Array.getElem?_eq_none (Nat.not_lt.1 h1)]
      by_cases h2 : t - vs.size < fn.ntmps - vs.size <;> simp [h2]
    rw [e] at this
    exact this
   cases e with
   | exit id => cases hK
   | normal =>
    dsimp only at hK
    split at hK
    ·rename_i v hres
     exact fin v hres hK
    ·cases hK
   | ret =>
    dsimp only at hK
    split at hK
    ·rename_i v hres
     exact fin v hres hK
    ·cases hK
end
inductive PC where
 | int (k : IntKind) | bool | dat (sh : Bool) (t : Ty) | fn (f : Nat)
 | nil
abbrev PC.den : PC → Type
 | .int _ => Int | .bool => Bool | .dat _ t => List t.den | .fn _ => Unit | .nil => Unit
abbrev PL : List PC → Type
 | [] => Unit
 | p :: l => p.den × PL l
inductive AS where
 | c (p : PC) | agg (l : List PC) | ptr (l : List PC) | fn (f : Nat) (caps : List (List PC))
def AS.cells : AS → List PC
 | .c p => [p]
 | .agg l => l
 | .ptr l => l
 | .fn _ caps => caps.flatten
abbrev AD (l : List AS) : Type := PL (l.flatMap AS.cells)
def zHr (h : Hp) (t : Ty) : zH → Option (List t.den)
 | .nsl => some []
 | c => match zBf h c with
  | some ⟨s, xs⟩ => zAd s t xs
  | none => none
def inP (h : Hp) : (p : PC) → zH → Option p.den
 | .int k, .int j n => bif jM j k then some n else none
 | .bool, .bool b => some b
 | .dat false t, c => zHr h t c
 | .dat true t, .fsl true s xs => zAd s t xs
 | .dat true t, .nsl => some []
 | .fn f, .fn g [] => bif Nat.beq f g then some () else none
 | .nil, .nsl => some ()
 | _, _ => none
def inL (h : Hp) : (l : List PC) → List zH → Option (PL l)
 | [], [] => some ()
 | p :: l, c :: cs => match inP h p c, inL h l cs with
  | some d, some ds => some (d, ds)
  | _, _ => none
 | _, _ => none
def qE0 (h : Hp) (id : Nat) : Option (List zH) := match h id with
 | some (.box _ cells) => some cells
 | some (.robox cells) => some cells
 | _ => none
def zFo (h : Hp) : List (List PC) → List Nat → Option (List zH)
 | [], [] => some []
 | l :: ls, id :: ids => match qE0 h id, zFo h ls ids with
  | some cells, some rest => bif Nat.beq cells.length l.length then some (cells ++ rest) else none
  | _, _ => none
 | _, _ => none
def AS.get (h : Hp) : AS → zG → Option (List zH)
 | .c _, .c x => some [x]
 | .agg l, .agg xs => bif Nat.beq xs.length l.length then some xs else none
 | .ptr l, .c (.ptr id 0) => zFo h [l] [id]
 | .fn f caps, .c (.fn g ids) => bif Nat.beq f g then zFo h caps ids else none
 | _, _ => none
def zEc (h : Hp) : List AS → List zG → Option (List zH)
 | [], [] => some []
 | s :: l, a :: as => match s.get h a, zEc h l as with
  | some cs, some rest => some (cs ++ rest)
  | _, _ => none
 | _, _ => none
def inA (h : Hp) (l : List AS) (as : List zG) : Option (AD l) := match zEc h l as with
 | some cs => inL h (l.flatMap AS.cells) cs
 | none => none
def zKi : (p : PC) → p.den → zH
 | .int k, n => .int k n
 | .bool, b => .bool b
 | .dat sh t, xs => .fsl sh t xs
 | .fn f, _ => .fn f []
 | .nil, _ => .nsl
def vB : (l : List PC) → PL l → List zH
 | [], _ => []
 | p :: l, d => zKi p d.1 :: vB l d.2
def zT9 : List (List PC) → List zH → List (List zH)
 | [], _ => []
 | l :: ls, cs => cs.take l.length :: zT9 ls (cs.drop l.length)
def AS.mk (n : Nat) (cs : List zH) : AS → zG
 | .c _ => match cs with | x :: _ => .c x | [] => .undef
 | .agg _ => .agg cs
 | .ptr _ => .c (.ptr n 0)
 | .fn f caps => .c (.fn f ((List.range caps.length).map (n + ·)))
def AS.boxes (cs : List zH) : AS → List (List zH)
 | .ptr _ => [cs]
 | .fn _ caps => zT9 caps cs
 | _ => []
def zBk : List AS → List zH → Nat → List zG × List (List zH)
 | [], _, _ => ([], [])
 | s :: l, cs, n =>
  let mine := cs.take s.cells.length
  let bs := s.boxes mine
  let rest := zBk l (cs.drop s.cells.length) (n + bs.length)
  (s.mk n mine :: rest.1, bs ++ rest.2)
def zBn (bs : List (List zH)) : Hp := fun n => match bs[n]? with
 | some cells => some (.robox cells)
 | none => none
def zDn (l : List AS) (d : AD l) : List zG × Hp :=
 let r := zBk l (vB (l.flatMap AS.cells) d) 0
 (r.1, zBn r.2)
inductive RC where
 | int (k : IntKind) | bool | fro (t : Ty) | own (t : Ty) | mat
 | jun
 | map
abbrev RC.den : RC → Type
 | .int _ => Int | .bool => Bool | .fro t => List t.den | .own t => List t.den | .mat => List (List Int) | .jun => Nat | .map => List (Int × Bool)
abbrev RL : List RC → Type
 | [] => Unit
 | r :: l => r.den × RL l
inductive RS where
 | c (r : RC) | agg (l : List RC) | tup (l : List (Bool × List RC))
def RS.cells : RS → List RC
 | .c r => [r]
 | .agg l => l
 | .tup l => l.flatMap (·.2)
def qA7 : List (Bool × List RC) → List (Bool × List zH) → Option (List zH)
 | [], [] => some []
 | (b, l) :: ls, (g, cs) :: rest => bif (bif b then g else !g && Nat.beq cs.length 1) && Nat.beq cs.length l.length then (match qA7 ls rest with
   | some r => some (cs ++ r)
   | none => none) else none
 | _, _ => none
def RS.get : RS → zG → Option (List zH)
 | .c _, .c x => some [x]
 | .agg l, .agg xs => bif Nat.beq xs.length l.length then some xs else none
 | .tup l, .tup xs => qA7 l xs
 | _, _ => none
def zY8 : List (Bool × List RC) → List zH → List (Bool × List zH)
 | [], _ => []
 | (b, l) :: ls, cs => (b, cs.take l.length) :: zY8 ls (cs.drop l.length)
def RS.mk (cs : List zH) : RS → zG
 | .c _ => match cs with | x :: _ => .c x | [] => .undef
 | .agg _ => .agg cs
 | .tup l => .tup (zY8 l cs)
def jE (h : Hp) : List Bool → List zH → Option (List zH × qF)
 | true :: l, c :: cs => match zCk h c, jE h l cs with
  | some (c, u), some (cs, us) => some (c :: cs, u ++ us)
  | _, _ => none
 | false :: l, c :: cs => match jE h l cs with
  | some (cs, us) => some (c :: cs, us)
  | none => none
 | _, cs => some (cs, [])
def RC.isFro : RC → Bool
 | .fro _ => true
 | _ => false
def PC.isKept : PC → Bool
 | .dat true _ => true
 | _ => false
def zDp (h : Hp) : (r : RC) → zH → Option r.den
 | .int k, .int j n => bif jM j k then some n else none
 | .bool, .bool b => some b
 | .fro t, .fsl true s xs => zAd s t xs
 | .fro t, .nsl => some []
 | .own t, .osl id none => match h id with
  | some (.arr true s xs) => zAd s t xs
  | _ => none
 | .own t, .osl id (some (0, n)) => match h id with
  | some (.arr true s xs) => zAd s t (xs.take n)
  | _ => none
 | .own t, .nsl => some []
 | .mat, .osl id none => match h id with
  | some (.mat _ xs) => some xs
  | some (.pmat _ xs n) => bif Nat.beq xs.length n then some xs else none
  | _ => none
 | .mat, .nsl => some []
 | .jun, .osl id none => match h id with
  | some (.arr true (.sl (.int .i64)) xs) => some xs.length
  | _ => none
 | .jun, .nsl => some 0
 | .map, .map id => match h id with
  | some (.imap kvs) => some kvs
  | _ => none
 | _, _ => none
def zBd (h : Hp) : (l : List RC) → List zH → Option (RL l)
 | [], [] => some ()
 | r :: l, c :: cs => match zDp h r c, zBd h l cs with
  | some d, some ds => some (d, ds)
  | _, _ => none
 | _, _ => none
def yW : List RC → List zH → List Nat
 | .own _ :: l, .osl id _ :: cs => id :: yW l cs
 | .mat :: l, .osl id _ :: cs => id :: yW l cs
 | .jun :: l, .osl id _ :: cs => id :: yW l cs
 | .map :: l, .map id :: cs => id :: yW l cs
 | _ :: l, _ :: cs => yW l cs
 | _, _ => []
def zSg (h : Hp) (s : RS) (v : zG) : Option (RL s.cells) := match s.get v with
 | some cs => match jE h (s.cells.map RC.isFro) cs with
  | some (cs, u) => bif zDc (yW s.cells cs) then zBd (qK h u) s.cells cs else none
  | none => none
 | none => none
def zBr (rs : RS) {X : Type} (unpack : RL rs.cells → X) (v : zG) (st : St) : Option X := match zSg st.h rs v with
 | some d => some (unpack d)
 | none => none
def zE4 (nm : Nat) : (r : RC) → r.den → zH × qF
 | .int k, n => (.int k n, [])
 | .bool, b => (.bool b, [])
 | .fro t, xs => (.fsl true t xs, [])
 | .own t, xs => (.osl nm none, [(nm, .arr true t xs)])
 | .mat, xs => (.osl nm none, [(nm, .mat 0 xs)])
 | .jun, n => (.osl nm none, [(nm, .pmat 0 [] n)])
 | .map, kvs => (.map nm, [(nm, .imap kvs)])
def zB9 (nm : Nat) : (l : List RC) → RL l → List zH × qF
 | [], _ => ([], [])
 | r :: l, d =>
  let x := zE4 nm r d.1
  let y := zB9 (nm + 1) l d.2
  (x.1 :: y.1, x.2 ++ y.2)
def yE1 (nm : Nat) (s : RS) (d : RL s.cells) : zG × qF :=
 let r := zB9 nm s.cells d
 (s.mk r.1, r.2)
def zGb (h : Hp) : Nat → Nat → Bool
 | _, 0 => true
 | nm, n + 1 => (match h nm with | none => true | some _ => false) && zGb h (nm + 1) n
def zGi (h : Hp) : AS → zG → Option (zG × qF)
 | .c p, .c x => match jE h [p.isKept] [x] with
  | some ([x], u) => some (.c x, u)
  | _ => none
 | .agg l, .agg xs => match jE h (l.map PC.isKept) xs with
  | some (xs, u) => some (.agg xs, u)
  | none => none
 | _, a => some (a, [])
def zEe (h : Hp) : List AS → List zG → Option (List zG × qF)
 | s :: l, a :: as => match zGi h s a, zEe h l as with
  | some (a, u), some (as, us) => some (a :: as, u ++ us)
  | _, _ => none
 | _, as => some (as, [])
def zCm (as : List AS) (rs : RS) {X : Type} (S : AD as → Option X) (pack : X → RL rs.cells) (nm : Nat) (args : List zG) (h : Hp) : yA :=
 match zEe h as args with
 | none => .stuck
 | some (args, u) => match inA (qK h u) as args with
  | some d => bif zGb h nm rs.cells.length && Nat.ble rs.cells.length 100 then .call X (S d) (fun r => ((yE1 nm rs (pack r)).1, u ++ (yE1 nm rs (pack r)).2)) else .stuck
  | none => .stuck
structure Lo (M Ml : zC) : Prop where
 H : Ml.H = M.H
 F : Ml.F = fun b => b < M.H.size
 G : Ml.G = M.G
theorem qDo {M M' : zC} (ok : Ok M') (hH : M'.H = M.H) {t : Ty} {xs : List t.den} {v : Value} (h : qB M'.H M'.G (.sl t) xs (fun _ => some v)) : qB M.H (fun b => b < M.H.size) (.sl t) xs (fun _ => some v) := by
 refine yH (fun b hb => ?_) (fun b _ => by rw [hH]) _ _ _ _ (fun _ _ => rfl) h
 have := ok.Flt b (ok.GF b hb)
 rw [hH] at this
 exact this
theorem vFd {M : zC} (ok : Ok M) {c : zH} {v : Value} {t : Ty} {xs : List t.den} (hv : zV M c v) (h : zBf M.h c = some ⟨t, xs⟩) : qB M.H (fun b => b < M.H.size) (.sl t) xs (fun _ => some v) := by
 unfold zBf at h
 split at h
 ·rename_i sh s ys
  cases h
  cases sh with
  | true => exact yH (fun b hb => ok.Flt b (ok.GF b hb)) (fun _ _ => rfl) _ _ _ _ (fun _ _ => rfl) hv
  | false => exact yH (fun b hb => ok.Flt b hb) (fun _ _ => rfl) _ _ _ _ (fun _ _ => rfl) hv
 ·rename_i id r
  split at h
  ·rename_i own s ys hid
   cases h
   cases own with
   | false =>
    obtain ⟨C, hC, hO⟩ := ok.obj _ _ hid
    exact qDo ok rfl (zHj hC hO hv)
   | true =>
    obtain ⟨M', h1, h2, h3, h4⟩ := qVj ok hid
    obtain ⟨C, hC, hO⟩ := h3.obj id _ (by rw [h2]; exact yG _ _ _)
    exact qDo h3 h1 (zHj hC hO (hv.ext h4.ext))
  ·rename_i ver ys hid
   cases r with
   | some p => cases h
   | none =>
    cases h
    obtain ⟨M', h1, h2, h3, h4⟩ := qZ2 ok hid
    obtain ⟨C, hC, hO⟩ := h3.obj id _ (by rw [h2]; exact yG _ _ _)
    exact qDo h3 h1 (zHj (r := none) hC hO (hv.ext h4.ext))
  ·cases h
 ·rename_i id i ver
  split at h
  ·rename_i v' ys hid
   cases hver : Nat.beq v' ver with
   | false => rw [hver] at h; cases h
   | true =>
    rw [hver] at h
    cases h
    have e : v' = ver := by simpa using hver
    subst e
    obtain ⟨C, hC, hO⟩ := ok.obj _ _ hid
    obtain ⟨C', hC', hone, _, hrow⟩ := hv
    rw [hC] at hC'; cases hC'
    obtain ⟨rb, rl, hr1, hr2⟩ := hrow hO.1
    by_cases hi : i < ys.length
    ·obtain ⟨B, rb', v2, k1, k2, k3, k4, k5, k6⟩ := zJ8 hO hi
     rw [hr1] at k3
     cases k3
     rw [show ys.getD i [] = ys[i] by simp [List.getD, hi]]
     simp only [qB]
     cases rb with
     | none =>
      obtain ⟨rfl, h0⟩ := hr2
      exact ⟨none, 0, 0, rfl, h0.symm, Nat.le_refl _, .inl ⟨List.eq_nil_of_length_eq_zero h0, fun _ => rfl⟩⟩
     | some R =>
      obtain ⟨a, c, rfl, h1, h2, h3⟩ := hr2
      refine ⟨_, _, c, rfl, rfl, h1, ?_⟩
      by_cases h0 : ys[i].length = 0
      ·exact .inl ⟨List.eq_nil_of_length_eq_zero h0, fun h => by cases h⟩
      ·have ha : a = 0 := by rcases h2 with h | h <;> omega
       subst ha
       refine .inr ⟨R, 0, rfl, ?_, fun j hj => ?_⟩
       ·have := k6 R rfl 0 (by omega)
        unfold qW at this
        cases hR : M.H[R]? with
        | none => rw [hR] at this; cases this
        | some x => exact (Array.getElem?_eq_some_iff.1 hR).1
       ·simp only [qB, Ty.size, Nat.zero_add, Nat.mul_one, Nat.add_zero]
        exact k6 R rfl j hj
    ·have : C.rows[i]? = none := List.getElem?_eq_none (by have := hO.2.2.2.1; omega)
     rw [this] at hr1; cases hr1
  ·cases h
 ·cases h
theorem zS3 {H : Array Go.Obj} {F : Nat → Prop} {t : Ty} : qB H F (.sl t) ([] : List t.den) (fun _ => some (.slice none 0 0)) := ⟨none, 0, 0, rfl, rfl, Nat.le_refl _, .inl ⟨rfl, fun _ => rfl⟩⟩
theorem vHs {M : zC} (ok : Ok M) {c : zH} {v : Value} {t : Ty} {xs : List t.den} (hv : zV M c v) (h : zHr M.h t c = some xs) : qB M.H (fun b => b < M.H.size) (.sl t) xs (fun _ => some v) := by
 unfold zHr at h
 split at h
 ·cases h
  rw [show v = .slice none 0 0 from hv]
  exact zS3
 ·split at h
  ·rename_i s ys hr
   obtain ⟨e, hx⟩ := zBe h
   subst e
   subst hx
   exact vFd ok hv hr
  ·cases h
def Tr (M : zC) (c c' : zH) : Prop := ∀ v Ml, Lo M Ml → zV M c v → zV Ml c' v
theorem yQi {M : zC} (ok : Ok M) {p : PC} {c : zH} {d : p.den} (h : inP M.h p c = some d) : Tr M c (zKi p d) := by
 intro v Ml lo hv
 unfold inP at h
 split at h
 ·rename_i k j n
  cases e : jM j k with
  | false => rw [e] at h; cases h
  | true => rw [e] at h; cases h; rw [← zFh e]; exact hv
 ·cases h; exact hv
 ·rename_i t c
  have := vHs ok hv h
  show qB Ml.H Ml.F _ _ _
  rw [lo.H, lo.F]
  exact this
 ·rename_i t s xs
  obtain ⟨e, hx⟩ := zBe h
  subst e
  subst hx
  show qB Ml.H Ml.G _ _ _
  rw [lo.H, lo.G]
  exact hv
 ·cases h
  rw [show v = .slice none 0 0 from hv]
  exact zS3
 ·rename_i f g
  cases e : Nat.beq f g with
  | false => rw [e] at h; cases h
  | true =>
   have : f = g := by simpa using e
   subst this
   obtain ⟨cv, rfl, hc⟩ := hv
   refine ⟨cv, rfl, ?_⟩
   generalize cv.toList = l at hc
   cases l with
   | nil => trivial
   | cons _ _ => exact hc.elim
 ·exact hv
 ·cases h
theorem yJ1 {M : zC} (ok : Ok M) : ∀ {l : List PC} {cs : List zH} {d : PL l}, inL M.h l cs = some d → zQ (Tr M) cs (vB l d)
 | [], [], _, _ => trivial
 | p :: l, c :: cs, d, h => by
  unfold inL at h
  split at h
  ·rename_i x xs h1 h2
   cases h
   exact ⟨yQi ok h1, yJ1 ok h2⟩
  ·cases h
 | [], _ :: _, _, h => by cases h
 | _ :: _, [], _, h => by cases h
theorem qKl {M Ml : zC} (lo : Lo M Ml) : ∀ {cs cs' : List zH} {vs : List Value}, zQ (Tr M) cs cs' → zQ (zV M) cs vs → zQ (zV Ml) cs' vs
 | [], [], [], _, _ => trivial
 | _ :: _, _ :: _, _ :: _, h, k => ⟨h.1 _ _ lo k.1, qKl lo h.2 k.2⟩
 | [], [], _ :: _, _, k => k.elim
 | [], _ :: _, _, h, _ => h.elim
 | _ :: _, [], _, h, _ => h.elim
 | _ :: _, _ :: _, [], _, k => k.elim
def zHb (M : zC) (C : zS) (cells : List zH) : Prop := ∃ B vals e, C.blk = some B ∧ C.rows = [] ∧ M.H[B]? = some (.cells vals e (0, 0)) ∧ zQ (zV M) cells vals.toList
theorem vHx {M : zC} (ok : Ok M) {id : Nat} {cells : List zH} (h : qE0 M.h id = some cells) : ∃ C, M.κ id = some C ∧ zHb M C cells := by
 unfold qE0 at h
 split at h
 ·rename_i own cs hid
  cases h
  obtain ⟨C, hC, B, vals, e, h1, h2, h3, h4, _⟩ := ok.obj id _ hid
  exact ⟨C, hC, B, vals, e, h1, h2, h3, h4⟩
 ·rename_i cs hid
  cases h
  obtain ⟨C, hC, B, vals, e, h1, h2, h3, h4, _⟩ := ok.obj id _ hid
  exact ⟨C, hC, B, vals, e, h1, h2, h3, h4⟩
 ·cases h
theorem zHb.tr {M Ml : zC} (lo : Lo M Ml) {C : zS} {cs cs' : List zH} (h : zHb M C cs) (ht : zQ (Tr M) cs cs') : zHb Ml C cs' := by
 obtain ⟨B, vals, e, h1, h2, h3, h4⟩ := h
 exact ⟨B, vals, e, h1, h2, by rw [lo.H]; exact h3, qKl lo ht h4⟩
theorem qFg {M : zC} (ok : Ok M) : ∀ {ls : List (List PC)} {ids : List Nat} {cs cs' : List zH}, zFo M.h ls ids = some cs → zQ (Tr M) cs cs' → cs.length = ls.flatten.length ∧ ids.length = ls.length ∧
  ∃ Cs : List zS, zQ (fun id C => M.κ id = some C) ids Cs ∧ ∀ Ml, Lo M Ml → zQ (zHb Ml) Cs (zT9 ls cs')
 | [], [], cs, cs', h, ht => by cases h; exact ⟨rfl, rfl, [], trivial, fun _ _ => trivial⟩
 | l :: ls, id :: ids, cs, cs', h, ht => by
  unfold zFo at h
  split at h
  ·rename_i cells rest h1 h2
   obtain ⟨hl, h⟩ : cells.length = l.length ∧ cells ++ rest = cs := by
    cases e : Nat.beq cells.length l.length with
    | false => rw [e] at h; cases h
    | true => rw [e] at h; cases h; exact ⟨by simpa using e, rfl⟩
   subst h
   have ht1 := zQ.take l.length ht
   have ht2 := zQ.drop l.length ht
   rw [← hl, List.take_left] at ht1
   rw [← hl, List.drop_left] at ht2
   obtain ⟨C, hC, hB⟩ := vHx ok h1
   obtain ⟨k1, k2, Cs, k3, k4⟩ := qFg ok h2 ht2
   refine ⟨by simp [hl, k1], by simp [k2], C :: Cs, ⟨hC, k3⟩, fun Ml lo => ⟨?_, ?_⟩⟩
   ·rw [← hl]; exact hB.tr lo ht1
   ·rw [← hl]; exact k4 Ml lo
  ·cases h
 | [], _ :: _, _, _, h, _ => by cases h
 | _ :: _, [], _, _, h, _ => by cases h
theorem yZg {M : zC} (ok : Ok M) {s : AS} {a : zG} {v : Value} {cs cs' : List zH} {n : Nat} (hv : zX M a v) (h : s.get M.h a = some cs) (ht : zQ (Tr M) cs cs') :
  ∃ Cs : List zS, (∀ Ml, Lo M Ml → zQ (zHb Ml) Cs (s.boxes cs')) ∧ (∀ Ml, Lo M Ml → (∀ i C, Cs[i]? = some C → Ml.κ (n + i) = some C) → zX Ml (s.mk n cs') v) := by
 unfold AS.get at h
 split at h
 ·rename_i p x
  cases h
  match cs', ht with
  | [c'], ht => exact ⟨[], fun _ _ => trivial, fun Ml lo _ => ht.1 v Ml lo hv⟩
 ·rename_i l xs
  cases e : Nat.beq xs.length l.length with
  | false => rw [e] at h; cases h
  | true =>
   rw [e] at h
   cases h
   obtain ⟨vs, rfl, hx⟩ := hv
   exact ⟨[], fun _ _ => trivial, fun Ml lo _ => ⟨vs, rfl, qKl lo ht hx⟩⟩
 ·rename_i l id
  have := qFg ok h ht
  obtain ⟨k1, k2, Cs, k3, k4⟩ := this
  obtain ⟨C, B, hC, hB, e⟩ := hv
  have hl : cs'.length = l.length := by rw [← ht.length, k1]; simp
  match Cs, k3 with
  | [C'], k3 =>
   have e' : C' = C := by
    have : M.κ id = some C' := k3.1
    rw [hC] at this; exact (Option.some.inj this).symm
   subst e'
   refine ⟨[C'], fun Ml lo => ?_, fun Ml lo hκ => ⟨C', B, hκ 0 C' rfl, hB, e⟩⟩
   have := k4 Ml lo
   simp only [zT9] at this
   rw [List.take_of_length_le (by omega)] at this
   exact this
 ·rename_i f caps g ids
  cases e : Nat.beq f g with
  | false => rw [e] at h; cases h
  | true =>
   rw [e] at h
   have efg : f = g := by simpa using e
   subst efg
   obtain ⟨k1, k2, Cs, k3, k4⟩ := qFg ok h ht
   refine ⟨Cs, k4, fun Ml lo hκ => ?_⟩
   obtain ⟨cv, rfl, hc⟩ := hv
   refine ⟨cv, rfl, ?_⟩
   have l1 := k3.length
   have l2 := hc.length
   refine zQ.of_get (by rw [List.length_map, List.length_range]; omega) fun i h1 h2 => ?_
   simp only [List.getElem_map, List.getElem_range]
   have hi : i < ids.length := by simp at h1; omega
   have hi' : i < Cs.length := by omega
   obtain ⟨C, B, q1, q2, q3⟩ := hc.get i hi h2
   have q4 := k3.get i hi hi'
   have q4 : M.κ ids[i] = some Cs[i] := q4
   rw [q1] at q4
   exact ⟨Cs[i], B, hκ i _ (List.getElem?_eq_getElem hi'), by rw [← Option.some.inj q4]; exact q2, q3⟩
 ·cases h
theorem qE8 {h : Hp} : ∀ {ls : List (List PC)} {ids : List Nat} {cs : List zH}, zFo h ls ids = some cs → cs.length = ls.flatten.length
 | [], [], cs, e => by cases e; rfl
 | l :: ls, id :: ids, cs, e => by
  unfold zFo at e
  split at e
  ·rename_i cells rest h1 h2
   cases el : Nat.beq cells.length l.length with
   | false => rw [el] at e; cases e
   | true =>
    rw [el] at e
    cases e
    have : cells.length = l.length := by simpa using el
    simp [this, qE8 h2]
  ·cases e
 | [], _ :: _, _, e => by cases e
 | _ :: _, [], _, e => by cases e
theorem vA7 {h : Hp} {s : AS} {a : zG} {cs : List zH} (e : s.get h a = some cs) : cs.length = s.cells.length := by
 unfold AS.get at e
 split at e
 ·cases e; rfl
 ·rename_i l xs
  cases el : Nat.beq xs.length l.length with
  | false => rw [el] at e; cases e
  | true => rw [el] at e; cases e; exact Nat.eq_of_beq_eq_true el
 ·rw [qE8 e]; simp [AS.cells]
 ·rename_i f caps g ids
  cases el : Nat.beq f g with
  | false => rw [el] at e; cases e
  | true => rw [el] at e; exact qE8 e
 ·cases e
theorem qZ0 {M : zC} (ok : Ok M) : ∀ {l : List AS} {as : List zG} {vs : List Value} {cs cs' : List zH} {n : Nat}, zQ (zX M) as vs → zEc M.h l as = some cs → zQ (Tr M) cs cs' →
  ∃ Cs : List zS, (∀ Ml, Lo M Ml → zQ (zHb Ml) Cs (zBk l cs' n).2) ∧ (∀ Ml, Lo M Ml → (∀ i C, Cs[i]? = some C → Ml.κ (n + i) = some C) → zQ (zX Ml) (zBk l cs' n).1 vs)
 | [], [], [], cs, cs', n, _, _, _ => ⟨[], fun _ _ => trivial, fun _ _ _ => trivial⟩
 | s :: l, a :: as, v :: vs, cs, cs', n, hv, h, ht => by
  unfold zEc at h
  split at h
  ·rename_i cs1 rest h1 h2
   cases h
   have hl := vA7 h1
   have ht1 := zQ.take s.cells.length ht
   have ht2 := zQ.drop s.cells.length ht
   rw [← hl, List.take_left, hl] at ht1
   rw [← hl, List.drop_left, hl] at ht2
   obtain ⟨C1, k1, k2⟩ := yZg ok (n := n) hv.1 h1 ht1
   obtain ⟨C2, k3, k4⟩ := qZ0 ok (n := n + (s.boxes (cs'.take s.cells.length)).length) hv.2 h2 ht2
   refine ⟨C1 ++ C2, fun Ml lo => (k1 Ml lo).append (k3 Ml lo), fun Ml lo hκ => ⟨k2 Ml lo fun i C hi => hκ i C ?_, k4 Ml lo fun i C hi => ?_⟩⟩
   ·have : i < C1.length := by
     rcases Nat.lt_or_ge i C1.length with h | h
     ·exact h
     ·rw [List.getElem?_eq_none h] at hi; cases hi
    rw [List.getElem?_append_left this]; exact hi
   ·have hb := (k1 Ml lo).length
    have := hκ (C1.length + i) C (by rw [List.getElem?_append_right (by omega)]; rw [show C1.length + i - C1.length = i by omega]; exact hi)
    rw [hb, ← Nat.add_assoc] at this
    exact this
  ·cases h
 | [], [], _ :: _, _, _, _, hv, _, _ => hv.elim
 | [], _ :: _, _, _, _, _, _, h, _ => by cases h
 | _ :: _, [], _, _, _, _, _, h, _ => by cases h
 | _ :: _, _ :: _, [], _, _, _, hv, _, _ => hv.elim
def zC.below (M : zC) (Cs : List zS) (bs : List (List zH)) : zC := { κ := fun n => Cs[n]?, F := fun b => b < M.H.size, G := M.G, h := zBn bs, H := M.H }
theorem zC.below_lo (M : zC) (Cs : List zS) (bs : List (List zH)) : Lo M (M.below Cs bs) := ⟨rfl, rfl, rfl⟩
theorem zC.below_ok {M : zC} (ok : Ok M) {Cs : List zS} {bs : List (List zH)} (h : zQ (zHb (M.below Cs bs)) Cs bs) : Ok (M.below Cs bs) ∧ ∀ b, ¬ qQ (M.below Cs bs) b := by
 have hr : ∀ id o, (M.below Cs bs).h id = some o → ∃ cells, bs[id]? = some cells ∧ o = .robox cells := fun id o e => by
  have e : zBn bs id = some o := e
  unfold zBn at e
  split at e
  ·rename_i cells hc
   cases e
   exact ⟨cells, hc, rfl⟩
  ·cases e
 have hno : ∀ b, ¬ qQ (M.below Cs bs) b := fun b ⟨id, o, C, h1, h2, _, _⟩ => by
  obtain ⟨cells, _, rfl⟩ := hr id o h1
  cases h2
 refine ⟨⟨fun id o e => ?_, fun id e => ?_, fun i j oi oj Ci Cj b _ h1 _ h3 _ _ _ _ _ => ?_, fun b hb => absurd hb (hno b), fun b hb => ok.Flt b (ok.GF b hb), fun b hb => hb⟩, hno⟩
 ·obtain ⟨cells, hc, rfl⟩ := hr id o e
  have hlt : id < bs.length := by
   rcases Nat.lt_or_ge id bs.length with h | h
   ·exact h
   ·rw [List.getElem?_eq_none h] at hc; cases hc
  have hlt' : id < Cs.length := by rw [h.length]; exact hlt
  obtain ⟨B, vals, ev, q1, q2, q3, q4⟩ := h.get id hlt' hlt
  rw [List.getElem?_eq_getElem hlt] at hc
  cases hc
  refine ⟨Cs[id], List.getElem?_eq_getElem hlt', B, vals, ev, q1, q2, q3, q4, ?_⟩
  exact (Array.getElem?_eq_some_iff.1 q3).1
 ·have e : zBn bs id = none := e
  unfold zBn at e
  split at e
  ·cases e
  ·rename_i hc
   show Cs[id]? = none
   rw [List.getElem?_eq_none_iff] at hc ⊢
   rw [h.length]; exact hc
 ·obtain ⟨cells, _, rfl⟩ := hr i oi h1
  cases h3
theorem vIe {M : zC} (ok : Ok M) {l : List AS} {as : List zG} {vs : List Value} {d : AD l} (hv : zQ (zX M) as vs) (h : inA M.h l as = some d) :
  ∃ Ml : zC, Lo M Ml ∧ Ml.h = (zDn l d).2 ∧ Ok Ml ∧ (∀ b, ¬ qQ Ml b) ∧ zQ (zX Ml) (zDn l d).1 vs := by
 unfold inA at h
 split at h
 ·rename_i cs hg
  obtain ⟨Cs, h1, h2⟩ := qZ0 ok (n := 0) hv hg (yJ1 ok h)
  have lo := M.below_lo Cs (zBk l (vB (l.flatMap AS.cells) d) 0).2
  have := zC.below_ok ok (h1 _ lo)
  exact ⟨_, lo, rfl, this.1, this.2, h2 _ lo fun i C hi => by rw [Nat.zero_add]; exact hi⟩
 ·cases h
theorem zGm {h0 : Hp} : ∀ {l : List Bool} {cs cs' : List zH} {vs : List Value} {u : qF} {M : zC}, Ok M → wB h0 M.h → zQ (zV M) cs vs → jE h0 l cs = some (cs', u) →
  ∃ L : zC, L.H = M.H ∧ L.h = qK M.h u ∧ Ok L ∧ yO M L ∧ zQ (zV L) cs' vs ∧ wB h0 L.h
 | [], cs, cs', vs, u, M, ok, hf, hc, h => by
  cases cs <;> cases h <;> exact ⟨M, rfl, rfl, ok, .refl M, hc, hf⟩
 | true :: l, [], cs', vs, u, M, ok, hf, hc, h => by cases h; exact ⟨M, rfl, rfl, ok, .refl M, hc, hf⟩
 | false :: l, [], cs', vs, u, M, ok, hf, hc, h => by cases h; exact ⟨M, rfl, rfl, ok, .refl M, hc, hf⟩
 | true :: l, c :: cs, cs', v :: vs, u, M, ok, hf, hc, h => by
  unfold jE at h
  split at h
  ·rename_i c1 u1 cs1 us1 e1 e2
   cases h
   obtain ⟨M1, h1, h2, h3, h4, h5, h6, _⟩ := zPg ok hf hc.1 e1
   obtain ⟨M2, k1, k2, k3, k4, k5, k6⟩ := zGm h3 h6 (hc.2.mono fun _ _ h => h.ext h4.ext) e2
   exact ⟨M2, k1.trans h1, by rw [k2, h2, zBp], k3, h4.trans k4, ⟨h5.ext k4.ext, k5⟩, k6⟩
  ·cases h
 | false :: l, c :: cs, cs', v :: vs, u, M, ok, hf, hc, h => by
  unfold jE at h
  split at h
  ·rename_i cs1 us1 e2
   cases h
   obtain ⟨M2, k1, k2, k3, k4, k5, k6⟩ := zGm ok hf hc.2 e2
   exact ⟨M2, k1, k2, k3, k4, ⟨hc.1.ext k4.ext, k5⟩, k6⟩
  ·cases h
 | true :: _, _ :: _, _, [], _, _, _, _, hc, _ => hc.elim
 | false :: _, _ :: _, _, [], _, _, _, _, hc, _ => hc.elim
def zC.add (M : zC) (nm : Nat) (o : Obj) (C : zS) : zC := { M with κ := κset M.κ nm C, h := yC M.h nm o }
theorem zC.add_ok {M : zC} (ok : Ok M) {nm : Nat} (hnm : M.h nm = none) {o : Obj} {C : zS} (hO : yJ (M.add nm o C) o C) (hb : ∀ b ∈ C.fp, ¬ qQ M b ∧ ¬ M.F b ∧ b < M.H.size) :
  Ok (M.add nm o C) ∧ yL M (M.add nm o C) ∧ (∀ b, qQ (M.add nm o C) b → qQ M b ∨ b ∈ C.fp) := by
 have x : yL M (M.add nm o C) := ⟨fun id D h => by
  have hne : id ≠ nm := fun e => by rw [e, ok.non nm hnm] at h; cases h
  exact ⟨D, by show κset M.κ nm _ id = _; rw [κset_ne _ _ hne]; exact h, D.le_refl⟩, fun _ h => h, fun _ h => h, fun _ _ => rfl, fun _ _ => rfl, fun _ _ => rfl⟩
 refine ⟨Ok.build ok x (fun id => id = nm) (fun id h => yN _ _ h) (fun id h => κset_ne _ _ h) (fun _ _ _ _ _ _ _ _ _ => rfl) (fun id o' D h1 h2 h3 h4 b hb' => (ok.own b ⟨id, o', D, h2, h3, h4, hb'⟩).1) (Nat.le_refl _)
  (fun id o' e h => ?_) (fun id e h => ?_) (fun id o' D b e h1 h2 h3 h4 => ?_) ok.GF ok.Flt, x, fun b hb' => ?_⟩
 ·subst e
  have e1 : (M.add id o C).h id = some o := yG _ _ _
  rw [e1] at h
  cases h
  exact ⟨_, κset_same _ _ _, hO⟩
 ·subst e
  have e1 : (M.add id o C).h id = some o := yG _ _ _
  rw [e1] at h; cases h
 ·subst e
  have e1 : (M.add id o C).κ id = some C := κset_same _ _ _
  rw [e1] at h3
  cases h3
  obtain ⟨k1, k2, k3⟩ := hb b h4
  refine ⟨fun j oj Cj hj q1 q2 q3 q4 => k1 ⟨j, oj, Cj, ?_, q2, ?_, q4⟩, k2, k3⟩
  ·rw [← q1]; exact (yN _ _ hj).symm
  ·rw [← q3]; exact (κset_ne _ _ hj).symm
 ·obtain ⟨id, o', D, h1, h2, h3, h4⟩ := hb'
  by_cases e : id = nm
  ·subst e
   have e1 : (M.add id o C).κ id = some C := κset_same _ _ _
   rw [e1] at h3
   cases h3
   exact .inr h4
  ·exact .inl ⟨id, o', D, by rw [← h1]; exact (yN _ _ e).symm, h2, by rw [← h3]; exact (κset_ne _ _ e).symm, h4⟩
structure Up (L Mc : zC) : Prop where
 H : Mc.H = L.H
 G : Mc.G = L.G
theorem qW7 {L Mc : zC} (up : Up L Mc) {t : Ty} {xs : List t.den} {C : zS} (h : yJ L (.arr true t xs) C) : yJ Mc (.arr true t xs) C := by
 obtain ⟨h1, h2, h3, h4⟩ := h
 refine ⟨h1, h2, h3, ?_⟩
 rw [up.H, up.G]
 exact h4
theorem yQ9 {L Mc : zC} (up : Up L Mc) {ver : Nat} {xs : List (List Int)} {C : zS} (h : yJ L (.mat ver xs) C) : yJ Mc (.mat 0 xs) { C with ver := 0 } := by
 obtain ⟨h1, h2⟩ := h
 refine ⟨rfl, ?_⟩
 rw [up.H]
 exact h2
theorem yXd {L Mc : zC} (up : Up L Mc) {ver n : Nat} {xs : List (List Int)} {C : zS} (h : yJ L (.pmat ver xs n) C) (hn : xs.length = n) : yJ Mc (.mat 0 xs) { C with ver := 0 } := by
 obtain ⟨h1, h2, h3, h4, h5, _, h6⟩ := h
 refine ⟨rfl, by rw [hn]; exact h2, h3, h4, h5, ?_⟩
 rw [up.H]
 subst hn
 cases hB : C.blk with
 | none => rw [hB] at h6; exact List.eq_nil_of_length_eq_zero h6
 | some B => rw [hB] at h6; exact h6
theorem vEl {L Mc : zC} (up : Up L Mc) {xs : List (List Int)} {C : zS} (h : yJ L (.arr true (.sl (.int .i64)) xs) C) : yJ Mc (.pmat 0 [] xs.length) { C with ver := 0 } := by
 obtain ⟨h1, h2, h3, h4⟩ := h
 have hr := h3 rfl
 refine ⟨rfl, h1, h2, by show C.rows.length = 0; rw [hr]; rfl, ?_, Nat.zero_le _, ?_⟩
 ·simp only [zS.fp, hr]
  cases C.blk <;> simp
 ·cases hB : C.blk with
  | none => rw [hB] at h4; show xs.length = 0; rw [h4]; rfl
  | some B =>
   rw [hB] at h4
   obtain ⟨vals, e, h5, _, h7, _⟩ := h4
   refine ⟨vals, e, by rw [up.H]; exact h5, by simpa [Ty.size] using h7, fun i hi => by simp at hi⟩
theorem vHz {L Mc : zC} (okL : Ok L) (ok : Ok Mc) (up : Up L Mc) {nm : Nat} (hnm : Mc.h nm = none) {r : RC} {c : zH} {d : r.den} (h : zDp L.h r c = some d)
  (hb : ∀ id ∈ yW [r] [c], ∀ C, L.κ id = some C → ∀ b ∈ C.fp, ¬ qQ Mc b ∧ ¬ Mc.F b ∧ b < Mc.H.size) :
  ∃ Mc' : zC, Mc'.H = Mc.H ∧ Mc'.G = Mc.G ∧ Mc'.F = Mc.F ∧ Mc'.h = qK Mc.h (zE4 nm r d).2 ∧ Ok Mc' ∧ yL Mc Mc' ∧
   (∀ b, qQ Mc' b → qQ Mc b ∨ ∃ id ∈ yW [r] [c], ∃ C, L.κ id = some C ∧ b ∈ C.fp) ∧ ∀ v, zV L c v → zV Mc' (zE4 nm r d).1 v := by
 have same : (zE4 nm r d).2 = [] → (∀ v, zV L c v → zV Mc (zE4 nm r d).1 v) → _ := fun e hv => (⟨Mc, rfl, rfl, rfl, by rw [e]; rfl, ok, .refl Mc, fun b h => .inl h, hv⟩ :
  ∃ Mc' : zC, Mc'.H = Mc.H ∧ Mc'.G = Mc.G ∧ Mc'.F = Mc.F ∧ Mc'.h = qK Mc.h (zE4 nm r d).2 ∧ Ok Mc' ∧ yL Mc Mc' ∧
   (∀ b, qQ Mc' b → qQ Mc b ∨ ∃ id ∈ yW [r] [c], ∃ C, L.κ id = some C ∧ b ∈ C.fp) ∧ ∀ v, zV L c v → zV Mc' (zE4 nm r d).1 v)
 unfold zDp at h
 split at h
 ·rename_i k j n
  cases e : jM j k with
  | false => rw [e] at h; cases h
  | true =>
   rw [e] at h
   cases h
   exact same rfl fun v hv => by rw [← zFh e]; exact hv
 ·cases h
  exact same rfl fun v hv => hv
 ·obtain ⟨e, hx⟩ := zBe h
  subst e
  subst hx
  refine same rfl fun v hv => ?_
  show qB Mc.H Mc.G _ _ _
  rw [up.H, up.G]
  exact hv
 ·cases h
  refine same rfl fun v hv => ?_
  rw [show v = .slice none 0 0 from hv]
  exact zS3
 ·rename_i t id
  split at h
  ·rename_i s xs hid
   obtain ⟨e, hx⟩ := zBe h
   subst e
   subst hx
   obtain ⟨C, hC, hO⟩ := okL.obj id _ hid
   obtain ⟨k1, k2, k3⟩ := zC.add_ok ok hnm (o := .arr true s xs) (C := C) (qW7 (Mc := Mc.add nm (.arr true s xs) C) ⟨up.H, up.G⟩ hO) (hb id (by simp [yW]) C hC)
   refine ⟨Mc.add nm (.arr true s xs) C, rfl, rfl, rfl, rfl, k1, k2, fun b hb' => (k3 b hb').imp (fun h => h) fun h => ⟨id, by simp [yW], C, hC, h⟩, fun v hv => ?_⟩
   obtain ⟨C', hC', hS⟩ := hv
   rw [hC] at hC'; cases hC'
   refine ⟨C, κset_same _ _ _, ?_⟩
   show vZ Mc.H C 0 C.len v
   rw [up.H]; exact hS
  ·cases h
 ·rename_i t id n
  split at h
  ·rename_i s xs hid
   obtain ⟨e, hx⟩ := zBe h
   subst e
   subst hx
   obtain ⟨C, hC, hO⟩ := okL.obj id _ hid
   let C' : zS := { C with len := (xs.take n).length }
   have hO' : yJ (Mc.add nm (.arr true s (xs.take n)) C') (.arr true s (xs.take n)) C' := by
    obtain ⟨q1, q2, q3, q4⟩ := qW7 (Mc := Mc.add nm (.arr true s (xs.take n)) C') ⟨up.H, up.G⟩ hO
    refine ⟨rfl, q2, q3, ?_⟩
    show match C.blk with
     | none => _
     | some B => _
    cases hB : C.blk with
    | none => rw [hB] at q4; show xs.take n = []; rw [q4]; simp
    | some B =>
     rw [hB] at q4
     obtain ⟨vals, e, r1, r2, r3, r4⟩ := q4
     have hle : (xs.take n).length ≤ xs.length := by rw [List.length_take]; omega
     have := Nat.mul_le_mul_right s.size hle
     refine ⟨vals, e, r1, r2, by omega, fun i hi => ?_⟩
     rw [List.getElem_take]
     exact r4 i (by omega)
   obtain ⟨k1, k2, k3⟩ := zC.add_ok ok hnm (o := .arr true s (xs.take n)) (C := C') hO' (hb id (by simp [yW]) C hC)
   refine ⟨Mc.add nm (.arr true s (xs.take n)) C', rfl, rfl, rfl, rfl, k1, k2, fun b hb' => (k3 b hb').imp (fun h => h) fun h => ⟨id, by simp [yW], C, hC, h⟩, fun v hv => ?_⟩
   obtain ⟨C1, hC1, h1, hS, _⟩ := hv
   rw [hC] at hC1; cases hC1
   have hl : (xs.take n).length = n := by rw [List.length_take, ← hO.1]; omega
   refine ⟨C', κset_same _ _ _, ?_⟩
   show vZ Mc.H C' 0 (xs.take n).length v
   rw [hl, up.H]
   exact hS
  ·cases h
 ·rename_i t
  cases h
  obtain ⟨k1, k2, k3⟩ := Mc.nilObj_ok ok hnm t false
  refine ⟨Mc.nilObj nm (zA2 t false) (zBm t false), rfl, rfl, rfl, rfl, k1, k2, fun b hb' => .inl (k3 b hb'), fun v hv => ?_⟩
  rw [show v = .slice none 0 0 from hv]
  exact ⟨_, κset_same _ _ _, none, 0, rfl, rfl, rfl, rfl⟩
 ·rename_i id
  split at h
  ·rename_i ver xs hid
   cases h
   obtain ⟨C, hC, hO⟩ := okL.obj id _ hid
   obtain ⟨k1, k2, k3⟩ := zC.add_ok ok hnm (o := .mat 0 d) (C := { C with ver := 0 }) (yQ9 (Mc := Mc.add nm (.mat 0 d) { C with ver := 0 }) ⟨up.H, up.G⟩ hO) (hb id (by simp [yW]) C hC)
   refine ⟨Mc.add nm (.mat 0 d) { C with ver := 0 }, rfl, rfl, rfl, rfl, k1, k2, fun b hb' => (k3 b hb').imp (fun h => h) fun h => ⟨id, by simp [yW], C, hC, h⟩, fun v hv => ?_⟩
   obtain ⟨C', hC', hS⟩ := hv
   rw [hC] at hC'; cases hC'
   refine ⟨_, κset_same _ _ _, ?_⟩
   show vZ Mc.H C 0 C.len v
   rw [up.H]; exact hS
  ·rename_i ver xs n hid
   obtain ⟨hc, h⟩ : Nat.beq xs.length n = true ∧ some xs = some d := by
    cases e : Nat.beq xs.length n with
    | true => rw [e] at h; exact ⟨rfl, h⟩
    | false => rw [e] at h; cases h
   cases h
   obtain ⟨C, hC, hO⟩ := okL.obj id _ hid
   obtain ⟨k1, k2, k3⟩ := zC.add_ok ok hnm (o := .mat 0 d) (C := { C with ver := 0 }) (yXd (Mc := Mc.add nm (.mat 0 d) { C with ver := 0 }) ⟨up.H, up.G⟩ hO (Nat.eq_of_beq_eq_true hc)) (hb id (by simp [yW]) C hC)
   refine ⟨Mc.add nm (.mat 0 d) { C with ver := 0 }, rfl, rfl, rfl, rfl, k1, k2, fun b hb' => (k3 b hb').imp (fun h => h) fun h => ⟨id, by simp [yW], C, hC, h⟩, fun v hv => ?_⟩
   obtain ⟨C', hC', hS⟩ := hv
   rw [hC] at hC'; cases hC'
   refine ⟨_, κset_same _ _ _, ?_⟩
   show vZ Mc.H C 0 C.len v
   rw [up.H]; exact hS
  ·cases h
 ·cases h
  obtain ⟨k1, k2, k3⟩ := Mc.nilObj_ok ok hnm (.int .i64) true
  refine ⟨Mc.nilObj nm (zA2 (.int .i64) true) (zBm (.int .i64) true), rfl, rfl, rfl, rfl, k1, k2, fun b hb' => .inl (k3 b hb'), fun v hv => ?_⟩
  rw [show v = .slice none 0 0 from hv]
  exact ⟨_, κset_same _ _ _, none, 0, rfl, rfl, rfl, rfl⟩
 ·rename_i id
  split at h
  ·rename_i xs hid
   cases h
   obtain ⟨C, hC, hO⟩ := okL.obj id _ hid
   obtain ⟨k1, k2, k3⟩ := zC.add_ok ok hnm (o := .pmat 0 [] xs.length) (C := { C with ver := 0 }) (vEl (Mc := Mc.add nm (.pmat 0 [] xs.length) { C with ver := 0 }) ⟨up.H, up.G⟩ hO) (hb id (by simp [yW]) C hC)
   refine ⟨Mc.add nm (.pmat 0 [] xs.length) { C with ver := 0 }, rfl, rfl, rfl, rfl, k1, k2, fun b hb' => (k3 b hb').imp (fun h => h) fun h => ⟨id, by simp [yW], C, hC, h⟩, fun v hv => ?_⟩
   obtain ⟨C', hC', hS⟩ := hv
   rw [hC] at hC'; cases hC'
   refine ⟨_, κset_same _ _ _, ?_⟩
   show vZ Mc.H C 0 C.len v
   rw [up.H]; exact hS
  ·cases h
 ·cases h
  obtain ⟨k1, k2, k3⟩ := zC.add_ok ok hnm (o := .pmat 0 [] 0) (C := ⟨none, 0, 1, 0, []⟩) ⟨rfl, rfl, rfl, rfl, by simp [zS.fp], Nat.le_refl _, rfl⟩ (fun b hb => by simp [zS.fp] at hb)
  refine ⟨Mc.add nm (.pmat 0 [] 0) ⟨none, 0, 1, 0, []⟩, rfl, rfl, rfl, rfl, k1, k2, fun b hb' => (k3 b hb').imp (fun h => h) fun h => by simp [zS.fp] at h, fun v hv => ?_⟩
  rw [show v = .slice none 0 0 from hv]
  exact ⟨_, κset_same _ _ _, none, 0, rfl, rfl, rfl, rfl⟩
 ·rename_i id
  split at h
  ·rename_i kvs hid
   cases h
   obtain ⟨C, hC, hO⟩ := okL.obj id _ hid
   have hO' : yJ (Mc.add nm (.imap d) C) (.imap d) C := by
    obtain ⟨B, es, ck, h1, h2, h3, h4, h5⟩ := hO
    refine ⟨B, es, ck, h1, h2, ?_, h4, h5⟩
    show Mc.H[B]? = _
    rw [up.H]; exact h3
   obtain ⟨k1, k2, k3⟩ := zC.add_ok ok hnm (o := .imap d) (C := C) hO' (hb id (by simp [yW]) C hC)
   refine ⟨Mc.add nm (.imap d) C, rfl, rfl, rfl, rfl, k1, k2, fun b hb' => (k3 b hb').imp (fun h => h) fun h => ⟨id, by simp [yW], C, hC, h⟩, fun v hv => ?_⟩
   obtain ⟨C', B, hC', hB, e⟩ := hv
   rw [hC] at hC'; cases hC'
   exact ⟨C, B, κset_same _ _ _, hB, e⟩
  ·cases h
 ·cases h
theorem zWq (r : RC) (c : zH) (l : List RC) (cs : List zH) : yW (r :: l) (c :: cs) = yW [r] [c] ++ yW l cs := by
 cases r <;> cases c <;> rfl
theorem yW2 {nm : Nat} {r : RC} {d : r.den} {n : Nat} (h : n ≠ nm) (hh : Hp) : qK hh (zE4 nm r d).2 n = hh n := by
 cases r <;> first | rfl | exact yN _ _ h
theorem qF1 {h : Hp} : ∀ {n nm : Nat}, zGb h nm n = true → ∀ i, i < n → h (nm + i) = none
 | n + 1, nm, e, i, hi => by
  unfold zGb at e
  rw [Bool.and_eq_true] at e
  cases i with
  | zero =>
   have := e.1
   split at this
   ·assumption
   ·cases this
  | succ i => rw [← qF1 e.2 i (by omega)]; congr 1; omega
theorem qGt {L : zC} (okL : Ok L) : ∀ {l : List RC} {cs : List zH} {d : RL l} {nm : Nat} {Mc : zC}, Ok Mc → Up L Mc → (∀ i, i < l.length → Mc.h (nm + i) = none) → zBd L.h l cs = some d → (yW l cs).Nodup →
  (∀ id ∈ yW l cs, ∃ o, L.h id = some o ∧ o.owned = true) →
  (∀ id ∈ yW l cs, ∀ C, L.κ id = some C → ∀ b ∈ C.fp, ¬ qQ Mc b ∧ ¬ Mc.F b ∧ b < Mc.H.size) →
  ∃ Mc' : zC, Mc'.H = Mc.H ∧ Mc'.G = Mc.G ∧ Mc'.F = Mc.F ∧ Mc'.h = qK Mc.h (zB9 nm l d).2 ∧ Ok Mc' ∧ yL Mc Mc' ∧
   (∀ b, qQ Mc' b → qQ Mc b ∨ ∃ id ∈ yW l cs, ∃ C, L.κ id = some C ∧ b ∈ C.fp) ∧ ∀ vs, zQ (zV L) cs vs → zQ (zV Mc') (zB9 nm l d).1 vs
 | [], [], d, nm, Mc, ok, up, _, _, _, _, _ => ⟨Mc, rfl, rfl, rfl, rfl, ok, .refl Mc, fun b h => .inl h, fun vs h => by
  cases vs with
  | nil => trivial
  | cons _ _ => exact h.elim⟩
 | r :: l, c :: cs, d, nm, Mc, ok, up, hf, h, hnd, hown, hb => by
  unfold zBd at h
  split at h
  ·rename_i x xs e1 e2
   cases h
   rw [zWq] at hnd hown hb
   obtain ⟨nd1, nd2, nd3⟩ := List.nodup_append.1 hnd
   obtain ⟨M1, a1, a2, a3, a4, a5, a6, a7, a8⟩ := vHz okL ok up (by have := hf 0 (by simp); simpa using this) e1 (fun id hid => hb id (List.mem_append_left _ hid))
   have up1 : Up L M1 := ⟨a1.trans up.H, a2.trans up.G⟩
   obtain ⟨M2, b1, b2, b3, b4, b5, b6, b7, b8⟩ := qGt okL (nm := nm + 1) a5 up1 (fun i hi => by
     rw [a4, yW2 (by omega)]
     have := hf (i + 1) (by simp; omega)
     rw [← this]; congr 1; omega) e2 nd2 (fun id hid => hown id (List.mem_append_right _ hid)) (fun id hid C hC b hbC => by
     obtain ⟨q1, q2, q3⟩ := hb id (List.mem_append_right _ hid) C hC b hbC
     refine ⟨fun ho => ?_, by rw [a3]; exact q2, by rw [a1]; exact q3⟩
     rcases a7 b ho with ho | ⟨jd, hjd, D, hD, hbD⟩
     ·exact q1 ho
     ·have hne : id ≠ jd := fun e => nd3 jd hjd id hid e.symm
      obtain ⟨o1, p1, p2⟩ := hown id (List.mem_append_right _ hid)
      obtain ⟨o2, p3, p4⟩ := hown jd (List.mem_append_left _ hjd)
      exact okL.disj id jd o1 o2 C D b hne p1 p3 p2 p4 hC hD hbC hbD)
   refine ⟨M2, b1.trans a1, b2.trans a2, b3.trans a3, ?_, b5, a6.trans (by rw [a1]; exact Nat.le_refl _) b6, fun b hb' => ?_, fun vs hvs => ?_⟩
   ·show M2.h = qK Mc.h ((zE4 nm r x).2 ++ (zB9 (nm + 1) l xs).2)
    rw [zBp, ← a4]; exact b4
   ·rw [zWq]
    rcases b7 b hb' with h | ⟨id, hid, C, h⟩
    ·rcases a7 b h with h | ⟨id, hid, C, h⟩
     ·exact .inl h
     ·exact .inr ⟨id, List.mem_append_left _ hid, C, h⟩
    ·exact .inr ⟨id, List.mem_append_right _ hid, C, h⟩
   ·cases vs with
    | nil => exact hvs.elim
    | cons v vs => exact ⟨(a8 v hvs.1).ext b6, b8 vs hvs.2⟩
  ·cases h
 | [], _ :: _, _, _, _, _, _, _, h, _, _, _ => by cases h
 | _ :: _, [], _, _, _, _, _, _, h, _, _, _ => by cases h
theorem vJ {α : Type} {c : Bool} {x : Option α} {y : α} (h : (bif c then x else none) = some y) : c = true ∧ x = some y := by
 cases c with
 | true => exact ⟨rfl, h⟩
 | false => cases h
theorem yAb {M : zC} : ∀ {l : List (Bool × List RC)} {xs : List (Bool × List zH)} {cs : List zH} {vs : List Value}, qA7 l xs = some cs → zQ (zEq M) xs vs →
  cs.length = (l.flatMap (·.2)).length ∧ ∃ us : List Value, zQ (zV M) cs us ∧ ∀ (M' : zC) (cs' : List zH), zQ (zV M') cs' us → zQ (zEq M') (zY8 l cs') vs
 | [], [], cs, [], h, _ => by cases h; exact ⟨rfl, [], trivial, fun _ _ _ => trivial⟩
 | (b, l) :: ls, (g, cs1) :: rest, cs, v :: vs, h, hv => by
  unfold qA7 at h
  obtain ⟨hc, h⟩ := vJ h
  split at h
  ·rename_i r hr
   cases h
   rw [Bool.and_eq_true] at hc
   have hl : cs1.length = l.length := by simpa using hc.2
   obtain ⟨k1, us, k2, k3⟩ := yAb hr hv.2
   refine ⟨by simp [hl, k1], ?_⟩
   cases b with
   | true =>
    have hg : g = true := hc.1
    subst hg
    obtain ⟨ws, rfl, hw⟩ := hv.1
    refine ⟨ws.toList ++ us, hw.append k2, fun M' cs' h' => ⟨?_, ?_⟩⟩
    ·have h1 := zQ.take l.length h'
     have hwl := hw.length
     rw [show (ws.toList ++ us).take l.length = ws.toList from by rw [List.take_append_of_le_length (by omega), List.take_of_length_le (by omega)]] at h1
     exact ⟨ws, rfl, h1⟩
    ·have h1 := zQ.drop l.length h'
     have hwl := hw.length
     rw [show (ws.toList ++ us).drop l.length = us from by rw [show l.length = ws.toList.length by omega, List.drop_left]] at h1
     exact k3 M' _ h1
   | false =>
    have hg := hc.1
    simp only [cond_false, Bool.and_eq_true, Bool.not_eq_true'] at hg
    obtain ⟨hg1, hg2⟩ := hg
    subst hg1
    have hl1 : cs1.length = 1 := by simpa using hg2
    match cs1, hl1 with
    | [c], _ =>
     have hv1 : zV M c v := hv.1
     refine ⟨v :: us, ⟨hv1, k2⟩, fun M' cs' h' => ?_⟩
     match cs', h' with
     | c' :: cs'', h' =>
      have e : l.length = 1 := by rw [← hl]; rfl
      refine ⟨?_, ?_⟩
      ·show zEq M' (false, (c' :: cs'').take l.length) v
       rw [e]
       exact h'.1
      ·show zQ _ (zY8 ls ((c' :: cs'').drop l.length)) vs
       rw [e]
       exact k3 M' cs'' h'.2
  ·cases h
 | [], _ :: _, _, _, h, _ => by cases h
 | (_, _) :: _, [], _, _, h, _ => by cases h
 | [], [], _, _ :: _, _, hv => hv.elim
 | _ :: _, _ :: _, _, [], _, hv => hv.elim
theorem yBg {M : zC} {s : RS} {v : zG} {cs : List zH} {rv : Value} (h : s.get v = some cs) (hv : zX M v rv) :
  cs.length = s.cells.length ∧ ∃ us : List Value, zQ (zV M) cs us ∧ ∀ (M' : zC) (cs' : List zH), zQ (zV M') cs' us → zX M' (s.mk cs') rv := by
 unfold RS.get at h
 split at h
 ·rename_i r x
  cases h
  refine ⟨rfl, [rv], ⟨hv, trivial⟩, fun M' cs' h' => ?_⟩
  match cs', h' with
  | [c'], h' => exact h'.1
 ·rename_i l xs
  obtain ⟨hl, h⟩ := vJ h
  cases h
  obtain ⟨vs, rfl, hx⟩ := hv
  exact ⟨Nat.eq_of_beq_eq_true hl, vs.toList, hx, fun M' cs' h' => ⟨vs, rfl, h'⟩⟩
 ·rename_i l xs
  obtain ⟨vs, rfl, hx⟩ := hv
  obtain ⟨k1, us, k2, k3⟩ := yAb h hx
  exact ⟨k1, us, k2, fun M' cs' h' => ⟨vs, rfl, k3 M' cs' h'⟩⟩
 ·cases h
theorem vGj {h0 : Hp} {s : AS} {a a' : zG} {v : Value} {u : qF} {M : zC} (ok : Ok M) (hf : wB h0 M.h) (hv : zX M a v) (h : zGi h0 s a = some (a', u)) :
  ∃ L : zC, L.H = M.H ∧ L.h = qK M.h u ∧ Ok L ∧ yO M L ∧ zX L a' v ∧ wB h0 L.h := by
 unfold zGi at h
 split at h
 ·rename_i p x
  split at h
  ·rename_i y u1 e
   cases h
   obtain ⟨L, h1, h2, h3, h4, h5, h6⟩ := zGm (cs := [x]) (vs := [v]) ok hf ⟨hv, trivial⟩ e
   exact ⟨L, h1, h2, h3, h4, h5.1, h6⟩
  ·cases h
 ·rename_i l xs
  split at h
  ·rename_i ys u1 e
   cases h
   obtain ⟨vs, rfl, hx⟩ := hv
   obtain ⟨L, h1, h2, h3, h4, h5, h6⟩ := zGm ok hf hx e
   exact ⟨L, h1, h2, h3, h4, ⟨vs, rfl, h5⟩, h6⟩
  ·cases h
 ·cases h
  exact ⟨M, rfl, rfl, ok, .refl M, hv, hf⟩
theorem VReps.ext {M M' : zC} (x : yL M M') : ∀ {as : List zG} {vs : List Value}, zQ (zX M) as vs → zQ (zX M') as vs := fun h => h.mono fun _ _ h => h.ext x
theorem qV7 {h0 : Hp} : ∀ {l : List AS} {as as' : List zG} {vs : List Value} {u : qF} {M : zC}, Ok M → wB h0 M.h → zQ (zX M) as vs → zEe h0 l as = some (as', u) →
  ∃ L : zC, L.H = M.H ∧ L.h = qK M.h u ∧ Ok L ∧ yO M L ∧ zQ (zX L) as' vs ∧ wB h0 L.h
 | s :: l, a :: as, as', v :: vs, u, M, ok, hf, hv, h => by
  unfold zEe at h
  split at h
  ·rename_i a1 u1 as1 us1 e1 e2
   cases h
   obtain ⟨M1, h1, h2, h3, h4, h5, h6⟩ := vGj ok hf hv.1 e1
   obtain ⟨M2, k1, k2, k3, k4, k5, k6⟩ := qV7 h3 h6 (VReps.ext h4.ext hv.2) e2
   exact ⟨M2, k1.trans h1, by rw [k2, h2, zBp], k3, h4.trans k4, ⟨h5.ext k4.ext, k5⟩, k6⟩
  ·cases h
 | [], as, as', vs, u, M, ok, hf, hv, h => by
  cases as <;> cases h <;> exact ⟨M, rfl, rfl, ok, .refl M, hv, hf⟩
 | s :: l, [], as', vs, u, M, ok, hf, hv, h => by cases h; exact ⟨M, rfl, rfl, ok, .refl M, hv, hf⟩
 | _ :: _, _ :: _, _, [], _, _, _, _, hv, _ => hv.elim
def zC.over (M L : zC) : zC := { κ := M.κ, F := fun b => M.F b ∨ L.G b, G := L.G, h := M.h, H := L.H }
theorem zC.over_ok {M Ml L : zC} (ok : Ok M) (okL : Ok L) (lo : Lo M Ml) (hno : ∀ b, ¬ qQ Ml b) (g : zAk Ml L) : Ok (M.over L) ∧ yO M (M.over L) := by
 have hlt : ∀ b, Ml.F b ↔ b < M.H.size := fun b => by rw [lo.F]
 have hsame : ∀ b, b < M.H.size → L.H[b]? = M.H[b]? := fun b hb => by rw [g.same b ((hlt b).2 hb), lo.H]
 have hsz : M.H.size ≤ L.H.size := by have := g.size; rw [lo.H] at this; exact this
 have hG : ∀ b, L.G b → b < M.H.size → M.G b := fun b hb hs => by
  rcases g.Gb b hb (by rw [lo.H]; exact hs) with h | h
  ·rw [lo.G] at h; exact h
  ·exact absurd h (hno b)
 have hlt' : ∀ b, M.F b → b < M.H.size := ok.Flt
 have x : yL M (M.over L) := ⟨fun id C h => ⟨C, h, C.le_refl⟩, fun b h => .inl h, fun b h => g.G b (by rw [lo.G]; exact h), fun b h => hsame b (ok.Flt b h), fun b h => hsame b (ok.Flt b (ok.GF b h)), fun b h => zJp (hsame b h)⟩
 have hown : ∀ b, qQ (M.over L) b → qQ M b := fun b h => h
 refine ⟨⟨fun id o h => ?_, fun id h => ok.non id h, ok.disj, fun b h => ⟨fun hf => ?_, ?_⟩, fun b h => .inr h, fun b h => ?_⟩, ⟨x, hsz, fun b hb _ => hsame b hb, fun b h _ => h, fun b h hs => .inl (hG b h hs), fun b h hs => ?_⟩⟩
 ·obtain ⟨C, hC, hO⟩ := ok.obj id o h
  exact ⟨C, hC, hO.ext x fun ho b hb => hsame b (ok.own b ⟨id, o, C, h, ho, hC, hb⟩).2⟩
 ·have := ok.own b (hown b h)
  rcases hf with hf | hf
  ·exact this.1 hf
  ·exact this.1 (ok.GF b (hG b hf this.2))
 ·have h1 := (ok.own b (hown b h)).2
  show b < L.H.size
  omega
 ·show b < L.H.size
  rcases h with h | h
  ·have := ok.Flt b h; omega
  ·exact okL.Flt b (okL.GF b h)
 ·rcases h with h | h
  ·exact .inl h
  ·exact .inl (ok.GF b (hG b h hs))
theorem yZc {h0 : Hp} {r : RC} {c : zH} {d : r.den} (h : zDp h0 r c = some d) : ∀ id ∈ yW [r] [c], ∃ o, h0 id = some o ∧ o.owned = true := by
 unfold zDp at h
 split at h
 all_goals (try (intro id hid; simp [yW] at hid; done))
 ·rename_i t id
  intro id' hid
  have := List.mem_singleton.1 hid
  subst this
  split at h
  ·exact ⟨_, by assumption, rfl⟩
  ·cases h
 ·rename_i t id n
  intro id' hid
  have := List.mem_singleton.1 hid
  subst this
  split at h
  ·exact ⟨_, by assumption, rfl⟩
  ·cases h
 ·rename_i id
  intro id' hid
  have := List.mem_singleton.1 hid
  subst this
  split at h
  ·exact ⟨_, by assumption, rfl⟩
  ·exact ⟨_, by assumption, rfl⟩
  ·cases h
 ·rename_i id
  intro id' hid
  have := List.mem_singleton.1 hid
  subst this
  split at h
  ·exact ⟨_, by assumption, rfl⟩
  ·cases h
 ·rename_i id
  intro id' hid
  have := List.mem_singleton.1 hid
  subst this
  split at h
  ·exact ⟨_, by assumption, rfl⟩
  ·cases h
 ·cases h
theorem zGr {L : zC} : ∀ {l : List RC} {cs : List zH} {d : RL l}, zBd L.h l cs = some d → ∀ id ∈ yW l cs, ∃ o, L.h id = some o ∧ o.owned = true
 | [], [], _, _, id, hid => by cases hid
 | r :: l, c :: cs, d, h, id, hid => by
  unfold zBd at h
  split at h
  ·rename_i x xs e1 e2
   rw [zWq] at hid
   rcases List.mem_append.1 hid with hid | hid
   ·exact yZc e1 id hid
   ·exact zGr e2 id hid
  ·cases h
 | [], _ :: _, _, h, _, _ => by cases h
 | _ :: _, [], _, h, _, _ => by cases h
theorem yN5 {E : qC} (hE : zAh E) (hS : zA9 E.sums) (hm : E.P.follows .mixedOrders = true) {A : qA} {k pre na : Nat} {f : FuncId} {fn : Func} (hf : E.P.funcs[f]? = some fn) (hL : ∀ c, fn.body = some c → wN E.P A pre na fn.ntmps c) (hcall : ∀ vs w, (callFunc f vs).run E.P w = .ok (.enter f vs) w)
  {as : List AS} {rs : RS} {X : Type} {S : AD as → Option X} {pack : X → RL rs.cells} {unpack : RL rs.cells → X} (hpu : ∀ d, pack (unpack d) = d) (hev : ∀ d x, S d = some x → ∀ (Ml : zC) (vs : List Value), zQ (zX Ml) (zDn as d).1 vs → ∃ args', zQ (zX Ml) args' vs ∧ evF E A k pre na fn args' (zDn as d).2 (zBr rs unpack) = some x)
  {nm : Nat} {args : List zG} {h : Hp} {v : zG} {u : qF} (hy : yD (zCm as rs S pack nm args h) v u) : zI1 E.P f args h v u := by
 intro M w vs hh hH ok hv
 refine .inl ⟨hcall vs w, ?_⟩
 unfold zCm at hy
 split at hy
 ·exact hy.elim
 rename_i args' u0 hfrz
 split at hy
 case h_2 => exact hy.elim
 rename_i d hd
 obtain ⟨hc, hy⟩ := zG8 hy
 rw [Bool.and_eq_true] at hc
 obtain ⟨x, hx, rfl, rfl⟩ := hy
 subst hh
 obtain ⟨M1, a1, a2, a3, a4, a5, a6⟩ := qV7 ok (wB.refl _) hv hfrz
 rw [← a2] at hd
 obtain ⟨Ml, lo, b2, b3, b4, b5⟩ := vIe a3 a5 hd
 obtain ⟨args2, hargs2, hev2⟩ := hev d x hx Ml _ b5
 refine Calls.mono (qLs hE hS hm hf hL hev2 b2 (by rw [lo.H, a1]; exact hH) b3 hargs2) fun e w' he => ?_
 cases e with
 | panicked _ => exact he.elim
 | outgrown => exact he.elim
 | returned rv =>
  obtain ⟨L0, v0, st, hK, c1, c2, c3, c4, c5, c6, c7, c8, _⟩ := he
  have hK : zSg st.h rs v0 = some (pack x) := by
   unfold zBr at hK
   split at hK
   ·rename_i d' hd'
    cases hK
    rw [hd', hpu]
   ·cases hK
  unfold zSg at hK
  split at hK
  case h_2 => cases hK
  rename_i cs hcs
  split at hK
  case h_2 => cases hK
  rename_i cs' u1 hfr
  obtain ⟨hnd, hK⟩ := vJ hK
  obtain ⟨hlen, us, d1, d2⟩ := yBg hcs c5
  rw [← c1] at hfr hK
  obtain ⟨L, e1, e2, e3, e4, e5, e6⟩ := zGm c3 (wB.refl _) d1 hfr
  rw [← e2] at hK
  have g : zAk Ml L := c4.trans e4.grow
  obtain ⟨f1, f2⟩ := zC.over_ok a3 e3 lo b4 g
  have hfree : ∀ i, i < rs.cells.length → (M1.over L).h (nm + i) = none := fun i hi => by
   have h1 := qF1 hc.1 i hi
   show M1.h (nm + i) = none
   rw [a2]
   rcases a6 (nm + i) with h | ⟨own, t, xs, h, _⟩ | ⟨ver, xs, h, _⟩
   ·rw [a2] at h; rw [h]; exact h1
   ·rw [h1] at h; cases h
   ·rw [h1] at h; cases h
  obtain ⟨Mc, g1, g2, g3, g4, g5, g6, g7, g8⟩ := qGt e3 f1 ⟨rfl, rfl⟩ hfree hK (zKx hnd) (zGr hK) (fun id hid C hC b hb => by
   obtain ⟨o, ho, hoo⟩ := zGr hK id hid
   have hown : qQ L b := ⟨id, o, C, ho, hoo, hC, hb⟩
   have hge : ¬ b < M1.H.size := fun hlt => b4 b (g.own b hown (by rw [lo.H]; exact hlt))
   refine ⟨fun h => hge (a3.own b h).2, fun h => ?_, (e3.own b hown).2⟩
   rcases h with h | h
   ·exact hge (a3.Flt b h)
   ·exact (e3.own b hown).1 (e3.GF b h))
  have st2 : yO M1 Mc := by
   have hown : ∀ b, qQ Mc b → b < M1.H.size → qQ M1 b := fun b hb hlt => by
    rcases g7 b hb with h | ⟨id, hid, C, hC, hbC⟩
    ·exact h
    ·obtain ⟨o, ho, hoo⟩ := zGr hK id hid
     exact absurd (g.own b ⟨id, o, C, ho, hoo, hC, hbC⟩ (by rw [lo.H]; exact hlt)) (b4 b)
   refine ⟨f2.ext.trans f2.size g6, ?_, fun b hb hn => ?_, hown, fun b hb hlt => ?_, fun b hb hlt => ?_⟩
   ·rw [g1]; exact f2.size
   ·rw [g1]; exact f2.frame b hb hn
   ·rw [g2] at hb; exact f2.Gb b hb hlt
   ·rw [g3] at hb; exact f2.Fb b hb hlt
  refine ⟨Mc, ⟨c6, c7, c8, ?_, ?_, g5, a4.trans st2⟩, ?_⟩
  ·rw [g1]; show L.H = _; rw [e1, c2]
  ·rw [zBp, ← a2]; exact g4
  ·exact d2 Mc _ (g8 us e5)
theorem yVh {E : qC} (hE : zAh E) (hS : zA9 E.sums) (hm : E.P.follows .mixedOrders = true) {A : qA} {k pre na : Nat} {f : FuncId} {fn : Func} (hf : E.P.funcs[f]? = some fn) (hL : ∀ c, fn.body = some c → wN E.P A pre na fn.ntmps c) (hcall : ∀ vs w, (callFunc f vs).run E.P w = .ok (.enter f vs) w)
  {as : List AS} {rs : RS} {X : Type} {S : AD as → Option X} {pack : X → RL rs.cells} {unpack : RL rs.cells → X} (hpu : ∀ d, pack (unpack d) = d) (hev : ∀ d, evF E A k pre na fn (zDn as d).1 (zDn as d).2 (zBr rs unpack) = S d)
  {nm : Nat} {args : List zG} {h : Hp} {v : zG} {u : qF} (hy : yD (zCm as rs S pack nm args h) v u) : zI1 E.P f args h v u :=
 yN5 hE hS hm hf hL hcall hpu (fun d x hx _ _ hv => ⟨_, hv, (hev d).trans hx⟩) hy
theorem yXy {E : qC} (hE : zAh E) (hS : zA9 E.sums) (hm : E.P.follows .mixedOrders = true) {A : qA} {k pre na : Nat} {f : FuncId} {fn : Func} (hf : E.P.funcs[f]? = some fn) (hL : ∀ c, fn.body = some c → wN E.P A pre na fn.ntmps c) (hcall : ∀ vs w, (callFunc f vs).run E.P w = .ok (.enter f vs) w)
  {sh : Bool} {t : Ty} {rs : RS} {X : Type} {S : List t.den → Option X} {pack : X → RL rs.cells} {unpack : RL rs.cells → X} (hpu : ∀ d, pack (unpack d) = d) (hnil : ∀ x, S [] = some x → evF E A k pre na fn [.c .nsl] (zBn []) (zBr rs unpack) = some x)
  (hev : ∀ xs x, S xs = some x → evF E A k pre na fn [.c (.nfl sh t xs)] (zBn []) (zBr rs unpack) = some x)
  {nm : Nat} {args : List zG} {h : Hp} {v : zG} {u : qF} (hy : yD (zCm [.c (.dat sh t)] rs (fun d => S d.1) pack nm args h) v u) : zI1 E.P f args h v u :=
 yN5 hE hS hm hf hL hcall hpu (fun d x hx Ml vs hv => by
  obtain ⟨xs, _⟩ := d
  match vs, hv with
  | [v], hv =>
   have hv1 : qB Ml.H (bif sh then Ml.G else Ml.F) (.sl t) xs (fun _ => some v) := hv.1
   have hv2 := hv1
   simp only [qB, Option.some.injEq] at hv1
   obtain ⟨A', n, c, rfl, hn, hc, h⟩ := hv1
   cases A' with
   | some a => exact ⟨[.c (.nfl sh t xs)], ⟨⟨⟨a, n, c, rfl⟩, hv2⟩, trivial⟩, hev xs x hx⟩
   | none =>
    rcases h with ⟨rfl, h0⟩ | ⟨B, o, e, _⟩
    ·have h0 := h0 rfl
     subst h0
     have hn : n = 0 := hn
     subst hn
     exact ⟨[.c .nsl], ⟨rfl, trivial⟩, hnil x hx⟩
    ·cases e) hy
def yA.orElse : yA → yA → yA
 | .alts [], b => b
 | a, _ => a
abbrev zJ := Nat → Nat → List zG → Hp → yA
def qL : List (Nat × zJ) → zWg
 | [], _, _, _, _, _ => .stuck
 | (g, e) :: l, k, nm, f, args, h => bif Nat.beq g f then (e k nm args h).orElse (qL l k nm f args h) else qL l k nm f args h
def qQf (P : Program) (r : Nat × zJ) : Prop := ∀ k nm args h v u, yD (r.2 k nm args h) v u → zI1 P r.1 args h v u
def zVa (e : zJ) : Prop := ∀ k nm (args : List zG) h h', (args.any yX = false → ∀ id, (id ∈ args.flatMap yF ∨ zCj nm id = true) → h id = h' id) → (args.any yX = true → h = h') → e k nm args h = e k nm args h'
theorem vH0 {a b : yA} {v : zG} {u : qF} (h : yD (a.orElse b) v u) : yD a v u ∨ yD b v u := by
 unfold yA.orElse at h
 split at h
 ·exact .inr h
 ·exact .inl h
theorem yMc {P : Program} : ∀ {l : List (Nat × zJ)}, (∀ r ∈ l, qQf P r) → yHz P (qL l)
 | [], _ => fun k nm f args h v u hy => hy.elim
 | (g, e) :: l, hl => fun k nm f args h v u hy => by
  have ih := yMc (l := l) fun r hr => hl r (List.mem_cons_of_mem _ hr)
  unfold qL at hy
  cases hg : Nat.beq g f with
  | false => rw [hg] at hy; exact ih k nm f args h v u hy
  | true =>
   rw [hg] at hy
   have : g = f := by simpa using hg
   subst this
   rcases vH0 hy with hy | hy
   ·exact hl (g, e) (List.mem_cons_self ..) k nm args h v u hy
   ·exact ih k nm g args h v u hy
theorem qQ2 : ∀ {l : List (Nat × zJ)}, (∀ r ∈ l, zVa r.2) → zA9 (qL l)
 | [], _ => fun k nm f args h h' _ _ => rfl
 | (g, e) :: l, hl => fun k nm f args h h' h1 h2 => by
  have ih := qQ2 (l := l) (fun r hr => hl r (List.mem_cons_of_mem _ hr)) k nm f args h h' h1 h2
  unfold qL
  have he : e k nm args h = e k nm args h' := hl (g, e) (List.mem_cons_self ..) k nm args h h' h1 h2
  rw [ih, he]
section
variable {h h' : Hp}
theorem yP8 {t : Ty} {c : zH} (hh : ∀ id ∈ yS c, h id = h' id) : zHr h t c = zHr h' t c := by
 have e := qC9 hh
 unfold zHr
 cases c <;> first | rfl | simp only [e]
theorem yNk {p : PC} {c : zH} (hh : ∀ id ∈ yS c, h id = h' id) : inP h p c = inP h' p c := by
 have e := fun t => yP8 (t := t) hh
 unfold inP
 cases p with
 | dat sh t => cases sh with
  | false => cases c <;> exact e t
  | true => cases c <;> first | rfl | (rename_i b _ _; cases b <;> rfl)
 | fn f => cases c <;> first | rfl | (rename_i cap; cases cap <;> rfl)
 | _ => cases c <;> rfl
theorem qYk : ∀ {l : List PC} {cs : List zH}, (∀ id ∈ cs.flatMap yS, h id = h' id) → inL h l cs = inL h' l cs
 | [], [], _ => rfl
 | [], _ :: _, _ => rfl
 | _ :: _, [], _ => rfl
 | p :: l, c :: cs, hh => by
  simp only [List.flatMap_cons, List.mem_append] at hh
  unfold inL
  rw [yNk fun id hi => hh id (.inl hi), qYk fun id hi => hh id (.inr hi)]
theorem yY9 {ls : List (List PC)} : zFo h ls [] = zFo h' ls [] := by
 cases ls <;> rfl
theorem yU7 {s : AS} {a : zG} (hb : yX a = false) : s.get h a = s.get h' a := by
 unfold AS.get
 cases s with
 | c p => cases a <;> rfl
 | agg l => cases a <;> rfl
 | ptr l =>
  cases a with
  | c x => cases x <;> first | rfl | (exact absurd hb (by simp [yX]))
  | _ => rfl
 | fn f caps =>
  cases a with
  | c x => cases x with
   | fn g ids =>
    cases ids with
    | nil => dsimp only; rw [yY9]
    | cons _ _ => exact absurd hb (by simp [yX])
   | _ => rfl
  | _ => rfl
theorem yYt {s : AS} {a : zG} {cs : List zH} (hb : yX a = false) (e : s.get h a = some cs) : ∀ id ∈ cs.flatMap yS, id ∈ yF a := by
 unfold AS.get at e
 split at e
 ·cases e; intro id hid; simp only [List.flatMap_cons, List.flatMap_nil, List.append_nil] at hid; exact hid
 ·obtain ⟨_, e⟩ := vJ e
  cases e; exact fun id hid => hid
 ·exact absurd hb (by simp [yX])
 ·rename_i f caps g ids
  obtain ⟨_, e⟩ := vJ e
  cases ids with
  | nil => cases caps with
   | nil => cases e; intro id hid; simp at hid
   | cons _ _ => cases e
  | cons _ _ => exact absurd hb (by simp [yX])
 ·cases e
theorem yCp : ∀ {l : List AS} {as : List zG}, as.any yX = false → zEc h l as = zEc h' l as
 | [], [], _ => rfl
 | [], _ :: _, _ => rfl
 | _ :: _, [], _ => rfl
 | s :: l, a :: as, hb => by
  simp only [List.any_cons, Bool.or_eq_false_iff] at hb
  unfold zEc
  rw [yU7 (h := h) (h' := h') hb.1, yCp hb.2]
theorem qVl : ∀ {l : List AS} {as : List zG} {cs : List zH}, as.any yX = false → zEc h l as = some cs → ∀ id ∈ cs.flatMap yS, id ∈ as.flatMap yF
 | [], [], cs, _, e => by cases e; intro id hid; simp at hid
 | [], _ :: _, _, _, e => by cases e
 | _ :: _, [], _, _, e => by cases e
 | s :: l, a :: as, cs, hb, e => by
  simp only [List.any_cons, Bool.or_eq_false_iff] at hb
  unfold zEc at e
  split at e
  ·rename_i c1 rest e1 e2
   cases e
   intro id hid
   rw [List.flatMap_append, List.mem_append] at hid
   rw [List.flatMap_cons, List.mem_append]
   rcases hid with hid | hid
   ·exact .inl (yYt hb.1 e1 id hid)
   ·exact .inr (qVl hb.2 e2 id hid)
  ·cases e
theorem vCc {l : List AS} {as : List zG} (hb : as.any yX = false) (hh : ∀ id ∈ as.flatMap yF, h id = h' id) : inA h l as = inA h' l as := by
 unfold inA
 rw [yCp (h := h) (h' := h') hb]
 cases e : zEc h' l as with
 | none => rfl
 | some cs => exact qYk fun id hid => hh id (qVl hb e id hid)
theorem zM0 {x : zH} : [x].flatMap yS = yF (.c x) := by simp [yF]
theorem qJa {c c' : zH} {u : qF} (e : zCk h c = some (c', u)) : (∀ id ∈ yS c', id ∈ yS c) ∧ (yX (.c c') = true → yX (.c c) = true) := by
 cases c with
 | osl id r =>
  unfold zCk at e
  dsimp only at e
  split at e
  ·cases e; exact ⟨fun id hid => (by cases hid), fun hb => (by cases hb)⟩
  ·cases r with
   | none => cases e; exact ⟨fun id hid => (by cases hid), fun hb => (by cases hb)⟩
   | some _ => cases e
  ·cases e
 | mrow _ _ _ => cases e
 | _ => cases e; exact ⟨fun _ h => h, fun h => h⟩
theorem zMw : ∀ {l : List Bool} {cs : List zH}, (∀ id ∈ cs.flatMap yS, h id = h' id) → jE h l cs = jE h' l cs
 | [], cs, _ => by cases cs <;> rfl
 | true :: l, [], _ => rfl
 | false :: l, [], _ => rfl
 | true :: l, c :: cs, hh => by
  simp only [List.flatMap_cons, List.mem_append] at hh
  unfold jE
  rw [yD7 fun id hi => hh id (.inl hi), zMw fun id hi => hh id (.inr hi)]
 | false :: l, c :: cs, hh => by
  simp only [List.flatMap_cons, List.mem_append] at hh
  unfold jE
  rw [zMw fun id hi => hh id (.inr hi)]
theorem zMn : ∀ {l : List Bool} {cs cs' : List zH} {u : qF}, jE h l cs = some (cs', u) → ∀ id ∈ cs'.flatMap yS, id ∈ cs.flatMap yS
 | [], cs, cs', u, e => by cases cs <;> cases e <;> exact fun _ h => h
 | true :: l, [], cs', u, e => by cases e; exact fun _ h => h
 | false :: l, [], cs', u, e => by cases e; exact fun _ h => h
 | true :: l, c :: cs, cs', u, e => by
  unfold jE at e
  split at e
  ·rename_i c1 u1 cs1 us1 e1 e2
   cases e
   intro id hid
   rw [List.flatMap_cons, List.mem_append] at hid ⊢
   exact hid.imp ((qJa e1).1 id) (zMn e2 id)
  ·cases e
 | false :: l, c :: cs, cs', u, e => by
  unfold jE at e
  split at e
  ·rename_i cs1 us1 e2
   cases e
   intro id hid
   rw [List.flatMap_cons, List.mem_append] at hid ⊢
   exact hid.imp (fun h => h) (zMn e2 id)
  ·cases e
theorem yPs {s : AS} {a : zG} (hh : ∀ id ∈ yF a, h id = h' id) : zGi h s a = zGi h' s a := by
 unfold zGi
 cases s with
 | c p => cases a with
  | c x =>
   have := zMw (h := h) (h' := h') (l := [p.isKept]) (cs := [x]) (by rw [zM0]; exact hh)
   simp only [this]
  | _ => rfl
 | agg l => cases a with
  | agg xs =>
   have := zMw (h := h) (h' := h') (l := l.map PC.isKept) (cs := xs) hh
   simp only [this]
  | _ => rfl
 | _ => rfl
theorem yTs {s : AS} {a a' : zG} {u : qF} (e : zGi h s a = some (a', u)) : (∀ id ∈ yF a', id ∈ yF a) ∧ (yX a = false → yX a' = false) := by
 unfold zGi at e
 split at e
 ·rename_i p x
  split at e
  ·rename_i y u1 e1
   cases e
   refine ⟨fun id hid => by have := zMn e1 id (by rw [zM0]; exact hid); rwa [zM0] at this, fun hb => ?_⟩
   cases hk : p.isKept with
   | false => rw [hk] at e1; cases e1; exact hb
   | true =>
    rw [hk] at e1
    unfold jE at e1
    split at e1
    ·rename_i c1 u2 cs1 us1 e2 e3
     cases e3
     cases e1
     cases hy : yX (.c y) with
     | false => rfl
     | true => rw [(qJa e2).2 hy] at hb; cases hb
    ·cases e1
  ·cases e
 ·rename_i l xs
  split at e
  ·rename_i ys u1 e1
   cases e
   exact ⟨zMn e1, fun _ => rfl⟩
  ·cases e
 ·cases e; exact ⟨fun _ h => h, fun h => h⟩
theorem qZr : ∀ {l : List AS} {as : List zG}, (∀ id ∈ as.flatMap yF, h id = h' id) → zEe h l as = zEe h' l as
 | [], as, _ => by cases as <;> rfl
 | _ :: _, [], _ => rfl
 | s :: l, a :: as, hh => by
  simp only [List.flatMap_cons, List.mem_append] at hh
  unfold zEe
  rw [yPs fun id hi => hh id (.inl hi), qZr fun id hi => hh id (.inr hi)]
theorem yK2 : ∀ {l : List AS} {as as' : List zG} {u : qF}, zEe h l as = some (as', u) → (∀ id ∈ as'.flatMap yF, id ∈ as.flatMap yF) ∧ (as.any yX = false → as'.any yX = false)
 | [], as, as', u, e => by cases as <;> cases e <;> exact ⟨fun _ h => h, fun h => h⟩
 | s :: l, [], as', u, e => by cases e; exact ⟨fun _ h => h, fun h => h⟩
 | s :: l, a :: as, as', u, e => by
  unfold zEe at e
  split at e
  ·rename_i a1 u1 as1 us1 e1 e2
   cases e
   obtain ⟨k1, k2⟩ := yTs e1
   obtain ⟨k3, k4⟩ := yK2 e2
   refine ⟨fun id hid => ?_, fun hb => ?_⟩
   ·rw [List.flatMap_cons, List.mem_append] at hid ⊢
    exact hid.imp (k1 id) (k3 id)
   ·simp only [List.any_cons, Bool.or_eq_false_iff] at hb ⊢
    exact ⟨k2 hb.1, k4 hb.2⟩
  ·cases e
theorem qLl : ∀ {n nm : Nat}, (∀ i, i < n → h (nm + i) = h' (nm + i)) → zGb h nm n = zGb h' nm n
 | 0, _, _ => rfl
 | n + 1, nm, hh => by
  unfold zGb
  have := hh 0 (by omega)
  rw [Nat.add_zero] at this
  rw [this, qLl fun i hi => by have := hh (i + 1) (by omega); rw [show nm + (i + 1) = nm + 1 + i by omega] at this; exact this]
end
theorem qUa {as : List AS} {rs : RS} {X : Type} {S : Nat → AD as → Option X} {pack : X → RL rs.cells} : zVa fun k nm args h => zCm as rs (S k) pack nm args h := by
 intro k nm args h h' h1 h2
 cases hb : args.any yX with
 | true => rw [h2 hb]
 | false =>
  have hh := h1 hb
  show zCm as rs (S k) pack nm args h = zCm as rs (S k) pack nm args h'
  unfold zCm
  rw [qZr (h := h) (h' := h') fun id hid => hh id (.inl hid)]
  cases e : zEe h' as args with
  | none => rfl
  | some p =>
   obtain ⟨args', u⟩ := p
   obtain ⟨k1, k2⟩ := yK2 e
   dsimp only
   rw [vCc (h := qK h u) (h' := qK h' u) (k2 hb) fun id hid => zH1 (hh id (.inl (k1 id hid)))]
   cases inA (qK h' u) as args' with
   | none => rfl
   | some d =>
    dsimp only
    cases hle : Nat.ble rs.cells.length 100 with
    | false => simp
    | true =>
     have hle := Nat.le_of_ble_eq_true hle
     rw [qLl (h := h) (h' := h') fun i hi => hh _ (.inr (by
      simp only [zCj, Bool.and_eq_true]
      exact ⟨Nat.ble_eq_true_of_le (by omega), by simp [Nat.blt_eq]; omega⟩))]
def zC0 : Code → List Code
 | .seq a b => zC0 a ++ zC0 b
 | .cond _ a b => zC0 a ++ zC0 b
 | .block _ b => zC0 b
 | .loop b => [b]
 | _ => []
def zZ (c : Code) (i : Nat) : Code := match (zC0 c)[i]? with
 | some b => b
 | none => .skip
def qD (fn : Func) : Code := match fn.body with
 | some c => c
 | none => .skip
theorem vB3 {P : Program} {A : qA} {pre na nt : Nat} : ∀ (c : Code), (∀ b ∈ zC0 c, ∀ L, zO2 A b = some L → qE P pre na nt b L) → wN P A pre na nt c := by
 intro c
 induction c with
 | seq a b iha ihb => exact fun h => ⟨iha fun x hx => h x (List.mem_append_left _ hx), ihb fun x hx => h x (List.mem_append_right _ hx)⟩
 | cond t a b iha ihb => exact fun h => ⟨iha fun x hx => h x (List.mem_append_left _ hx), ihb fun x hx => h x (List.mem_append_right _ hx)⟩
 | block id b ih => exact fun h => ih h
 | loop b ih => exact fun h => h b (List.mem_cons_self ..)
 | _ => exact fun _ => trivial
theorem zGk {P : Program} {A : qA} {pre na nt : Nat} {c : Code} {n : Nat} (hn : (zC0 c).length = n) (h : ∀ i, i < n → ∃ L, zO2 A (zZ c i) = some L ∧ qE P pre na nt (zZ c i) L) : wN P A pre na nt c :=
 vB3 c fun b hb L hL => by
  obtain ⟨i, hi, rfl⟩ := List.getElem_of_mem hb
  have e : zZ c i = (zC0 c)[i] := by
   unfold zZ
   rw [List.getElem?_eq_getElem hi]
  obtain ⟨L', h1, h2⟩ := h i (by omega)
  rw [e] at h1 h2
  rw [hL] at h1
  cases h1
  exact h2
theorem vGi {P : Program} {A : qA} {pre na nt : Nat} {c : Code} (hn : (zC0 c).length = 0) : wN P A pre na nt c := zGk hn fun i hi => absurd hi (Nat.not_lt_zero i)
theorem body_loops {P : Program} {A : qA} {pre na : Nat} {fn : Func} (h : wN P A pre na fn.ntmps (qD fn)) : ∀ c, fn.body = some c → wN P A pre na fn.ntmps c := fun c hc => by
 unfold qD at h
 rw [hc] at h
 exact h
theorem qAo {P : Program} {f : FuncId} {fn : Func} (hf : P.funcs[f]? = some fn) (hb : fn.body.isNone = false) (hn : (fn.name == "runtime.NumGoroutine") = false) : ∀ vs w, (callFunc f vs).run P w = .ok (.enter f vs) w := fun vs w => by
 have h1 : (program).run P w = .ok P w := rfl
 unfold callFunc
 simp only [Sem.run_bind, h1, Result.andThen_ok, hf, hn, hb, Bool.false_eq_true, if_false, Sem.run_pure]
abbrev zA (x : Int) : Int := IntKind.wrap .i64 x
abbrev qV (k : IntKind) (x y : Int) : Int := zE7 (fun _ a b => a &&& b) k x y
abbrev bor (k : IntKind) (x y : Int) : Int := zE7 (fun _ a b => a ||| b) k x y
abbrev shl (k : IntKind) (x y : Int) : Int := k.wrap (x * 2 ^ (min y.toNat k.bits))
abbrev shr (k : IntKind) (x y : Int) : Int := x.fdiv (2 ^ (min y.toNat k.bits))
abbrev qR (n b : Nat) : Bool := Nat.ble (n * b) 70368744177664 && Nat.ble n 70368744177664
abbrev zL2 (l c : Int) (b : Nat) : Bool := decide (0 ≤ l) && decide (l ≤ c) && decide (c * (b : Int) ≤ 70368744177664) && decide (c ≤ 70368744177664)
abbrev zQw (lt : Bool) (x y : Int) : Int := bif lt then (bif decide (y < x) then y else x) else (bif decide (y > x) then y else x)
abbrev qF2 (xs : List (List Int)) (n : Nat) : Option (List (List Int)) :=
 zBr (.c .mat) (fun d => d.1) (.c (.osl 0 none)) ⟨fun _ => .undef, fun _ => some (.pmat 0 xs n)⟩
theorem vHu (xs : List (List Int)) (n : Nat) : qF2 xs n = bif Nat.beq xs.length n then some xs else none := by
 unfold qF2 zBr zSg RS.get RS.cells
 dsimp only [List.map, RC.isFro, jE, yW, zDc, qK]
 cases h : Nat.beq xs.length n <;> simp [zBd, zDp, h]
theorem vCj {l : List Nat} {p : Nat → Bool} (hl : ∀ t ∈ l, p t = true) (t : Nat) (h : l.any (Nat.beq t) = true) : p t = true := by
 obtain ⟨x, hx, e⟩ := List.any_eq_true.1 h
 have : t = x := by simpa using e
 exact this ▸ hl x hx
theorem yVu {P : Program} : zQt P (fun _ => false) := fun t h => by cases h
open Go.ChangeShapes Go.WideShapes Go.ChangeAt Go.RowKit
def zR7 (f : TypeId → Option Ty) : Nat → List (Nat × TypeId) → Option Ty
 | _, [] => none
 | off, [x] => bif Nat.beq x.1 off then f x.2 else none
 | off, x :: y :: l => bif Nat.beq x.1 off then (match f x.2 with
  | some a => (match zR7 f (off + a.size) (y :: l) with | some b => some (.pair a b) | none => none)
  | none => none) else none
def zIs (P : Program) : TypeDesc → List (Nat × TypeId)
 | .struct fs => fs.toList.map fun f => (f.offset, f.type)
 | .array n e => (List.range n).map fun i => (i * P.cellsOf e, e)
 | _ => []
def zCo (P : Program) : Nat → TypeId → Option Ty
 | 0, _ => none
 | d + 1, t => match P.underlying t with
  | some (.int k) => bif Nat.beq (P.cellsOf t) 1 then some (.int k) else none
  | some .bool => bif Nat.beq (P.cellsOf t) 1 then some .bool else none
  | some (.slice e) => bif Nat.beq (P.cellsOf t) 1 then (match zCo P d e with | some a => some (.sl a) | none => none) else none
  | some x => match zR7 (zCo P d) 0 (zIs P x) with
   | some a => bif Nat.beq (P.cellsOf t) a.size then some a else none
   | none => none
  | none => none
def Wf : (t : Ty) → t.den → Prop
 | .int k, n => (Lit.int k n).wf = true
 | .bool, _ => True
 | .sl t, xs => xs.length ≤ maxLen ∧ ∀ i (h : i < xs.length), Wf t xs[i]
 | .pair a b, p => Wf a p.1 ∧ Wf b p.2
theorem qJc {P : Program} : ∀ {d : Nat} {t : TypeId} {ty : Ty}, zCo P d t = some ty → P.cellsOf t = ty.size
 | 0, _, _, h => by cases h
 | d + 1, t, ty, h => by
  unfold zCo at h
  split at h
  ·obtain ⟨h1, h2⟩ := vJ h; cases h2; exact Nat.eq_of_beq_eq_true h1
  ·obtain ⟨h1, h2⟩ := vJ h; cases h2; exact Nat.eq_of_beq_eq_true h1
  ·obtain ⟨h1, h2⟩ := vJ h
   split at h2
   ·cases h2; exact Nat.eq_of_beq_eq_true h1
   ·cases h2
  ·split at h
   ·obtain ⟨h1, h2⟩ := vJ h; cases h2; simpa using h1
   ·cases h
  ·cases h
section
variable {H : Type} {enc : TypeId × Value → H} {P : Program} {w : World}
abbrev zSw (w : World) : Nat → Prop := fun b => b < w.heap.size
theorem vEb {a : Addr} {n : Nat} {cs : List Value} (h : w.cells? 0 a n = some cs) : cs.length = n ∧ ∀ i, i < n → ∃ v, cs[i]? = some v ∧ w.cell? (a.add i) = some v := by
 unfold World.cells? at h
 rw [if_pos (Nat.zero_le _)] at h
 have hl := mapM_some_length h
 have hg := mapM_some_get h
 simp at hl
 refine ⟨hl, fun i hi => ?_⟩
 have := hg i i (by simp [hi])
 have hlt : i < cs.length := by omega
 rw [List.getElem?_eq_getElem hlt] at this
 exact ⟨cs[i], List.getElem?_eq_getElem hlt, this⟩
theorem qRd {a : Addr} {v : Value} (h : w.cell? a = some v) : a.spot = none ∧ a.block < w.heap.size ∧ qW w.heap a.block a.off = some v := by
 unfold World.cell? at h
 cases hb : w.heap[a.block]? with
 | none => rw [hb] at h; cases h
 | some o =>
  rw [hb] at h
  cases o with
  | cells c e z =>
   dsimp only at h
   split at h
   ·cases h
   ·rename_i hs
    refine ⟨by simpa using hs, ?_, ?_⟩
    ·exact (Array.getElem?_eq_some_iff.1 hb).1
    ·unfold qW; rw [hb]; exact h
  | _ => cases h
theorem yIb {α : Type} {p : Nat → α → Prop} : ∀ (n : Nat), (∀ i, i < n → ∃ x, p i x) → ∃ xs : List α, xs.length = n ∧ ∀ i (h : i < xs.length), p i xs[i]
 | 0, _ => ⟨[], rfl, fun i h => absurd h (Nat.not_lt_zero i)⟩
 | n + 1, h => by
  obtain ⟨xs, h1, h2⟩ := yIb n fun i hi => h i (by omega)
  obtain ⟨x, hx⟩ := h n (by omega)
  refine ⟨xs ++ [x], by simp [h1], fun i hi => ?_⟩
  by_cases hin : i < xs.length
  ·rw [List.getElem_append_left hin]; exact h2 i hin
  ·have : i = n := by simp at hi; omega
   subst this
   rw [List.getElem_append_right (by omega)]
   simp [h1]
   exact hx
def zUf (P : Program) (w : World) (ty : Ty) (cs : List Value) : Prop := ∃ x : ty.den, cs.length = ty.size ∧ qB w.heap (zSw w) ty x (fun j => cs[j]?) ∧ Wf ty x
theorem qTu {d : Nat} {fuel : Nat} (ih : ∀ (t : TypeId) (ty : Ty) (cs : List Value) (x : DataW H × List MemPlace), zCo P d t = some ty → DataW.trod enc P w 0 (fun _ => true) true fuel t cs = some x → zUf P w ty cs) :
  ∀ (l : List (Nat × TypeId)) (off : Nat) (ty : Ty) (cs : List Value) (out : List (DataW H × List MemPlace)), zR7 (zCo P d) off l = some ty → off + ty.size ≤ cs.length →
   (l.mapM fun p => DataW.trod enc P w 0 (fun _ => true) true fuel p.2 ((cs.drop p.1).take (P.cellsOf p.2))) = some out → zUf P w ty ((cs.drop off).take ty.size)
 | [], off, ty, cs, out, h, _, _ => by cases h
 | [x], off, ty, cs, out, h, hc, hm => by
  obtain ⟨h1, h2⟩ := vJ h
  have ho : x.1 = off := by simpa using h1
  simp only [List.mapM_cons, List.mapM_nil, Option.pure_def, Option.bind_eq_bind, Option.bind_eq_some_iff] at hm
  obtain ⟨y, hy, _⟩ := hm
  rw [ho, qJc h2] at hy
  exact ih _ _ _ _ h2 hy
 | x :: y :: l, off, ty, cs, out, h, hc, hm => by
  obtain ⟨h1, h2⟩ := vJ h
  have ho : x.1 = off := by simpa using h1
  split at h2
  ·rename_i a ha
   split at h2
   ·rename_i b hb
    cases h2
    simp only [Ty.size] at hc ⊢
    rw [List.mapM_cons] at hm
    simp only [Option.pure_def, Option.bind_eq_bind, Option.bind_eq_some_iff] at hm
    obtain ⟨z, hz, zs, hzs, _⟩ := hm
    rw [ho, qJc ha] at hz
    obtain ⟨p, p1, p2, p3⟩ := ih _ _ _ _ ha hz
    obtain ⟨q, q1, q2, q3⟩ := qTu ih (y :: l) (off + a.size) b cs zs hb (by omega) hzs
    refine ⟨(p, q), by simp only [List.length_take, List.length_drop, Ty.size]; omega, ⟨?_, ?_⟩, p3, q3⟩
    ·refine yH (fun _ h => h) (fun _ _ => rfl) a p _ _ (fun j hj => ?_) p2
     simp only [List.getElem?_take, List.getElem?_drop]
     rw [if_pos (by omega), if_pos hj]
    ·refine yH (fun _ h => h) (fun _ _ => rfl) b q _ _ (fun j hj => ?_) q2
     simp only [List.getElem?_take, List.getElem?_drop]
     rw [if_pos (by omega), if_pos hj]
     congr 1; omega
   ·cases h2
  ·cases h2
theorem qIs : ∀ (d : Nat) (t : TypeId) (ty : Ty) (fuel : Nat) (cs : List Value) (x : DataW H × List MemPlace), zCo P d t = some ty → DataW.trod enc P w 0 (fun _ => true) true fuel t cs = some x → zUf P w ty cs
 | 0, _, _, _, _, _, h, _ => by cases h
 | d + 1, t, ty, 0, cs, x, _, h => by simp [DataW.trod] at h
 | d + 1, t, ty, fuel + 1, cs, x, hl, h => by
  unfold zCo at hl
  split at hl
  ·rename_i k hu
   obtain ⟨_, hl⟩ := vJ hl
   cases hl
   obtain ⟨n, rfl, _, hw⟩ := DataW.trod_int hu h
   exact ⟨n, rfl, rfl, hw⟩
  ·rename_i hu
   obtain ⟨_, hl⟩ := vJ hl
   cases hl
   obtain ⟨b, rfl, _⟩ := DataW.trod_bool hu h
   exact ⟨b, rfl, rfl, trivial⟩
  ·rename_i e hu
   obtain ⟨_, hl⟩ := vJ hl
   split at hl
   ·rename_i a ha
    cases hl
    rcases DataW.trod_slice hu h with ⟨rfl, _⟩ | ⟨ad, len, cap, elems, rest, n, hn, rfl, _, _, hlc, hm, hel, hg, _, _⟩
    ·refine ⟨([] : List a.den), rfl, ?_, ?_⟩
     ·simp only [qB]
      exact ⟨none, 0, 0, rfl, rfl, Nat.le_refl _, .inl ⟨trivial, fun _ => rfl⟩⟩
     ·simp only [Wf]
      exact ⟨Nat.zero_le _, fun i hi => absurd hi (Nat.not_lt_zero i)⟩
    ·have key : ∀ i, i < len → ∃ x : a.den, (qB w.heap (zSw w) a x (fun j => qW w.heap ad.block (ad.off + i * a.size + j)) ∧ (i = 0 → ad.spot = none) ∧ ad.block < w.heap.size) ∧ Wf a x := by
      intro i hi
      have h1 := hg i hi
      have hil : i < elems.length := by omega
      rw [List.getElem?_eq_getElem hil, Option.bind_eq_some_iff] at h1
      obtain ⟨cs, hcs, htr⟩ := h1
      rw [qJc ha] at hcs
      obtain ⟨y, y1, y2, y3⟩ := qIs d e a n cs _ ha htr
      obtain ⟨c1, c2⟩ := vEb hcs
      have addb : ∀ j, ((ad.add (i * a.size)).add j).block = ad.block ∧ ((ad.add (i * a.size)).add j).off = ad.off + i * a.size + j := by
       intro j
       unfold Addr.add
       constructor
       ·split <;> split <;> rfl
       ·split <;> split <;> simp_all
      have at0 : (i = 0 → ad.spot = none) ∧ ad.block < w.heap.size := by
       obtain ⟨v, _, hv⟩ := c2 0 a.size_pos
       have h1 := qRd hv
       refine ⟨fun h0 => ?_, by have := h1.2.1; rwa [(addb 0).1] at this⟩
       have h2 := h1.1
       subst h0
       simpa [Addr.add] using h2
      refine ⟨y, ⟨yH (fun _ h => h) (fun _ _ => rfl) a y _ _ (fun j hj => ?_) y2, at0⟩, y3⟩
      obtain ⟨v, v1, v2⟩ := c2 j hj
      rw [v1]
      have h1 := (qRd v2).2.2
      rwa [(addb j).1, (addb j).2] at h1
     obtain ⟨xs, x1, x2⟩ := yIb len key
     refine ⟨xs, rfl, ?_, ?_⟩
     ·simp only [qB]
      refine ⟨some ad, len, cap, rfl, x1.symm, hlc, ?_⟩
      by_cases h0 : xs = []
      ·exact .inl ⟨h0, fun h => by cases h⟩
      ·refine .inr ⟨ad.block, ad.off, ?_, ?_, fun i hi => (x2 i hi).1.1⟩
       ·have := (x2 0 (List.length_pos_iff.2 h0)).1.2.1 rfl
        cases ad
        simp at this
        rw [this]
       ·exact (x2 0 (List.length_pos_iff.2 h0)).1.2.2
     ·simp only [Wf]
      exact ⟨by omega, fun i hi => (x2 i hi).2⟩
   ·cases hl
  ·rename_i y n1 n2 n3 hu
   split at hl
   ·rename_i a ha
    obtain ⟨hsz, hl⟩ := vJ hl
    cases hl
    have hsz : P.cellsOf t = ty.size := by simpa using hsz
    have fin : ∀ out, cs.length = P.cellsOf t → ((zIs P y).mapM fun p => DataW.trod enc P w 0 (fun _ => true) true fuel p.2 ((cs.drop p.1).take (P.cellsOf p.2))) = some out → zUf P w ty cs := by
     intro out hlen hmap
     have := qTu (fun t' ty' cs' x' h1 h2 => qIs d t' ty' fuel cs' x' h1 h2) (zIs P y) 0 ty cs out ha (by omega) hmap
     rwa [List.drop_zero, List.take_of_length_le (by omega)] at this
    unfold DataW.trod at h
    rw [hu] at h
    cases y with
    | struct fs =>
     dsimp only at h
     split at h
     ·rename_i hlen
      rw [Option.map_eq_some_iff] at h
      obtain ⟨out, ho, _⟩ := h
      refine fin out hlen ?_
      simp only [zIs, List.mapM_map]
      exact ho
     ·cases h
    | array n e =>
     dsimp only at h
     split at h
     ·rename_i hlen
      rw [Option.map_eq_some_iff] at h
      obtain ⟨out, ho, _⟩ := h
      refine fin out hlen ?_
      simp only [zIs, List.mapM_map]
      exact ho
     ·cases h
    | _ => simp [zIs, zR7] at ha
   ·cases hl
  ·cases hl
end
open Go.ChangeShapes Go.WideShapes Go.ChangeAt Go.RowKit
def zFk (sh : Bool) : Ty → List PC
 | .int k => [.int k]
 | .bool => [.bool]
 | .sl t => [.dat sh t]
 | .pair a b => zFk sh a ++ zFk sh b
def zG5 : (l m : List PC) → PL l → PL m → PL (l ++ m)
 | [], _, _, e => e
 | _ :: l, m, d, e => (d.1, zG5 l m d.2 e)
theorem qNv : ∀ (l m : List PC) (d : PL l) (e : PL m), vB (l ++ m) (zG5 l m d e) = vB l d ++ vB m e
 | [], _, _, _ => rfl
 | p :: l, m, d, e => by
  show zKi p d.1 :: vB (l ++ m) (zG5 l m d.2 e) = zKi p d.1 :: (vB l d.2 ++ vB m e)
  rw [qNv l m d.2 e]
def zD5 (sh : Bool) : (t : Ty) → t.den → PL (zFk sh t)
 | .int _, n => (n, ())
 | .bool, b => (b, ())
 | .sl _, xs => (xs, ())
 | .pair a b, p => zG5 _ _ (zD5 sh a p.1) (zD5 sh b p.2)
def WfP : (p : PC) → p.den → Prop
 | .int k, n => (Lit.int k n).wf = true
 | .bool, _ => True
 | .dat _ t, xs => Wf (.sl t) xs
 | .fn _, _ => True
 | .nil, _ => True
def WfL : (l : List PC) → PL l → Prop
 | [], _ => True
 | p :: l, d => WfP p d.1 ∧ WfL l d.2
theorem qHb : ∀ (l m : List PC) (d : PL l) (e : PL m), WfL l d → WfL m e → WfL (l ++ m) (zG5 l m d e)
 | [], _, _, _, _, h => h
 | _ :: l, m, d, e, h, h' => ⟨h.1, qHb l m d.2 e h.2 h'⟩
theorem qCy (sh : Bool) : ∀ (t : Ty) (x : t.den), Wf t x → WfL (zFk sh t) (zD5 sh t x)
 | .int _, _, h => ⟨h, trivial⟩
 | .bool, _, h => ⟨h, trivial⟩
 | .sl _, _, h => ⟨h, trivial⟩
 | .pair a b, p, h => qHb _ _ _ _ (qCy sh a p.1 h.1) (qCy sh b p.2 h.2)
theorem zPj : ∀ (l : List PC) (d : PL l), (vB l d).length = l.length
 | [], _ => rfl
 | p :: l, d => by
  show (vB l d.2).length + 1 = l.length + 1
  rw [zPj l d.2]
def M0 (w : World) : zC := ⟨fun _ => none, zSw w, zSw w, zBn [], w.heap⟩
theorem yYa (w : World) : Ok (M0 w) where
 obj := fun id o h => by cases h
 non := fun _ _ => rfl
 disj := fun i j oi oj Ci Cj b _ h => by cases h
 own := fun b h => by
  obtain ⟨id, o, C, h1, _⟩ := h
  cases h1
 GF := fun _ h => h
 Flt := fun _ h => h
theorem qLw (sh : Bool) {w : World} : ∀ (t : Ty) (x : t.den) (cs : List Value), cs.length = t.size → qB w.heap (zSw w) t x (fun j => cs[j]?) → zQ (zV (M0 w)) (vB (zFk sh t) (zD5 sh t x)) cs
 | .int k, n, cs, hl, h => by
  match cs, hl with
  | [c], _ =>
   have e : c = .int k n := by simpa [qB] using h
   exact ⟨e, trivial⟩
 | .bool, b, cs, hl, h => by
  match cs, hl with
  | [c], _ =>
   have e : c = .bool b := by simpa [qB] using h
   exact ⟨e, trivial⟩
 | .sl t, xs, cs, hl, h => by
  match cs, hl with
  | [c], _ =>
   refine ⟨?_, trivial⟩
   have h' := yH (F' := (bif sh then (M0 w).G else (M0 w).F)) (fun b h => by cases sh <;> exact h) (fun b _ => rfl) (.sl t) xs (fun j => [c][j]?) (fun _ => some c) (fun j hj => by
    have : j = 0 := by simp [Ty.size] at hj; exact hj
    subst this; rfl) h
   exact h'
 | .pair a b, p, cs, hl, h => by
  have hl' : cs.length = a.size + b.size := hl
  have h1 := qLw sh a p.1 (cs.take a.size) (by rw [List.length_take]; omega) (yH (fun _ h => h) (fun _ _ => rfl) a p.1 _ _ (fun j hj => by
   rw [List.getElem?_take, if_pos hj]) h.1)
  have h2 := qLw sh b p.2 (cs.drop a.size) (by rw [List.length_drop]; omega) (yH (fun _ h => h) (fun _ _ => rfl) b p.2 _ _ (fun j hj => by
   rw [List.getElem?_drop]; congr 1; omega) h.2)
  show zQ _ (vB (zFk sh a ++ zFk sh b) (zG5 _ _ (zD5 sh a p.1) (zD5 sh b p.2))) cs
  rw [qNv]
  have := zQ.append h1 h2
  rwa [List.take_append_drop] at this
def zEd (sh : Bool) (P : Program) (t : TypeId) (ty : Ty) : AS := bif wQ P t == some true then .agg (zFk sh ty) else (match ty with
 | .int k => .c (.int k) | .bool => .c .bool | .sl t => .c (.dat sh t) | .pair a b => .agg (zFk sh (.pair a b)))
def zV8 (P : Program) : List TypeId → Option (List Ty)
 | [] => some []
 | t :: ts => match zCo P 8 t, zV8 P ts with
  | some a, some l => some (a :: l)
  | _, _ => none
def zFd (sh : Bool) (P : Program) : List TypeId → List Ty → List AS
 | t :: ts, a :: l => zEd sh P t a :: zFd sh P ts l
 | _, _ => []
theorem yTd {P : Program} {t : TypeId} {ty : Ty} (h : zCo P 8 t = some ty) (ha : (wQ P t == some true) = false) : (∃ k, P.underlying t = some (.int k) ∧ ty = .int k) ∨ (P.underlying t = some .bool ∧ ty = .bool) ∨ ∃ e a, P.underlying t = some (.slice e) ∧ ty = .sl a := by
 unfold zCo at h
 split at h
 ·rename_i k hu
  obtain ⟨_, h⟩ := vJ h
  cases h
  exact .inl ⟨k, hu, rfl⟩
 ·rename_i hu
  obtain ⟨_, h⟩ := vJ h
  cases h
  exact .inr (.inl ⟨hu, rfl⟩)
 ·rename_i e hu
  obtain ⟨_, h⟩ := vJ h
  split at h
  ·cases h; exact .inr (.inr ⟨e, _, hu, rfl⟩)
  ·cases h
 ·rename_i x _ _ _ hu
  split at h
  ·rename_i a hx
   exfalso
   unfold wQ at ha
   rw [hu] at ha
   cases x <;> first | (simp [zIs, zR7] at hx; done) | (cases ha)
  ·cases h
 ·cases h
section
variable {H : Type} {enc : TypeId × Value → H} {P : Program} {w : World}
theorem ySs (sh : Bool) {t : TypeId} {ty : Ty} {v : Value} {d : DataW H} {ps : List MemPlace} {base : Nat} (hl : zCo P 8 t = some ty) (hok : Value.okWide P w .any base t v) (h : DataW.Trod enc P w 0 (fun _ => true) true t v d ps) :
  ∃ x : PL (zEd sh P t ty).cells, (∀ n, zX (M0 w) ((zEd sh P t ty).mk n (vB _ x)) v) ∧ (zEd sh P t ty).boxes (vB _ x) = [] ∧ WfL _ x := by
 obtain ⟨fuel, hf⟩ := h
 obtain ⟨x, x1, x2, x3⟩ := qIs 8 t ty fuel _ _ hl hf
 have hrep := qLw sh ty x _ x1 x2
 have hwf := qCy sh ty x x3
 unfold zEd
 cases ha : (wQ P t == some true) with
 | true =>
  simp only [cond_true]
  refine ⟨zD5 sh ty x, fun n => ?_, rfl, hwf⟩
  have ha' : wQ P t = some true := by simpa using ha
  have hv : ∃ cs, v = .agg cs := by
   unfold wQ at ha'
   unfold Value.okWide at hok
   split at ha' <;> first | (rename_i e; rw [e] at hok; obtain ⟨cs, h1, _⟩ := hok; exact ⟨cs, h1⟩) | (cases ha')
  obtain ⟨cs, rfl⟩ := hv
  exact ⟨cs, rfl, hrep⟩
 | false =>
  simp only [cond_false]
  rcases yTd hl ha with ⟨k, hu, rfl⟩ | ⟨hu, rfl⟩ | ⟨e, a, hu, rfl⟩
  ·have hv : ∃ n, v = .int k n := by
    simp only [Value.okWide, hu, Cell.okWide] at hok
    cases v <;> simp_all [Cell.ok]
   obtain ⟨n0, rfl⟩ := hv
   exact ⟨zD5 sh _ x, fun n => hrep.1, rfl, hwf⟩
  ·have hv : ∃ b, v = .bool b := by
    simp only [Value.okWide, hu, Cell.okWide] at hok
    cases v <;> simp_all [Cell.ok]
   obtain ⟨b, rfl⟩ := hv
   exact ⟨zD5 sh _ x, fun n => hrep.1, rfl, hwf⟩
  ·obtain ⟨ad, len, cap, rfl⟩ := okWide_slice hu hok
   exact ⟨zD5 sh _ x, fun n => hrep.1, rfl, hwf⟩
theorem yGt (sh : Bool) {base : Nat} : ∀ (ts : List TypeId) (tys : List Ty) (vs : List Value) (ds : List (DataW H)) (ps : List MemPlace) (n : Nat), zV8 P ts = some tys → (∀ (j : Nat) (t : TypeId) (v : Value), ts[j]? = some t → vs[j]? = some v → Value.okWide P w .any base t v) →
  DataW.TrodAll enc P w 0 (fun _ => true) true ts vs ds ps → ∃ x : AD (zFd sh P ts tys), zQ (zX (M0 w)) (zBk (zFd sh P ts tys) (vB _ x) n).1 vs ∧ (zBk (zFd sh P ts tys) (vB _ x) n).2 = [] ∧ WfL _ x
 | [], tys, vs, ds, ps, n, hl, hok, h => by
  cases hl
  match vs, ds, h with
  | [], [], _ => exact ⟨(), trivial, rfl, trivial⟩
  | _ :: _, [], h => exact False.elim h
  | _ :: _, _ :: _, h => exact False.elim h
  | [], _ :: _, h => exact False.elim h
 | t :: ts, tys, vs, ds, ps, n, hl, hok, h => by
  unfold zV8 at hl
  split at hl
  ·rename_i a l ha hl'
   cases hl
   match vs, ds, h with
   | [], [], h => exact False.elim h
   | [], _ :: _, h => exact False.elim h
   | _ :: _, [], h => exact False.elim h
   | v :: vs, d :: ds, h =>
    obtain ⟨p, q, h1, h2, _⟩ := h
    obtain ⟨x, x1, x2, x3⟩ := ySs sh ha (hok 0 t v rfl rfl) h1
    obtain ⟨y, y1, y2, y3⟩ := yGt sh ts l vs ds q n hl' (fun j t' v' h1 h2 => hok (j + 1) t' v' h1 h2) h2
    refine ⟨zG5 _ _ x y, ?_⟩
    have e : vB ((zFd sh P (t :: ts) (a :: l)).flatMap AS.cells) (zG5 _ _ x y) = vB _ x ++ vB _ y := qNv _ _ _ _
    have ht : (vB _ x ++ vB _ y).take (zEd sh P t a).cells.length = vB _ x := by
     rw [List.take_append_of_le_length (by rw [zPj]; exact Nat.le_refl _), List.take_of_length_le (by rw [zPj]; exact Nat.le_refl _)]
    have hd : (vB _ x ++ vB _ y).drop (zEd sh P t a).cells.length = vB _ y := by
     rw [List.drop_append_of_le_length (by rw [zPj]; exact Nat.le_refl _), List.drop_of_length_le (by rw [zPj]; exact Nat.le_refl _), List.nil_append]
    rw [e]
    have em : zBk (zFd sh P (t :: ts) (a :: l)) (vB _ x ++ vB _ y) n = ((zEd sh P t a).mk n (vB _ x) :: (zBk (zFd sh P ts l) (vB _ y) n).1, (zBk (zFd sh P ts l) (vB _ y) n).2) := by
     show ((zEd sh P t a).mk n _ :: _, (zEd sh P t a).boxes _ ++ _) = _
     rw [ht, hd, x2]
     rfl
    rw [em]
    exact ⟨⟨x1 n, y1⟩, y2, qHb _ _ _ _ x3 y3⟩
  ·cases hl
theorem lawArgs (sh : Bool) {base : Nat} {ts : List TypeId} {tys : List Ty} {asp : List AS} {vs : List Value} {ds : List (DataW H)} {ps : List MemPlace} (hl : zV8 P ts = some tys) (has : zFd sh P ts tys = asp)
  (hok : ∀ (j : Nat) (t : TypeId) (v : Value), ts[j]? = some t → vs[j]? = some v → Value.okWide P w .any base t v) (h : DataW.TrodAll enc P w 0 (fun _ => true) true ts vs ds ps) :
  ∃ x : AD asp, zQ (zX (M0 w)) (zBk asp (vB _ x) 0).1 vs ∧ (zBk asp (vB _ x) 0).2 = [] ∧ WfL _ x := by
 subst has
 exact yGt sh ts tys vs ds ps 0 hl hok h
theorem law_calls {E : qC} (hE : zAh E) (hS : zA9 E.sums) (hm : E.P.follows .mixedOrders = true) {A : qA} {k pre : Nat} {f : FuncId} {fn : Func} (hf : E.P.funcs[f]? = some fn) (hL : ∀ c, fn.body = some c → wN E.P A pre 0 fn.ntmps c)
  {as : List AS} {d : AD as} {unpack : RL (RS.c .bool).cells → Bool} (hup : ∀ d, unpack d = d.1) (hev : evF E A k pre 0 fn (zDn as d).1 (zDn as d).2 (zBr (.c .bool) unpack) = some true) (hb : (zBk as (vB _ d) 0).2 = []) {vs : Array Value} (hv : zQ (zX (M0 w)) (zBk as (vB _ d) 0).1 vs.toList) :
  Calls E.P f vs w fun e w' => e = .returned (.bool true) ∧ Below w.heap.size w w' := by
 have hh : (M0 w).h = (zDn as d).2 := by
  show zBn [] = zBn (zBk as (vB _ d) 0).2
  rw [hb]
 refine Calls.mono (qLs hE hS hm hf hL hev (M := M0 w) (w := w) hh rfl (yYa w) hv) fun e w' he => ?_
 cases e with
 | returned rv =>
  obtain ⟨M', v, st, hK, _, hH, _, hg, hrv, o1, o2, o3, _⟩ := he
  refine ⟨?_, o1, o2, o3, ?_, fun b hb => ?_⟩
  ·unfold zBr at hK
   split at hK
   ·rename_i r hr
    have hKe : unpack r = true := by injection hK
    unfold zSg at hr
    split at hr
    ·rename_i cs hcs
     split at hr
     ·rename_i cs' u hfz
      obtain ⟨_, hr⟩ := vJ hr
      cases v with
      | c x =>
       cases hcs
       have e1 : cs' = [x] := by
        simp only [RS.cells, List.map, RC.isFro, jE] at hfz
        cases hfz; rfl
       subst e1
       have hr' : zBd (qK st.h u) [.bool] [x] = some r := hr
       cases x with
       | bool b =>
        have e2 : r = (b, ()) := by simp only [zBd, zDp] at hr'; cases hr'; rfl
        have : rv = .bool b := hrv
        have hb : b = true := by have := (hup r).symm.trans hKe; rw [e2] at this; exact this
        rw [this, hb]
       | _ => simp [zBd, zDp] at hr'
      | _ => cases hcs
     ·cases hr
    ·cases hr
   ·cases hK
  ·have := hg.size
   rw [hH] at this
   exact this
  ·have := hg.same b hb
   rw [hH] at this
   exact this
 | _ => exact he.elim
end
inductive XC where
 | p (c : PC) | own (t : Ty) | mat | map
abbrev XC.den : XC → Type
 | .p c => c.den | .own t => List t.den | .mat => List (List Int) | .map => List (Int × Bool)
abbrev XL : List XC → Type
 | [] => Unit
 | c :: l => c.den × XL l
inductive AX where
 | c (x : XC) | agg (l : List PC) | ptr (io : Bool) (l : List XC) | fn (f : Nat) (caps : List (Bool × List XC))
def AX.cells : AX → List XC
 | .c x => [x]
 | .agg l => l.map .p
 | .ptr _ l => l
 | .fn _ caps => caps.flatMap (·.2)
abbrev XD (l : List AX) : Type := XL (l.flatMap AX.cells)
def AX.looks : AX → Bool
 | .ptr _ _ => true
 | .fn _ _ => true
 | _ => false
def zYx (l : List AX) (na : Nat) : Bool := l.zipIdx.all fun p => !p.1.looks || Nat.blt p.2 na
def zUc (h : Hp) (io : Bool) (id : Nat) : Option (List zH) := match io, h id with
 | true, some (.box true cells) => some cells
 | false, some (.box _ cells) => some cells
 | false, some (.robox cells) => some cells
 | _, _ => none
def zC9 (h : Hp) : List (Bool × List XC) → List Nat → Option (List zH × List (Bool × Nat))
 | [], [] => some ([], [])
 | (io, l) :: ls, id :: ids => match zUc h io id, zC9 h ls ids with
  | some cells, some (rest, bs) => bif Nat.beq cells.length l.length then some (cells ++ rest, (io, id) :: bs) else none
  | _, _ => none
 | _, _ => none
def AX.get (h : Hp) : AX → zG → Option (List zH × List (Bool × Nat))
 | .c _, .c x => some ([x], [])
 | .agg l, .agg xs => bif Nat.beq xs.length l.length then some (xs, []) else none
 | .ptr io l, .c (.ptr id 0) => zC9 h [(io, l)] [id]
 | .fn f caps, .c (.fn g ids) => bif Nat.beq f g then zC9 h caps ids else none
 | _, _ => none
def zBh (h : Hp) : List AX → List zG → Option (List zH × List (Bool × Nat))
 | [], [] => some ([], [])
 | s :: l, a :: as => match s.get h a, zBh h l as with
  | some (cs, bs), some (cs', bs') => some (cs ++ cs', bs ++ bs')
  | _, _ => none
 | _, _ => none
def inX (h : Hp) : (x : XC) → zH → Option x.den
 | .p p, c => inP h p c
 | .own t, .osl id none => match h id with
  | some (.arr true s xs) => zAd s t xs
  | _ => none
 | .mat, .osl id none => match h id with
  | some (.mat _ xs) => some xs
  | _ => none
 | .map, .map id => match h id with
  | some (.imap kvs) => some kvs
  | _ => none
 | _, _ => none
def zDs (h : Hp) : (l : List XC) → List zH → Option (XL l)
 | [], [] => some ()
 | x :: l, c :: cs => match inX h x c, zDs h l cs with
  | some d, some ds => some (d, ds)
  | _, _ => none
 | _, _ => none
def wL : List XC → List zH → List Nat
 | .p _ :: l, _ :: cs => wL l cs
 | _ :: l, .osl id _ :: cs => id :: wL l cs
 | _ :: l, .map id :: cs => id :: wL l cs
 | _ :: l, _ :: cs => wL l cs
 | _, _ => []
def zRr : List XC → List zH → List Nat
 | .p _ :: l, c :: cs => yS c ++ zRr l cs
 | _ :: l, _ :: cs => zRr l cs
 | _, _ => []
def wA : Nat := 500
def zAg : (l : List XC) → XL l → Nat → List zH × List Obj
 | [], _, _ => ([], [])
 | .p p :: l, d, n => let r := zAg l d.2 n; (zKi p d.1 :: r.1, r.2)
 | .own t :: l, d, n => let r := zAg l d.2 (n + 1); (.osl n none :: r.1, .arr true t d.1 :: r.2)
 | .mat :: l, d, n => let r := zAg l d.2 (n + 1); (.osl n none :: r.1, .mat 0 d.1 :: r.2)
 | .map :: l, d, n => let r := zAg l d.2 (n + 1); (.map n :: r.1, .imap d.1 :: r.2)
def zS4 : List (Bool × List XC) → List zH → List Obj
 | [], _ => []
 | (io, l) :: ls, cs => (bif io then .box true (cs.take l.length) else .robox (cs.take l.length)) :: zS4 ls (cs.drop l.length)
def AX.mk (n : Nat) (cs : List zH) : AX → zG
 | .c _ => match cs with | x :: _ => .c x | [] => .undef
 | .agg _ => .agg cs
 | .ptr _ _ => .c (.ptr n 0)
 | .fn f caps => .c (.fn f ((List.range caps.length).map (n + ·)))
def AX.boxes (cs : List zH) : AX → List Obj
 | .ptr io l => zS4 [(io, l)] cs
 | .fn _ caps => zS4 caps cs
 | _ => []
def mkX : List AX → List zH → Nat → List zG × List Obj
 | [], _, _ => ([], [])
 | s :: l, cs, n =>
  let mine := cs.take s.cells.length
  let bs := s.boxes mine
  let rest := mkX l (cs.drop s.cells.length) (n + bs.length)
  (s.mk n mine :: rest.1, bs ++ rest.2)
def zOu (bs rows : List Obj) : Hp := fun n => bif Nat.ble wA n then rows[n - wA]? else bs[n]?
def zEy (l : List AX) (d : XD l) : List zG × Hp :=
 let r := zAg (l.flatMap AX.cells) d wA
 let m := mkX l r.1 0
 (m.1, zOu m.2 r.2)
def zOp : List (Bool × List XC) → List Nat → Option (List Nat)
 | [], [] => some []
 | (io, _) :: ls, id :: ids => match zOp ls ids with
  | some l => some (bif io then id :: l else l)
  | none => none
 | _, _ => none
def AX.io : AX → zG → Option (List Nat)
 | .c _, _ => some []
 | .agg _, _ => some []
 | .ptr io l, .c (.ptr id 0) => zOp [(io, l)] [id]
 | .fn _ caps, .c (.fn _ ids) => zOp caps ids
 | _, _ => none
def zP5 : List AX → (Nat → zG) → Nat → Option (List Nat)
 | [], _, _ => some []
 | s :: l, t, n => match s.io (t n), zP5 l t (n + 1) with
  | some a, some b => some (a ++ b)
  | _, _ => none
def zSo (h : Hp) : List (List RC) → List Nat → Option (List zH)
 | [], [] => some []
 | o :: os, n :: ns => match h n, zSo h os ns with
  | some (.box true cells), some rest => bif Nat.beq cells.length o.length then some (cells ++ rest) else none
  | _, _ => none
 | _, _ => none
def zZv (st : St) (as : List AX) (rs : RS) (os : List (List RC)) (v : zG) : Option (RL (rs.cells ++ os.flatten)) :=
 match zP5 as st.t 0 with
 | none => none
 | some ids => match rs.get v, zSo st.h os ids with
  | some cs, some bs => bif zDc ids then (match jE st.h ((rs.cells ++ os.flatten).map RC.isFro) (cs ++ bs) with
   | some (cs, u) => bif zDc (yW (rs.cells ++ os.flatten) cs) then zBd (qK st.h u) (rs.cells ++ os.flatten) cs else none
   | none => none) else none
  | _, _ => none
def zQb (as : List AX) (rs : RS) (os : List (List RC)) {X : Type} (unpack : RL (rs.cells ++ os.flatten) → X) (v : zG) (st : St) : Option X := match zZv st as rs os v with
 | some d => some (unpack d)
 | none => none
def zF7 : List (List RC) → List zH → List (List zH)
 | [], _ => []
 | o :: os, cs => cs.take o.length :: zF7 os (cs.drop o.length)
def vF : List (Bool × Nat) → List Nat
 | [] => []
 | (true, id) :: l => id :: vF l
 | (false, _) :: l => vF l
def qAp : List (Bool × Nat) → List Nat
 | [] => []
 | (true, _) :: l => qAp l
 | (false, id) :: l => id :: qAp l
def zHu : List Nat → List (List zH) → qF
 | id :: ids, cs :: css => (id, .box true cs) :: zHu ids css
 | _, _ => []
def zC4 (ids : List Nat) : qF := ids.map fun id => (id, .gone)
def qXw (nm : Nat) (rs : RS) (os : List (List RC)) (ids : List Nat) (d : RL (rs.cells ++ os.flatten)) : zG × qF :=
 let r := zB9 nm (rs.cells ++ os.flatten) d
 (rs.mk (r.1.take rs.cells.length), r.2 ++ zHu ids (zF7 os (r.1.drop rs.cells.length)))
def qK1 (a b : List Nat) : Bool := a.all fun x => !b.any (Nat.beq x)
def zF0 (h : Hp) : AX → zG → Option (zG × qF)
 | .c (.p p), .c x => match jE h [p.isKept] [x] with
  | some ([x], u) => some (.c x, u)
  | _ => none
 | .agg l, .agg xs => match jE h (l.map PC.isKept) xs with
  | some (xs, u) => some (.agg xs, u)
  | none => none
 | _, a => some (a, [])
def zD9 (h : Hp) : List AX → List zG → Option (List zG × qF)
 | s :: l, a :: as => match zF0 h s a, zD9 h l as with
  | some (a, u), some (as, us) => some (a :: as, u ++ us)
  | _, _ => none
 | _, as => some (as, [])
def zEf (as : List AX) (rs : RS) (os : List (List RC)) {X : Type} (S : XD as → Option X) (pack : X → RL (rs.cells ++ os.flatten)) (nm : Nat) (args : List zG) (h : Hp) : yA :=
 match zD9 h as args with
 | none => .stuck
 | some (args, u) => match zBh (qK h u) as args with
  | none => .stuck
  | some (cs, bs) => match zDs (qK h u) (as.flatMap AX.cells) cs with
   | none => .stuck
   | some d =>
    let rows := wL (as.flatMap AX.cells) cs
    let mine := vF bs ++ rows
    bif zGb h nm (rs.cells ++ os.flatten).length && Nat.ble (rs.cells ++ os.flatten).length 100 && Nat.ble bs.length wA && zDc mine && qK1 mine (zRr (as.flatMap AX.cells) cs) && qK1 mine (qAp bs) then
     .call X (S d) (fun r => ((qXw nm rs os (vF bs) (pack r)).1, u ++ (zC4 rows ++ (qXw nm rs os (vF bs) (pack r)).2)))
    else .stuck
def zBc (M : zC) (mine : List Nat) (b : Nat) : Prop := ∃ id ∈ mine, ∃ C, M.κ id = some C ∧ b ∈ C.fp
structure LoX (M : zC) (mine : List Nat) (Ml : zC) : Prop where
 H : Ml.H = M.H
 F : Ml.F = fun b => b < M.H.size ∧ ¬ zBc M mine b
 G : Ml.G = M.G
def zCb (M : zC) (mine : List Nat) : Prop := ∀ id ∈ mine, ∃ o, M.h id = some o ∧ o.owned = true
theorem zBc.own {M : zC} {mine : List Nat} (ho : zCb M mine) {b : Nat} (h : zBc M mine b) : qQ M b := by
 obtain ⟨id, hid, C, hC, hb⟩ := h
 obtain ⟨o, h1, h2⟩ := ho id hid
 exact ⟨id, o, C, h1, h2, hC, hb⟩
theorem zFj {M : zC} (ok : Ok M) {mine : List Nat} (ho : zCb M mine) {b : Nat} (h : M.F b) : b < M.H.size ∧ ¬ zBc M mine b := ⟨ok.Flt b h, fun hh => (ok.own b (hh.own ho)).1 h⟩
theorem yGj {M M' : zC} (ok : Ok M) {mine : List Nat} (ho : zCb M mine) {id : Nat} {o : Obj} (hn : id ∉ mine) (hh : M'.h = yC M.h id o) (hκ : M'.κ = M.κ) (hH : M'.H = M.H) (ok' : Ok M') {b : Nat} (h : M'.G b) : b < M.H.size ∧ ¬ zBc M mine b := by
 have hf := ok'.GF b h
 refine ⟨by have := ok'.Flt b hf; rwa [hH] at this, fun hd => ?_⟩
 obtain ⟨jd, hj, C, hC, hb⟩ := hd
 obtain ⟨q, h1, h2⟩ := ho jd hj
 refine (ok'.own b ⟨jd, q, C, ?_, h2, ?_, hb⟩).1 hf
 ·rw [hh, yN _ _ (fun e => hn (by rw [← e]; exact hj))]; exact h1
 ·rw [hκ]; exact hC
theorem yWy {M : zC} (ok : Ok M) {mine : List Nat} (ho : zCb M mine) {c : zH} {v : Value} {t : Ty} {xs : List t.den} (hn : ∀ id ∈ yS c, id ∉ mine) (hv : zV M c v) (h : zBf M.h c = some ⟨t, xs⟩) :
  qB M.H (fun b => b < M.H.size ∧ ¬ zBc M mine b) (.sl t) xs (fun _ => some v) := by
 unfold zBf at h
 split at h
 ·rename_i sh s ys
  cases h
  cases sh with
  | true => exact yH (fun b hb => zFj ok ho (ok.GF b hb)) (fun _ _ => rfl) _ _ _ _ (fun _ _ => rfl) hv
  | false => exact yH (fun b hb => zFj ok ho hb) (fun _ _ => rfl) _ _ _ _ (fun _ _ => rfl) hv
 ·rename_i id r
  have hid' : id ∉ mine := hn id (by simp [yS])
  split at h
  ·rename_i own s ys hid
   cases h
   cases own with
   | false =>
    obtain ⟨C, hC, hO⟩ := ok.obj _ _ hid
    exact yH (fun b hb => zFj ok ho (ok.GF b hb)) (fun _ _ => rfl) _ _ _ _ (fun _ _ => rfl) (zHj hC hO hv)
   | true =>
    obtain ⟨M', h1, h2, h3, h4, h5⟩ := yGd ok hid
    obtain ⟨C, hC, hO⟩ := h3.obj id _ (by rw [h2]; exact yG _ _ _)
    have := zHj hC hO (hv.ext h4.ext)
    exact yH (fun b hb => yGj ok ho hid' h2 h5 h1 h3 hb) (fun b _ => by rw [h1]) _ _ _ _ (fun _ _ => rfl) this
  ·rename_i ver ys hid
   cases r with
   | some p => cases h
   | none =>
    cases h
    obtain ⟨M', h1, h2, h3, h4, h5⟩ := yHy ok hid
    obtain ⟨C, hC, hO⟩ := h3.obj id _ (by rw [h2]; exact yG _ _ _)
    have := zHj (r := none) hC hO (hv.ext h4.ext)
    exact yH (fun b hb => yGj ok ho hid' h2 h5 h1 h3 hb) (fun b _ => by rw [h1]) _ _ _ _ (fun _ _ => rfl) this
  ·cases h
 ·rename_i id i ver
  have hid' : id ∉ mine := hn id (by simp [yS])
  split at h
  ·rename_i v' ys hid
   cases hver : Nat.beq v' ver with
   | false => rw [hver] at h; cases h
   | true =>
    rw [hver] at h
    cases h
    have e : v' = ver := by simpa using hver
    subst e
    obtain ⟨C, hC, hO⟩ := ok.obj _ _ hid
    obtain ⟨C', hC', hone, _, hrow⟩ := hv
    rw [hC] at hC'; cases hC'
    obtain ⟨rb, rl, hr1, hr2⟩ := hrow hO.1
    by_cases hi : i < ys.length
    ·obtain ⟨B, rb', v2, k1, k2, k3, k4, k5, k6⟩ := zJ8 hO hi
     rw [hr1] at k3
     cases k3
     rw [show ys.getD i [] = ys[i] by simp [List.getD, hi]]
     simp only [qB]
     cases rb with
     | none =>
      obtain ⟨rfl, h0⟩ := hr2
      exact ⟨none, 0, 0, rfl, h0.symm, Nat.le_refl _, .inl ⟨List.eq_nil_of_length_eq_zero h0, fun _ => rfl⟩⟩
     | some R =>
      obtain ⟨a, c, rfl, h1, h2, h3⟩ := hr2
      refine ⟨_, _, c, rfl, rfl, h1, ?_⟩
      by_cases h0 : ys[i].length = 0
      ·exact .inl ⟨List.eq_nil_of_length_eq_zero h0, fun h => by cases h⟩
      ·have ha : a = 0 := by rcases h2 with h | h <;> omega
       subst ha
       have hR : R ∈ C.fp := by
        have : (some R, ys[i].length) ∈ C.rows := List.mem_of_getElem? hr1
        simp only [zS.fp, List.mem_append, List.mem_filterMap]
        exact .inr ⟨_, this, rfl⟩
       refine .inr ⟨R, 0, rfl, ⟨?_, fun hd => ?_⟩, fun j hj => ?_⟩
       ·have := k6 R rfl 0 (by omega)
        unfold qW at this
        cases hR : M.H[R]? with
        | none => rw [hR] at this; cases this
        | some x => exact (Array.getElem?_eq_some_iff.1 hR).1
       ·obtain ⟨jd, hj, D, hD, hb⟩ := hd
        obtain ⟨q, q1, q2⟩ := ho jd hj
        exact ok.disj jd id q _ D C R (fun e => hid' (by rw [← e]; exact hj)) q1 hid q2 rfl hD hC hb hR
       ·simp only [qB, Ty.size, Nat.zero_add, Nat.mul_one, Nat.add_zero]
        exact k6 R rfl j hj
    ·have : C.rows[i]? = none := List.getElem?_eq_none (by have := hO.2.2.2.1; omega)
     rw [this] at hr1; cases hr1
  ·cases h
 ·cases h
def TrX (M : zC) (mine : List Nat) (c c' : zH) : Prop := ∀ v Ml, LoX M mine Ml → zV M c v → zV Ml c' v
theorem vE2 {M : zC} (ok : Ok M) {mine : List Nat} (ho : zCb M mine) {p : PC} {c : zH} {d : p.den} (hn : ∀ id ∈ yS c, id ∉ mine) (h : inP M.h p c = some d) : TrX M mine c (zKi p d) := by
 intro v Ml lo hv
 unfold inP at h
 split at h
 ·rename_i k j n
  cases e : jM j k with
  | false => rw [e] at h; cases h
  | true => rw [e] at h; cases h; rw [← zFh e]; exact hv
 ·cases h; exact hv
 ·rename_i t c
  show qB Ml.H Ml.F _ _ _
  rw [lo.H, lo.F]
  unfold zHr at h
  split at h
  ·cases h
   rw [show v = .slice none 0 0 from hv]
   exact zS3
  ·split at h
   ·rename_i s ys hr
    obtain ⟨e, hx⟩ := zBe h
    subst e
    subst hx
    exact yWy ok ho hn hv hr
   ·cases h
 ·rename_i t s xs
  obtain ⟨e, hx⟩ := zBe h
  subst e
  subst hx
  show qB Ml.H Ml.G _ _ _
  rw [lo.H, lo.G]
  exact hv
 ·cases h
  rw [show v = .slice none 0 0 from hv]
  exact zS3
 ·rename_i f g
  cases e : Nat.beq f g with
  | false => rw [e] at h; cases h
  | true =>
   have : f = g := by simpa using e
   subst this
   obtain ⟨cv, rfl, hc⟩ := hv
   refine ⟨cv, rfl, ?_⟩
   generalize cv.toList = l at hc
   cases l with
   | nil => trivial
   | cons _ _ => exact hc.elim
 ·exact hv
 ·cases h
def TrK (M : zC) (mine : List Nat) (κ : Nat → Option zS) (c c' : zH) : Prop := ∀ v Ml, LoX M mine Ml → Ml.κ = κ → zV M c v → zV Ml c' v
structure vGf (M : zC) (id : Nat) (o : Obj) (C : zS) : Prop where
 κ : M.κ id = some C
 rep : ∀ Ml : zC, Ml.H = M.H → Ml.G = M.G → yJ Ml o { C with ver := 0 }
 own : o.owned = true
 was : ∃ q, M.h id = some q ∧ q.owned = true
theorem yYq {M Ml : zC} (hH : Ml.H = M.H) {kvs : List (Int × Bool)} {C : zS} (h : yJ M (.imap kvs) C) : yJ Ml (.imap kvs) { C with ver := 0 } := by
 obtain ⟨B, es, ck, h1, h2, h3, h4, h5⟩ := h
 exact ⟨B, es, ck, h1, h2, by rw [hH]; exact h3, h4, h5⟩
theorem zSf {M : zC} (ok : Ok M) {mine : List Nat} (ho : zCb M mine) {κ : Nat → Option zS} : ∀ {l : List XC} {cs : List zH} {d : XL l} {n : Nat}, zDs M.h l cs = some d → (∀ id ∈ zRr l cs, id ∉ mine) →
  (wL l cs).length = (zAg l d n).2.length ∧ (∀ (i : Nat) (id : Nat) (o : Obj), (wL l cs)[i]? = some id → (zAg l d n).2[i]? = some o → ∃ C, vGf M id o C) ∧
   ((∀ (i : Nat) (id : Nat) (C : zS), (wL l cs)[i]? = some id → M.κ id = some C → κ (n + i) = some { C with ver := 0 }) → zQ (TrK M mine κ) cs (zAg l d n).1)
 | [], [], _, n, _, _ => ⟨rfl, fun i id o h => by simp [wL] at h, fun _ => trivial⟩
 | x :: l, c :: cs, d, n, h, hn => by
  unfold zDs at h
  split at h
  ·rename_i y ys h1 h2
   cases h
   cases x with
   | p p =>
    have hn1 : ∀ id ∈ yS c, id ∉ mine := fun id hid => hn id (List.mem_append_left _ hid)
    obtain ⟨k1, k2, k3⟩ := zSf ok ho (κ := κ) (n := n) h2 (fun id hid => hn id (List.mem_append_right _ hid))
    exact ⟨k1, k2, fun hκ => ⟨fun v Ml lo _ hv => vE2 ok ho hn1 h1 v Ml lo hv, k3 hκ⟩⟩
   | own t =>
    cases c with
    | osl id r =>
     cases r with
     | some _ => cases h1
     | none =>
      have h1 : (match M.h id with | some (.arr true s xs) => zAd s t xs | _ => none) = some y := h1
      split at h1
      ·rename_i s xs hid
       obtain ⟨e, hx⟩ := zBe h1
       subst e
       subst hx
       obtain ⟨C, hC, hO⟩ := ok.obj id _ hid
       obtain ⟨k1, k2, k3⟩ := zSf ok ho (κ := κ) (n := n + 1) h2 hn
       refine ⟨by simp only [wL, zAg, List.length_cons, k1], fun i jd o hi ho' => ?_, fun hκ => ⟨fun v Ml lo hk hv => ?_, k3 fun i jd D hi hD => ?_⟩⟩
       ·cases i with
        | zero =>
         cases hi
         cases ho'
         refine ⟨C, hC, fun Ml e1 e2 => ?_, rfl, _, hid, rfl⟩
         obtain ⟨q1, q2, q3, q4⟩ := hO
         refine ⟨q1, q2, q3, ?_⟩
         rw [e1, e2]
         exact q4
        | succ i => exact k2 i jd o hi ho'
       ·obtain ⟨D, hD, hS⟩ := hv
        rw [hC] at hD; cases hD
        refine ⟨{ C with ver := 0 }, by rw [hk]; exact hκ 0 id C rfl hC, ?_⟩
        show vZ Ml.H { C with ver := 0 } 0 C.len v
        rw [lo.H]
        exact hS
       ·have := hκ (i + 1) jd D hi hD
        rw [← this]; congr 1; omega
      ·cases h1
    | _ => cases h1
   | mat =>
    cases c with
    | osl id r =>
     cases r with
     | some _ => cases h1
     | none =>
      have h1 : (match M.h id with | some (.mat _ xs) => some xs | _ => none) = some y := h1
      split at h1
      ·rename_i ver xs hid
       cases h1
       obtain ⟨C, hC, hO⟩ := ok.obj id _ hid
       obtain ⟨k1, k2, k3⟩ := zSf ok ho (κ := κ) (n := n + 1) h2 hn
       refine ⟨by simp only [wL, zAg, List.length_cons, k1], fun i jd o hi ho' => ?_, fun hκ => ⟨fun v Ml lo hk hv => ?_, k3 fun i jd D hi hD => ?_⟩⟩
       ·cases i with
        | zero =>
         cases hi
         cases ho'
         refine ⟨C, hC, fun Ml e1 e2 => ?_, rfl, _, hid, rfl⟩
         obtain ⟨q1, q2⟩ := hO
         refine ⟨rfl, ?_⟩
         rw [e1]
         exact q2
        | succ i => exact k2 i jd o hi ho'
       ·obtain ⟨D, hD, hS⟩ := hv
        rw [hC] at hD; cases hD
        refine ⟨{ C with ver := 0 }, by rw [hk]; exact hκ 0 id C rfl hC, ?_⟩
        show vZ Ml.H { C with ver := 0 } 0 C.len v
        rw [lo.H]
        exact hS
       ·have := hκ (i + 1) jd D hi hD
        rw [← this]; congr 1; omega
      ·cases h1
    | _ => cases h1
   | map =>
    cases c with
    | map id =>
     have h1 : (match M.h id with | some (.imap kvs) => some kvs | _ => none) = some y := h1
     split at h1
     ·rename_i kvs hid
      cases h1
      obtain ⟨C, hC, hO⟩ := ok.obj id _ hid
      obtain ⟨k1, k2, k3⟩ := zSf ok ho (κ := κ) (n := n + 1) h2 hn
      refine ⟨by simp only [wL, zAg, List.length_cons, k1], fun i jd o hi ho' => ?_, fun hκ => ⟨fun v Ml lo hk hv => ?_, k3 fun i jd D hi hD => ?_⟩⟩
      ·cases i with
       | zero =>
        cases hi
        cases ho'
        exact ⟨C, hC, fun Ml e1 e2 => yYq e1 hO, rfl, _, hid, rfl⟩
       | succ i => exact k2 i jd o hi ho'
      ·obtain ⟨D, B, hD, hB, e⟩ := hv
       rw [hC] at hD; cases hD
       exact ⟨{ C with ver := 0 }, B, by rw [hk]; exact hκ 0 id C rfl hC, hB, e⟩
      ·have := hκ (i + 1) jd D hi hD
       rw [← this]; congr 1; omega
     ·cases h1
    | _ => cases h1
  ·cases h
 | [], _ :: _, _, _, h, _ => by cases h
 | _ :: _, [], _, _, h, _ => by cases h
theorem zQ8 {M Ml : zC} {mine : List Nat} (lo : LoX M mine Ml) : ∀ {cs cs' : List zH} {vs : List Value}, zQ (TrK M mine Ml.κ) cs cs' → zQ (zV M) cs vs → zQ (zV Ml) cs' vs
 | [], [], [], _, _ => trivial
 | _ :: _, _ :: _, _ :: _, h, k => ⟨h.1 _ _ lo rfl k.1, zQ8 lo h.2 k.2⟩
 | [], [], _ :: _, _, k => k.elim
 | [], _ :: _, _, h, _ => h.elim
 | _ :: _, [], _, h, _ => h.elim
 | _ :: _, _ :: _, [], _, k => k.elim
def zKu (mine : List Nat) (bs : List (Bool × Nat)) : Prop := ∀ b ∈ bs, (b.1 = true → b.2 ∈ mine) ∧ (b.1 = false → b.2 ∉ mine)
theorem yQn {M : zC} (ok : Ok M) {mine : List Nat} (ho : zCb M mine) {io : Bool} {id : Nat} {cells : List zH} (h : zUc M.h io id = some cells) (hm : (io = true → id ∈ mine) ∧ (io = false → id ∉ mine)) :
  ∃ C B, M.κ id = some C ∧ C.blk = some B ∧ ∀ (Ml : zC) (cells' : List zH), LoX M mine Ml → zQ (TrK M mine Ml.κ) cells cells' → yJ Ml (bif io then .box true cells' else .robox cells') C := by
 unfold zUc at h
 split at h
 ·rename_i cs hid
  cases h
  obtain ⟨C, hC, B, vals, e, h1, h2, h3, h4, h5⟩ := ok.obj id _ hid
  exact ⟨C, B, hC, h1, fun Ml cells' lo ht => ⟨B, vals, e, h1, h2, by rw [lo.H]; exact h3, zQ8 lo ht h4, fun e => by cases e⟩⟩
 ·rename_i own cs hid
  cases h
  obtain ⟨C, hC, B, vals, e, h1, h2, h3, h4, h5⟩ := ok.obj id _ hid
  refine ⟨C, B, hC, h1, fun Ml cells' lo ht => ⟨B, vals, e, h1, h2, by rw [lo.H]; exact h3, zQ8 lo ht h4, ?_⟩⟩
  rw [lo.F]
  cases own with
  | false => exact zFj ok ho (ok.GF B (h5 rfl))
  | true =>
   refine ⟨(Array.getElem?_eq_some_iff.1 h3).1, fun hd => ?_⟩
   obtain ⟨jd, hj, D, hD, hb⟩ := hd
   obtain ⟨q, q1, q2⟩ := ho jd hj
   exact ok.disj jd id q _ D C B (fun e => hm.2 rfl (by rw [← e]; exact hj)) q1 hid q2 rfl hD hC hb (by simp [zS.fp, h1])
 ·rename_i cs hid
  cases h
  obtain ⟨C, hC, B, vals, e, h1, h2, h3, h4, h5⟩ := ok.obj id _ hid
  refine ⟨C, B, hC, h1, fun Ml cells' lo ht => ⟨B, vals, e, h1, h2, by rw [lo.H]; exact h3, zQ8 lo ht h4, ?_⟩⟩
  rw [lo.F]
  exact zFj ok ho h5
 ·cases h
def qDa (M : zC) (mine : List Nat) (bs : List (Bool × Nat)) (mk : List zH → List Obj) (cs : List zH) : Prop := ∀ (Ml : zC) (cs' : List zH), LoX M mine Ml → zQ (TrK M mine Ml.κ) cs cs' →
 zQ (fun (b : Bool × Nat) o => ∃ C B, M.κ b.2 = some C ∧ C.blk = some B ∧ yJ Ml o C ∧ o.owned = b.1) bs (mk cs')
theorem qEf {M : zC} (ok : Ok M) {mine : List Nat} (ho : zCb M mine) : ∀ {ls : List (Bool × List XC)} {ids : List Nat} {cs : List zH} {bs : List (Bool × Nat)}, zC9 M.h ls ids = some (cs, bs) → zKu mine bs →
  cs.length = (ls.flatMap (·.2)).length ∧ bs = (ls.map (·.1)).zip ids ∧ ids.length = ls.length ∧ qDa M mine bs (zS4 ls) cs
 | [], [], cs, bs, h, _ => by cases h; exact ⟨rfl, rfl, rfl, fun _ _ _ _ => trivial⟩
 | (io, l) :: ls, id :: ids, cs, bs, h, hf => by
  unfold zC9 at h
  split at h
  ·rename_i cells rest bs' h1 h2
   obtain ⟨hl, h⟩ := vJ h
   cases h
   have hl : cells.length = l.length := Nat.eq_of_beq_eq_true hl
   obtain ⟨C, B, hC, hB, hO⟩ := yQn ok ho h1 (hf _ (List.mem_cons_self ..))
   obtain ⟨k1, k2, k3, k4⟩ := qEf ok ho h2 fun b hb => hf b (List.mem_cons_of_mem _ hb)
   refine ⟨by simp [hl, k1], by rw [k2]; rfl, by simp [k3], fun Ml cs' lo ht => ?_⟩
   have ht1 := zQ.take l.length ht
   have ht2 := zQ.drop l.length ht
   rw [← hl, List.take_left] at ht1
   rw [← hl, List.drop_left] at ht2
   refine ⟨⟨C, B, hC, hB, ?_, ?_⟩, ?_⟩
   ·rw [← hl]; exact hO Ml _ lo ht1
   ·cases io <;> rfl
   ·rw [← hl]; exact k4 Ml _ lo ht2
  ·cases h
 | [], _ :: _, _, _, h, _ => by cases h
 | _ :: _, [], _, _, h, _ => by cases h
theorem yX5 {M : zC} (ok : Ok M) {mine : List Nat} (ho : zCb M mine) {s : AX} {a : zG} {v : Value} {cs : List zH} {bs : List (Bool × Nat)} (hv : zX M a v) (h : s.get M.h a = some (cs, bs)) (hf : zKu mine bs) :
  cs.length = s.cells.length ∧ qDa M mine bs (fun cs' => s.boxes cs') cs ∧ ∀ (Ml : zC) (cs' : List zH) (n : Nat), LoX M mine Ml → zQ (TrK M mine Ml.κ) cs cs' → (∀ i b, bs[i]? = some b → Ml.κ (n + i) = M.κ b.2) → zX Ml (s.mk n cs') v := by
 unfold AX.get at h
 split at h
 ·rename_i p x
  cases h
  refine ⟨rfl, fun Ml cs' lo ht => trivial, fun Ml cs' n lo ht _ => ?_⟩
  match cs', ht with
  | [c'], ht => exact ht.1 v Ml lo rfl hv
 ·rename_i l xs
  obtain ⟨hl, h'⟩ := vJ h
  cases h'
  have hl : cs.length = l.length := Nat.eq_of_beq_eq_true hl
  obtain ⟨vs, rfl, hx⟩ := hv
  exact ⟨by simp [AX.cells, hl], fun Ml cs' lo ht => trivial, fun Ml cs' n lo ht _ => ⟨vs, rfl, zQ8 lo ht hx⟩⟩
 ·rename_i io l id
  obtain ⟨k1, k2, k3, k4⟩ := qEf ok ho h hf
  refine ⟨by rw [k1]; simp [AX.cells], k4, fun Ml cs' n lo ht hκ => ?_⟩
  obtain ⟨C, B, hC, hB, e⟩ := hv
  exact ⟨C, B, by have := hκ 0 (io, id) (by rw [k2]; rfl); rw [Nat.add_zero] at this; rw [this]; exact hC, hB, e⟩
 ·rename_i f caps g ids
  obtain ⟨hg, h'⟩ := vJ h
  have efg : f = g := Nat.eq_of_beq_eq_true hg
  subst efg
  obtain ⟨k1, k2, k3, k4⟩ := qEf ok ho h' hf
  refine ⟨by rw [k1]; rfl, k4, fun Ml cs' n lo ht hκ => ?_⟩
  obtain ⟨cv, rfl, hc⟩ := hv
  refine ⟨cv, rfl, ?_⟩
  have l2 := hc.length
  refine zQ.of_get (by rw [List.length_map, List.length_range]; omega) fun i h1 h2 => ?_
  simp only [List.getElem_map, List.getElem_range]
  have hi : i < ids.length := by simp at h1; omega
  obtain ⟨C, B, q1, q2, q3⟩ := hc.get i hi h2
  have hb : bs[i]? = some ((caps.map (·.1))[i]'(by simp at h1 ⊢; omega), ids[i]) := by
   rw [k2, List.getElem?_eq_getElem (by rw [List.length_zip, List.length_map]; omega), List.getElem_zip]
  exact ⟨C, B, by rw [hκ i _ hb]; exact q1, q2, q3⟩
 ·cases h
theorem yGq {M : zC} (ok : Ok M) {mine : List Nat} (ho : zCb M mine) : ∀ {l : List AX} {as : List zG} {vs : List Value} {cs : List zH} {bs : List (Bool × Nat)}, zQ (zX M) as vs → zBh M.h l as = some (cs, bs) → zKu mine bs →
  cs.length = (l.flatMap AX.cells).length ∧ (∀ n, qDa M mine bs (fun cs' => (mkX l cs' n).2) cs) ∧
   ∀ (Ml : zC) (cs' : List zH) (n : Nat), LoX M mine Ml → zQ (TrK M mine Ml.κ) cs cs' → (∀ i b, bs[i]? = some b → Ml.κ (n + i) = M.κ b.2) → zQ (zX Ml) (mkX l cs' n).1 vs
 | [], [], [], cs, bs, _, h, _ => by cases h; exact ⟨rfl, fun _ _ _ _ _ => trivial, fun _ _ _ _ _ _ => trivial⟩
 | s :: l, a :: as, v :: vs, cs, bs, hv, h, hf => by
  unfold zBh at h
  split at h
  ·rename_i cs1 bs1 cs2 bs2 h1 h2
   cases h
   have hf1 : zKu mine bs1 := fun b hb => hf b (List.mem_append_left _ hb)
   have hf2 : zKu mine bs2 := fun b hb => hf b (List.mem_append_right _ hb)
   obtain ⟨k1, k2, k3⟩ := yX5 ok ho hv.1 h1 hf1
   obtain ⟨k4, k5, k6⟩ := yGq ok ho hv.2 h2 hf2
   have cut : ∀ {κ : Nat → Option zS} {cs' : List zH}, zQ (TrK M mine κ) (cs1 ++ cs2) cs' → zQ (TrK M mine κ) cs1 (cs'.take s.cells.length) ∧ zQ (TrK M mine κ) cs2 (cs'.drop s.cells.length) := by
    intro κ cs' ht
    have ht1 := zQ.take s.cells.length ht
    have ht2 := zQ.drop s.cells.length ht
    rw [← k1, List.take_left, k1] at ht1
    rw [← k1, List.drop_left, k1] at ht2
    exact ⟨ht1, ht2⟩
   refine ⟨by simp [k1, k4], fun n Ml cs' lo ht => ?_, fun Ml cs' n lo ht hκ => ?_⟩
   ·obtain ⟨ht1, ht2⟩ := cut ht
    exact (k2 Ml _ lo ht1).append (k5 _ Ml _ lo ht2)
   ·obtain ⟨ht1, ht2⟩ := cut ht
    have hlen := (k2 Ml _ lo ht1).length
    refine ⟨k3 Ml _ n lo ht1 fun i b hb => hκ i b ?_, k6 Ml _ _ lo ht2 fun i b hb => ?_⟩
    ·have : i < bs1.length := (List.getElem?_eq_some_iff.1 hb).1
     rw [List.getElem?_append_left this]; exact hb
    ·have := hκ (bs1.length + i) b (by rw [List.getElem?_append_right (by omega)]; rw [show bs1.length + i - bs1.length = i by omega]; exact hb)
     rw [← this, Nat.add_assoc, hlen]
  ·cases h
 | [], [], _ :: _, _, _, hv, _, _ => hv.elim
 | [], _ :: _, _, _, _, _, h, _ => by cases h
 | _ :: _, [], _, _, _, _, h, _ => by cases h
 | _ :: _, _ :: _, [], _, _, hv, _, _ => hv.elim
def κX (M : zC) (bs : List (Bool × Nat)) (rows : List Nat) : Nat → Option zS := fun n => bif Nat.ble wA n then (match rows[n - wA]? with
  | some id => (M.κ id).map fun C => { C with ver := 0 }
  | none => none)
 else (match bs[n]? with
  | some b => M.κ b.2
  | none => none)
theorem zH9 : ∀ {bs : List (Bool × Nat)} {i id : Nat}, bs[i]? = some (true, id) → id ∈ vF bs
 | (true, a) :: bs, 0, id, h => by cases h; exact List.mem_cons_self ..
 | (true, a) :: bs, i + 1, id, h => List.mem_cons_of_mem _ (zH9 (bs := bs) (i := i) h)
 | (false, a) :: bs, 0, id, h => by cases h
 | (false, a) :: bs, i + 1, id, h => zH9 (bs := bs) (i := i) h
theorem qPq : ∀ {bs : List (Bool × Nat)} {i j id : Nat}, (vF bs).Nodup → bs[i]? = some (true, id) → bs[j]? = some (true, id) → i = j
 | (true, a) :: bs, 0, 0, id, _, _, _ => rfl
 | (true, a) :: bs, 0, j + 1, id, hn, h, k => by
  cases h
  exact absurd (zH9 (bs := bs) (i := j) k) (List.nodup_cons.1 hn).1
 | (true, a) :: bs, i + 1, 0, id, hn, h, k => by
  cases k
  exact absurd (zH9 (bs := bs) (i := i) h) (List.nodup_cons.1 hn).1
 | (true, a) :: bs, i + 1, j + 1, id, hn, h, k => by rw [qPq (bs := bs) (List.nodup_cons.1 hn).2 h k]
 | (false, a) :: bs, 0, j, id, _, h, _ => by cases h
 | (false, a) :: bs, i + 1, 0, id, _, _, k => by cases k
 | (false, a) :: bs, i + 1, j + 1, id, hn, h, k => by rw [qPq (bs := bs) hn h k]
theorem vFx {M : zC} (ok : Ok M) {l : List AX} {as : List zG} {vs : List Value} {cs : List zH} {bs : List (Bool × Nat)} {d : XD l} (hv : zQ (zX M) as vs) (hg : zBh M.h l as = some (cs, bs)) (hd : zDs M.h (l.flatMap AX.cells) cs = some d)
  (hnd : (vF bs ++ wL (l.flatMap AX.cells) cs).Nodup) (hap : ∀ id ∈ zRr (l.flatMap AX.cells) cs, id ∉ vF bs ++ wL (l.flatMap AX.cells) cs) (hro : ∀ id ∈ qAp bs, id ∉ vF bs ++ wL (l.flatMap AX.cells) cs) (hlen : bs.length ≤ wA) (ho : zCb M (vF bs ++ wL (l.flatMap AX.cells) cs)) :
  ∃ Ml : zC, LoX M (vF bs ++ wL (l.flatMap AX.cells) cs) Ml ∧ Ml.h = (zEy l d).2 ∧ Ok Ml ∧ (∀ b, qQ Ml b → zBc M (vF bs ++ wL (l.flatMap AX.cells) cs) b) ∧ zQ (zX Ml) (zEy l d).1 vs ∧ Ml.κ = κX M bs (wL (l.flatMap AX.cells) cs) := by
 generalize hmine : vF bs ++ wL (l.flatMap AX.cells) cs = mine at *
 have hfits : zKu mine bs := by
  intro b hb
  obtain ⟨i, hi, rfl⟩ := List.getElem_of_mem hb
  have hbi : bs[i]? = some bs[i] := List.getElem?_eq_getElem hi
  refine ⟨fun e => ?_, fun e => ?_⟩
  ·rw [← hmine]
   have : bs[i]? = some (true, bs[i].2) := by rw [hbi, ← e]
   exact List.mem_append_left _ (zH9 this)
  ·apply hro
   clear hg hd hnd hap hro hlen ho hmine hv
   induction bs generalizing i with
   | nil => exact absurd hi (Nat.not_lt_zero i)
   | cons c bs ih =>
    obtain ⟨io, a⟩ := c
    cases i with
    | zero => cases io <;> first | exact List.mem_cons_self .. | cases e
    | succ i => cases io <;> first | exact List.mem_cons_of_mem _ (ih i (by simpa using hi) (List.getElem_mem _) (List.getElem?_eq_getElem _) e) | exact ih i (by simpa using hi) (List.getElem_mem _) (List.getElem?_eq_getElem _) e
 let κ := κX M bs (wL (l.flatMap AX.cells) cs)
 obtain ⟨k1, k2, k3⟩ := zSf ok ho (κ := κ) (n := wA) hd hap
 have ht : zQ (TrK M mine κ) cs (zAg (l.flatMap AX.cells) d wA).1 := k3 fun i id C hi hC => by
  show κX M bs _ (wA + i) = _
  unfold κX
  rw [Nat.ble_eq_true_of_le (Nat.le_add_right _ _), show wA + i - wA = i by omega, hi]
  simp [hC]
 obtain ⟨a1, a2, a3⟩ := yGq ok ho hv hg hfits
 let Ml : zC := { κ := κ, F := fun b => b < M.H.size ∧ ¬ zBc M mine b, G := M.G, h := (zEy l d).2, H := M.H }
 have lo : LoX M mine Ml := ⟨rfl, rfl, rfl⟩
 have hbox := a2 0 Ml _ lo ht
 have hκbox : ∀ i b, bs[i]? = some b → Ml.κ (0 + i) = M.κ b.2 := fun i b hb => by
  have hi : i < bs.length := (List.getElem?_eq_some_iff.1 hb).1
  show κX M bs _ (0 + i) = _
  unfold κX
  have : Nat.ble wA (0 + i) = false := by
   cases h : Nat.ble wA (0 + i) with
   | false => rfl
   | true => have := Nat.le_of_ble_eq_true h; omega
  rw [this, Nat.zero_add, hb]
  rfl
 have hobj : ∀ id o, Ml.h id = some o → ∃ jd C, Ml.κ id = some C ∧ yJ Ml o C ∧ (o.owned = true → jd ∈ mine ∧ ∃ D, M.κ jd = some D ∧ D.fp = C.fp) ∧
   ((Nat.ble wA id = true ∧ (wL (l.flatMap AX.cells) cs)[id - wA]? = some jd) ∨ (Nat.ble wA id = false ∧ ∃ io, bs[id]? = some (io, jd) ∧ o.owned = io)) := by
  intro id o h
  have h : zOu (mkX l (zAg (l.flatMap AX.cells) d wA).1 0).2 (zAg (l.flatMap AX.cells) d wA).2 id = some o := h
  unfold zOu at h
  cases hb : Nat.ble wA id with
  | true =>
   rw [hb] at h
   have h : (zAg (l.flatMap AX.cells) d wA).2[id - wA]? = some o := h
   have hi := (List.getElem?_eq_some_iff.1 h).1
   have hj : (wL (l.flatMap AX.cells) cs)[id - wA]? = some ((wL (l.flatMap AX.cells) cs)[id - wA]'(by omega)) := List.getElem?_eq_getElem (by omega)
   obtain ⟨C, hR⟩ := k2 _ _ _ hj h
   refine ⟨_, { C with ver := 0 }, ?_, hR.rep Ml rfl rfl, fun _ => ⟨?_, C, hR.κ, rfl⟩, .inl ⟨rfl, hj⟩⟩
   ·show κX M bs _ id = _
    unfold κX
    rw [hb, hj]
    simp [hR.κ]
   ·rw [← hmine]
    exact List.mem_append_right _ (List.getElem_mem _)
  | false =>
   rw [hb] at h
   have h : (mkX l (zAg (l.flatMap AX.cells) d wA).1 0).2[id]? = some o := h
   have hi := (List.getElem?_eq_some_iff.1 h).1
   have hib : id < bs.length := by rw [hbox.length]; exact hi
   have hq := hbox.get id hib hi
   rw [List.getElem?_eq_getElem hi] at h
   cases h
   obtain ⟨C, B, q1, q2, q3, q4⟩ := hq
   have hbi : bs[id]? = some bs[id] := List.getElem?_eq_getElem hib
   refine ⟨bs[id].2, C, ?_, q3, fun e => ⟨(hfits _ (List.getElem_mem hib)).1 (by rw [← q4]; exact e), C, q1, rfl⟩, .inr ⟨rfl, bs[id].1, hbi, q4⟩⟩
   have := hκbox id _ hbi
   rw [Nat.zero_add] at this
   rw [this]; exact q1
 have hown : ∀ b, qQ Ml b → zBc M mine b := fun b ⟨id, o, C, h1, h2, h3, h4⟩ => by
  obtain ⟨jd, C', q1, _, q3, _⟩ := hobj id o h1
  rw [h3] at q1
  cases q1
  obtain ⟨p1, D, p2, p3⟩ := q3 h2
  exact ⟨jd, p1, D, p2, by rw [p3]; exact h4⟩
 refine ⟨Ml, lo, rfl, ⟨fun id o h => ?_, fun id h => ?_, fun i j oi oj Ci Cj b hij h1 h2 h3 h4 h5 h6 h7 h8 => ?_, fun b hb => ⟨fun hf => hf.2 (hown b hb), (ok.own b ((hown b hb).own ho)).2⟩, fun b hb => zFj ok ho (ok.GF b hb), fun b hb => hb.1⟩, hown, a3 Ml _ 0 lo ht hκbox, rfl⟩
 ·obtain ⟨jd, C, q1, q2, _⟩ := hobj id o h
  exact ⟨C, q1, q2⟩
 ·have h : zOu (mkX l (zAg (l.flatMap AX.cells) d wA).1 0).2 (zAg (l.flatMap AX.cells) d wA).2 id = none := h
  unfold zOu at h
  show κX M bs _ id = none
  unfold κX
  cases hb : Nat.ble wA id with
  | true =>
   rw [hb] at h
   have h : (zAg (l.flatMap AX.cells) d wA).2[id - wA]? = none := h
   rw [List.getElem?_eq_none_iff, ← k1] at h
   rw [List.getElem?_eq_none h]
   rfl
  | false =>
   rw [hb] at h
   have h : (mkX l (zAg (l.flatMap AX.cells) d wA).1 0).2[id]? = none := h
   rw [List.getElem?_eq_none_iff, ← hbox.length] at h
   rw [List.getElem?_eq_none h]
   rfl
 ·obtain ⟨ji, Ci', p1, _, p3, p4⟩ := hobj i oi h1
  obtain ⟨jj, Cj', q1, _, q3, q4⟩ := hobj j oj h2
  rw [h5] at p1; cases p1
  rw [h6] at q1; cases q1
  obtain ⟨p5, Di, p6, p7⟩ := p3 h3
  obtain ⟨q5, Dj, q6, q7⟩ := q3 h4
  obtain ⟨oi', r1, r2⟩ := ho ji p5
  obtain ⟨oj', r3, r4⟩ := ho jj q5
  refine ok.disj ji jj oi' oj' Di Dj b (fun e => ?_) r1 r3 r2 r4 p6 q6 (by rw [p7]; exact h7) (by rw [q7]; exact h8)
  subst e
  rw [← hmine] at hnd
  obtain ⟨n1, n2, n3⟩ := List.nodup_append.1 hnd
  rcases p4 with ⟨p8, p9⟩ | ⟨p8, io, p9, p10⟩ <;> rcases q4 with ⟨q8, q9⟩ | ⟨q8, io', q9, q10⟩
  ·have := (List.getElem?_inj (List.getElem?_eq_some_iff.1 p9).1 n2).1 (p9.trans q9.symm)
   have e1 := Nat.le_of_ble_eq_true p8
   have e2 := Nat.le_of_ble_eq_true q8
   exact hij (by omega)
  ·rw [h4] at q10
   subst q10
   exact n3 _ (zH9 q9) _ (List.mem_of_getElem? p9) rfl
  ·rw [h3] at p10
   subst p10
   exact n3 _ (zH9 p9) _ (List.mem_of_getElem? q9) rfl
  ·rw [h3] at p10
   rw [h4] at q10
   subst p10
   subst q10
   exact hij (qPq n1 p9 q9)
end Go.Ab
