/- A region's operations, in any order: all orders come to the same. -/
import Derived.Test.YtpmkkfbnaohlhaaGiAb19
set_option linter.unusedVariables false
set_option linter.unusedSimpArgs false
set_option linter.unusedSectionVars false
namespace Go.Ab

/-! ### Applying in either order -/
theorem tput_at {t t' : Nat → AVal} {d : Option Nat} {v : AVal} {x : Nat} (h : t x = t' x) : tput t d v x = tput t' d v x := by
  cases d with
  | none => exact h
  | some d =>
    show tset t d v x = tset t' d v x
    unfold tset
    cases Nat.beq x d with
    | true => rfl
    | false => exact h
theorem tput_not {t : Nat → AVal} {d : Option Nat} {v : AVal} {x : Nat} (h : d ≠ some x) : tput t d v x = t x := by
  cases d with
  | none => rfl
  | some d =>
    show tset t d v x = _
    unfold tset
    cases e : Nat.beq x d with
    | false => rfl
    | true => exact absurd (by rw [show x = d by simpa using e]) h
theorem tput_mem {t t' : Nat → AVal} {v : AVal} {x : Nat} : tput t (some x) v x = tput t' (some x) v x := by
  show tset t x v x = tset t' x v x
  unfold tset
  simp
theorem tput_comm {t : Nat → AVal} {d e : Option Nat} {v u : AVal} (h : ∀ x, d = some x → e ≠ some x) : tput (tput t d v) e u = tput (tput t e u) d v := by
  funext x
  by_cases hd : d = some x
  · subst hd
    rw [tput_not (h x rfl)]
    exact tput_mem
  · rw [tput_not hd]
    exact tput_at (tput_not hd)

theorem happly_at {n : Nat} : ∀ {u : Upd} {h h' : Hp}, h n = h' n → happly h u n = happly h' u n
  | [], _, _, e => e
  | (id, o) :: u, h, h', e => happly_at (u := u) (by
      by_cases hn : n = id
      · subst hn; rw [hset_same, hset_same]
      · rw [hset_ne _ _ hn, hset_ne _ _ hn]; exact e)
theorem happly_mem {n : Nat} : ∀ {u : Upd} {h h' : Hp}, n ∈ newIds u → happly h u n = happly h' u n
  | [], _, _, hm => by simp [newIds] at hm
  | (id, o) :: u, h, h', hm => by
    by_cases hu : n ∈ newIds u
    · exact happly_mem (u := u) hu
    · have e : n = id := by
        simp only [newIds, List.map_cons, List.mem_cons] at hm hu
        exact hm.resolve_right hu
      subst e
      exact happly_at (u := u) (by rw [hset_same, hset_same])
theorem happly_comm {u v : Upd} {h : Hp} (hd : ∀ a ∈ newIds u, a ∉ newIds v) : happly (happly h u) v = happly (happly h v) u := by
  funext n
  by_cases hu : n ∈ newIds u
  · rw [happly_not (hd n hu)]
    exact happly_mem hu
  · rw [happly_not (u := u) (h := happly h v) hu]
    exact happly_at (happly_not hu)

theorem app_comm {st : St} {x y : It} (hd : ∀ t, x.o.dst = some t → y.o.dst ≠ some t) (hu : ∀ a ∈ newIds x.u, a ∉ newIds y.u) : app (app st x) y = app (app st y) x := by
  unfold app
  simp only [St.mk.injEq]
  exact ⟨tput_comm hd, happly_comm hu⟩

theorem app_last {x : It} : ∀ {l : List It} {st : St}, (∀ y ∈ l, (∀ t, x.o.dst = some t → y.o.dst ≠ some t) ∧ ∀ a ∈ newIds x.u, a ∉ newIds y.u) → app (l.foldl app st) x = l.foldl app (app st x)
  | [], _, _ => rfl
  | y :: l, st, h => by
    rw [List.foldl_cons, List.foldl_cons, app_comm (h y (List.mem_cons_self ..)).1 (h y (List.mem_cons_self ..)).2]
    exact app_last fun z hz => h z (List.mem_cons_of_mem _ hz)

theorem fold_t (t : Nat) : ∀ (l : List It) (st st' : St), st.t t = st'.t t → (l.foldl app st).t t = ((l.filter fun it => it.o.dst == some t).foldl app st').t t
  | [], _, _, h => h
  | y :: l, st, st', h => by
    rw [List.foldl_cons, List.filter_cons]
    cases hy : y.o.dst == some t with
    | true =>
      rw [if_pos rfl, List.foldl_cons]
      exact fold_t t l _ _ (tput_at h)
    | false =>
      rw [if_neg (by simp)]
      exact fold_t t l _ _ (by
        show tput st.t y.o.dst y.v t = _
        rw [tput_not (by simpa using hy)]; exact h)

theorem fold_h (n : Nat) : ∀ (l : List It) (st st' : St), st.h n = st'.h n → (l.foldl app st).h n = ((l.filter fun it => (newIds it.u).contains n).foldl app st').h n
  | [], _, _, h => h
  | y :: l, st, st', h => by
    rw [List.foldl_cons, List.filter_cons]
    cases hy : (newIds y.u).contains n with
    | true =>
      rw [if_pos rfl, List.foldl_cons]
      exact fold_h n l _ _ (happly_at h)
    | false =>
      rw [if_neg (by simp)]
      exact fold_h n l _ _ (by
        show happly st.h y.u n = _
        rw [happly_not (by simpa [newIds] using hy)]; exact h)

theorem filter_mid {S W : It → Bool} {pfx post : List It} {it : It} (hit : S it = false) (h1 : ∀ y ∈ pfx, W y = true → S y = true) (h2 : ∀ y ∈ post, W y = true → S y = false) : ((pfx ++ it :: post).filter S).filter W = pfx.filter W := by
  rw [List.filter_append, List.filter_append, List.filter_cons, hit, if_neg (by simp)]
  have e1 : (pfx.filter S).filter W = pfx.filter W := by
    rw [List.filter_filter]
    refine List.filter_congr fun y hy => ?_
    cases hw : W y with
    | false => simp
    | true => simp [h1 y hy hw]
  have e2 : (post.filter S).filter W = [] := by
    rw [List.filter_filter, List.filter_eq_nil_iff]
    intro y hy
    cases hw : W y with
    | false => simp
    | true => simp [h2 y hy hw]
  rw [e1, e2, List.append_nil]

/-! ### What a pair that no edge holds keeps apart -/
def looksD (d : Done) (a : Nat) : Prop := match d.refs with
  | none => True
  | some l => a ∈ l ∨ inOwn d.nm a = true

theorem clash_spec {x y : Done} (h : clash x y = false) : (∀ a ∈ x.upd, ¬ looksD y a) ∧ (∀ a ∈ y.upd, ¬ looksD x a) ∧ ∀ a ∈ x.upd, a ∉ y.upd := by
  unfold clash at h
  simp only [Bool.or_eq_false_iff] at h
  obtain ⟨⟨⟨⟨h1, h2⟩, h3⟩, h4⟩, h5⟩ := h
  have key : ∀ (d e : Done), meets d.upd e.refs = false → d.upd.any (inOwn e.nm) = false → ∀ a ∈ d.upd, ¬ looksD e a := by
    intro d e hm ho a ha hl
    unfold meets at hm
    unfold looksD at hl
    cases hr : e.refs with
    | none =>
      rw [hr] at hm
      have : d.upd = [] := by simpa using hm
      rw [this] at ha; cases ha
    | some l =>
      rw [hr] at hm hl
      rcases hl with hl | hl
      · have := List.any_eq_false.1 hm a ha
        simp at this
        exact this hl
      · have := List.any_eq_false.1 ho a ha
        rw [hl] at this; exact this rfl
  refine ⟨key x y h1 h3, key y x h2 h4, fun a ha hb => ?_⟩
  have := List.any_eq_false.1 h5 a ha
  simp at this
  exact this hb

section
variable {E : Env} {A : Notes} {k pre na nt : Nat} {R : Type} {ops : Array Oper}

theorem apart2_spec {i j : Nat} {x y : Oper} (hi : ops[i]? = some x) (hj : ops[j]? = some y) (h : apart2 ops i j = true) :
    (∀ d, x.dst = some d → d ∉ y.looksAt ops) ∧ (∀ d, x.dst = some d → y.dst ≠ some d) ∧ (∀ d, y.dst = some d → d ∉ x.looksAt ops) := by
  unfold apart2 at h
  rw [hi, hj] at h
  exact Oper.apart_spec h

/-- An operation that is ready comes to the same behind other ones. -/
theorem good_any (hE : EnvOK E) (hS : SumsLocal E.sums) {S : Nat → Bool} (hC : Closed ops S) {st : St} {pfx post : List It} {it : It} (hops : ∀ y ∈ pfx ++ it :: post, ops[y.i]? = some y.o) (hg : Good E A k pre na nt ops (pfx.foldl app st) it)
    (hu : ∀ y ∈ pfx ++ it :: post, y.wt = false → y.u = []) (hp : (pfx ++ it :: post).Pairwise (Apart pre ops (Region.before ops))) (hit : S it.i = false)
    (hr : ∀ o, ops[it.i]? = some o → ∀ e ∈ o.after.toList, Region.binds .any e = true → S e.on = true) :
    Good E A k pre na nt ops (((pfx ++ it :: post).filter fun y => S y.i).foldl app st) it ∧
      (∀ y ∈ post, S y.i = true → (∀ t, it.o.dst = some t → y.o.dst ≠ some t) ∧ ∀ a ∈ newIds it.u, a ∉ newIds y.u) := by
  have hio : ops[it.i]? = some it.o := hops it (by simp)
  obtain ⟨hp1, hp2, hp3⟩ := List.pairwise_append.1 hp
  have before : ∀ y ∈ pfx, S y.i = false → apart2 ops y.i it.i = true ∧ (y.wt = true → it.wt = true → clash (y.dn pre) (it.dn pre) = false) := fun y hy hs => by
    rcases hp3 y hy it (List.mem_cons_self ..) with h | h
    · rw [before_ready hC h hr] at hs; cases hs
    · exact h
  have behind : ∀ y ∈ post, S y.i = true → apart2 ops it.i y.i = true ∧ (it.wt = true → y.wt = true → clash (it.dn pre) (y.dn pre) = false) := fun y hy hs => by
    rcases (List.pairwise_cons.1 hp2).1 y hy with h | h
    · rw [before_closed hC _ _ rfl h hs] at hit; cases hit
    · exact h
  have tmpEq : ∀ t, t ∈ it.o.looksAt ops → (((pfx ++ it :: post).filter fun y => S y.i).foldl app st).t t = (pfx.foldl app st).t t := fun t ht => by
    rw [fold_t t _ st st rfl, fold_t t pfx st st rfl, filter_mid hit (fun y hy hw => ?_) fun y hy hw => ?_]
    · cases hs : S y.i with
      | true => rfl
      | false =>
        have := (apart2_spec (hops y (by simp [hy])) hio (before y hy hs).1).1 t (by simpa using hw)
        exact absurd ht this
    · cases hs : S y.i with
      | false => rfl
      | true =>
        have := (apart2_spec hio (hops y (by simp [hy])) (behind y hy hs).1).2.2 t (by simpa using hw)
        exact absurd ht this
  have hEq : it.wt = true → ∀ n, looksD (it.dn pre) n → (((pfx ++ it :: post).filter fun y => S y.i).foldl app st).h n = (pfx.foldl app st).h n := fun hw n hn => by
    rw [fold_h n _ st st rfl, fold_h n pfx st st rfl, filter_mid hit (fun y hy hy' => ?_) fun y hy hy' => ?_]
    · cases hs : S y.i with
      | true => rfl
      | false =>
        have hm : n ∈ newIds y.u := by simpa using hy'
        have hyw : y.wt = true := by
          cases h : y.wt with
          | true => rfl
          | false => rw [hu y (by simp [hy]) h] at hm; simp [newIds] at hm
        exact absurd hn ((clash_spec ((before y hy hs).2 hyw hw)).1 n hm)
    · cases hs : S y.i with
      | false => rfl
      | true =>
        have hm : n ∈ newIds y.u := by simpa using hy'
        have hyw : y.wt = true := by
          cases h : y.wt with
          | true => rfl
          | false => rw [hu y (by simp [hy]) h] at hm; simp [newIds] at hm
        exact absurd hn ((clash_spec ((behind y hy hs).2 hw hyw)).2.1 n hm)
  generalize hL : ((pfx ++ it :: post).filter fun y => S y.i).foldl app st = stL at tmpEq hEq ⊢
  refine ⟨⟨?_, fun hw => ?_, hg.n⟩, fun y hy hs => ?_⟩
  · rw [← hg.w]
    unfold wantS
    cases hgd : it.o.guard with
    | none => rfl
    | some p =>
      obtain ⟨j, want⟩ := p
      dsimp only
      cases hsl : slotOf ops j with
      | none => rfl
      | some s =>
        have : s ∈ it.o.looksAt ops := by
          have hsl : (ops[j]?).bind (·.dst) = some s := hsl
          simp only [Oper.looksAt, hgd, hsl]
          simp
        simp only [tmpEq s this]
  · obtain ⟨hd, hy, hrf⟩ := hg.y hw
    have hev : ∀ x ∈ it.o.op.operands, stL.ev x = (pfx.foldl app st).ev x := fun x hx => by
      cases x with
      | tmp t => exact tmpEq t (List.mem_append_left _ (List.mem_filterMap.2 ⟨.tmp t, by simpa using hx, rfl⟩))
      | _ => rfl
    have hrefs : refsOf stL.ev it.o = refsOf (pfx.foldl app st).ev it.o := by
      unfold refsOf
      have : it.o.op.operands.toList.map stL.ev = it.o.op.operands.toList.map (pfx.foldl app st).ev := List.map_congr_left fun x hx => hev x (by simpa using hx)
      simp only [this]
    refine ⟨hd, ?_, by rw [hrf, hrefs]⟩
    rw [opS_ev hev]
    have hh : opS E A k pre it.o (pfx.foldl app st).ev stL.h = opS E A k pre it.o (pfx.foldl app st).ev (pfx.foldl app st).h := opS_h hS (by
      rw [← hrf]
      have := hEq hw
      unfold looksD at this
      have hdn : (it.dn pre).refs = it.r := rfl
      rw [hdn] at this
      cases h : it.r with
      | none =>
        rw [h] at this
        exact funext fun n => this n trivial
      | some l =>
        rw [h] at this
        exact this)
    rw [hh]
    exact hy
  · obtain ⟨h1, h2⟩ := behind y hy hs
    refine ⟨(apart2_spec hio (hops y (by simp [hy])) h1).2.1, fun a ha hb => ?_⟩
    have hwi : it.wt = true := by
      cases h : it.wt with
      | true => rfl
      | false => rw [hu it (by simp) h] at ha; simp [newIds] at ha
    have hwy : y.wt = true := by
      cases h : y.wt with
      | true => rfl
      | false => rw [hu y (by simp [hy]) h] at hb; simp [newIds] at hb
    exact (clash_spec (h2 hwi hwy)).2.2 a ha hb
end
end Go.Ab
