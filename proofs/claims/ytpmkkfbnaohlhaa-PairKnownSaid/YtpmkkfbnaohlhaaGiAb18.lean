/- A region's operations, in the order of the text. -/
import Derived.Test.YtpmkkfbnaohlhaaGiAb17
set_option linter.unusedVariables false
set_option linter.unusedSimpArgs false
set_option linter.unusedSectionVars false
namespace Go.Ab

/-- What may have come of memory, the objects' names aside. -/
structure Grow (M M' : Mst) : Prop where
  F : ∀ b, M.F b → M'.F b
  G : ∀ b, M.G b → M'.G b
  same : ∀ b, M.F b → M'.H[b]? = M.H[b]?
  sameG : ∀ b, M.G b → M'.H[b]? = M.H[b]?
  bsz : ∀ b, b < M.H.size → bsize M'.H b = bsize M.H b
  size : M.H.size ≤ M'.H.size
  frame : ∀ b, b < M.H.size → ¬ Own M b → M'.H[b]? = M.H[b]?
  own : ∀ b, Own M' b → b < M.H.size → Own M b
  Gb : ∀ b, M'.G b → b < M.H.size → M.G b ∨ Own M b
  Fb : ∀ b, M'.F b → b < M.H.size → M.F b ∨ Own M b

theorem Step.grow {M M' : Mst} (s : Step M M') : Grow M M' := ⟨s.ext.F, s.ext.G, s.ext.same, s.ext.sameG, s.ext.bsz, s.size, s.frame, s.own, s.Gb, s.Fb⟩

theorem Grow.trans {M M' M'' : Mst} (x : Grow M M') (y : Grow M' M'') : Grow M M'' where
  F b h := y.F b (x.F b h)
  G b h := y.G b (x.G b h)
  same b h := (y.same b (x.F b h)).trans (x.same b h)
  sameG b h := (y.sameG b (x.G b h)).trans (x.sameG b h)
  bsz b h := (y.bsz b (by have := x.size; omega)).trans (x.bsz b h)
  size := Nat.le_trans x.size y.size
  frame b h hn := by
    have := x.size
    rw [y.frame b (by omega) fun ho => hn (x.own b ho h), x.frame b h hn]
  own b ho h := x.own b (y.own b ho (by have := x.size; omega)) h
  Gb b hg h := by
    rcases y.Gb b hg (by have := x.size; omega) with k | k
    · exact x.Gb b k h
    · exact .inr (x.own b k h)
  Fb b hg h := by
    rcases y.Fb b hg (by have := x.size; omega) with k | k
    · exact x.Fb b k h
    · exact .inr (x.own b k h)

/-- The abstract machine's state beside GoSem's, behind a beginning. -/
structure Rel (na nt : Nat) (a0 : Nat → Value) (M0 : Mst) (w0 : World) (st : St) (a : Act) (w : World) : Prop where
  ex : ∃ M : Mst, M.h = st.h ∧ M.H = w.heap ∧ Ok M ∧ Grow M0 M ∧ ∀ t, VRep M (st.t t) (a.tmps.getD t undef)
  defers : a.defers = []
  size : a.tmps.size = nt
  os : w.os = w0.os
  tape : w.tape = w0.tape
  output : w.output = w0.output
  keep : ∀ t, t < na → a.tmps.getD t undef = a0 t

theorem ev_rep {M : Mst} {st : St} {a : Act} (h : ∀ t, VRep M (st.t t) (a.tmps.getD t undef)) (x : Operand) : VRep M (st.ev x) (a.eval x) := by
  cases x with
  | tmp t => exact h t
  | const v => exact absV_rep M v
  | global g => trivial
  | func f => exact ⟨#[], rfl, trivial⟩

theorem tset_self {t : Nat → AVal} {s : Nat} {v : AVal} (h : t s = v) : tset t s v = t := by
  funext n
  unfold tset
  cases e : Nat.beq n s with
  | false => rfl
  | true =>
    have : n = s := by simpa using e
    rw [this, h]; rfl

/-- Is an operation wanted? -/
def wantS (ops : Array Oper) (o : Oper) (st : St) : Option Bool := match o.guard with
  | none => some true
  | some (j, want) => match slotOf ops j with
    | none => none
    | some s => match st.t s with
      | .c (.bool b) => some (b == want)
      | .skp => some false
      | _ => none

theorem guardOp_some {R : Type} {ops : Array Oper} {o : Oper} {st : St} {yes no : St → Option R} {out : R} (h : guardOp ops o st yes no = some out) :
    ∃ b, wantS ops o st = some b ∧ (if b = true then yes st else no st) = some out := by
  unfold guardOp at h
  unfold wantS
  cases hg : o.guard with
  | none => rw [hg] at h; exact ⟨true, rfl, h⟩
  | some p =>
    obtain ⟨j, want⟩ := p
    rw [hg] at h
    dsimp only at h ⊢
    cases hs : slotOf ops j with
    | none => rw [hs] at h; cases h
    | some s =>
      rw [hs] at h
      dsimp only at h ⊢
      split at h
      · rename_i b hb
        rw [hb]
        refine ⟨b == want, rfl, ?_⟩
        cases b with
        | true =>
          simp only [cond_true, tset_self hb] at h
          cases want <;> exact h
        | false =>
          simp only [cond_false, tset_self hb] at h
          cases want <;> exact h
      · rename_i hb
        rw [hb]
        exact ⟨false, rfl, h⟩
      · cases h

theorem getD_some {a : Array Value} {s : Nat} {v : Value} (h : a.getD s undef = v) (hv : v ≠ undef) : a[s]? = some v := by
  by_cases hs : s < a.size
  · simp [Array.getD, hs] at h ⊢; exact h
  · simp [Array.getD, hs] at h
    exact absurd h.symm hv

theorem wantS_sound {ops : Array Oper} {o : Oper} {st : St} {b : Bool} {na nt : Nat} {a0 : Nat → Value} {M0 : Mst} {w0 w : World} {a : Act} (h : wantS ops o st = some b) (R : Rel na nt a0 M0 w0 st a w) : Region.wanted o (yielded ops a.tmps) = b := by
  obtain ⟨M, _, _, _, _, ht⟩ := R.ex
  unfold wantS at h
  unfold Region.wanted
  split at h
  · rename_i hg
    rw [hg]; cases h; rfl
  · rename_i j want hg
    rw [hg]
    split at h
    · cases h
    · rename_i s hs
      have hv := ht s
      have hs' : (ops[j]?).bind (·.dst) = some s := hs
      split at h
      · rename_i b' hb
        cases h
        rw [hb] at hv
        have hv : a.tmps.getD s undef = .bool b' := hv
        have := getD_some hv (by simp [undef])
        simp only [yielded, hs', Option.bind_some, this]
        cases b' <;> cases want <;> rfl
      · rename_i hb
        cases h
        rw [hb] at hv
        have hv : a.tmps.getD s undef = undef := hv
        simp only [yielded, hs', Option.bind_some]
        have : ∀ x : Option Value, (x = none ∨ x = some undef) → ((match x with | some (.bool b) => some b | _ => none : Option Bool) == some want) = false := fun x hx => by
          rcases hx with rfl | rfl <;> cases want <;> rfl
        refine this _ ?_
        by_cases hlt : s < a.tmps.size
        · right
          simp [Array.getD, hlt] at hv ⊢
          exact hv
        · left; simp; omega
      · cases h

theorem Behind.rel {na nt : Nat} {a0 : Nat → Value} {M0 M M' : Mst} {w0 w w' : World} {st : St} {a : Act} {dst : Option Nat} {v : AVal} {u : Upd} {rv : Value} (R : Rel na nt a0 M0 w0 st a w) (hh : M.h = st.h) (hs : Grow M0 M) (ht : ∀ t, VRep M (st.t t) (a.tmps.getD t undef))
    (hd : ∀ d, dst = some d → na ≤ d ∧ d < nt) (hB : Behind M w u M' w') (hv : VRep M' v rv) : Rel na nt a0 M0 w0 { t := tput st.t dst v, h := happly st.h u } (a.put dst rv) w' where
  ex := by
    refine ⟨M', by rw [hB.h, hh], hB.H, hB.ok, hs.trans hB.step.grow, fun t => ?_⟩
    cases dst with
    | none => exact (ht t).ext hB.step.ext
    | some d =>
      show VRep M' (tset st.t d v t) ((a.tmps.setIfInBounds d rv).getD t undef)
      have hlt : d < a.tmps.size := by rw [R.size]; exact (hd d rfl).2
      unfold tset
      cases e : Nat.beq t d with
      | true =>
        have e : t = d := by simpa using e
        subst e
        simp [hlt]
        exact hv
      | false =>
        have e : t ≠ d := fun e' => by subst e'; simp at e
        have := (ht t).ext hB.step.ext
        simp only [Array.getD_eq_getD_getElem?, Array.getElem?_setIfInBounds_ne (Ne.symm e)] at this ⊢
        exact this
  defers := by cases dst <;> exact R.defers
  size := by cases dst <;> simp [Act.put, R.size]
  os := hB.os.trans R.os
  tape := hB.tape.trans R.tape
  output := hB.output.trans R.output
  keep t h := by
    cases dst with
    | none => exact R.keep t h
    | some d =>
      have hne : d ≠ t := by have := (hd d rfl).1; omega
      rw [← R.keep t h]
      simp only [Act.put, Array.getD_eq_getD_getElem?, Array.getElem?_setIfInBounds_ne hne]

theorem Rel.skip {na nt : Nat} {a0 : Nat → Value} {M0 : Mst} {w0 w : World} {st : St} {a : Act} {dst : Option Nat} (hd : ∀ d, dst = some d → na ≤ d) (R : Rel na nt a0 M0 w0 st a w) : Rel na nt a0 M0 w0 { st with t := tput st.t dst .skp } (a.put dst undef) w where
  ex := by
    obtain ⟨M, h1, h2, h3, h4, ht⟩ := R.ex
    refine ⟨M, h1, h2, h3, h4, fun t => ?_⟩
    cases dst with
    | none => exact ht t
    | some d =>
      show VRep M (tset st.t d .skp t) ((a.tmps.setIfInBounds d undef).getD t undef)
      unfold tset
      cases e : Nat.beq t d with
      | true =>
        have e : t = d := by simpa using e
        subst e
        show (a.tmps.setIfInBounds t undef).getD t undef = undef
        by_cases h : t < a.tmps.size <;> simp [Array.getD_eq_getD_getElem?, h]
      | false =>
        have e : t ≠ d := fun e' => by subst e'; simp at e
        have := ht t
        simp only [Array.getD_eq_getD_getElem?, Array.getElem?_setIfInBounds_ne (Ne.symm e)] at this ⊢
        exact this
  defers := by cases dst <;> exact R.defers
  size := by cases dst <;> simp [Act.put, R.size]
  os := R.os
  tape := R.tape
  output := R.output
  keep t h := by
    cases dst with
    | none => exact R.keep t h
    | some d =>
      have hne : d ≠ t := by have := hd d rfl; omega
      rw [← R.keep t h]
      simp only [Act.put, Array.getD_eq_getD_getElem?, Array.getElem?_setIfInBounds_ne hne]

section
variable {E : Env} {A : Notes} {k pre na nt : Nat} {a0 : Nat → Value} {R : Type} {M0 : Mst} {w0 : World} {Q : Exit → Act → World → Prop}

theorem Rel.op (hE : EnvOK E) {st : St} {a : Act} {w : World} {o : Oper} {v : AVal} {u : Upd} {next : Act → World → Prop} (r : Rel na nt a0 M0 w0 st a w) (hd : ∀ d, o.dst = some d → na ≤ d ∧ d < nt) (hy : Yields (opS E A k pre o st.ev st.h) v u)
    (hn : ∀ a' w', Rel na nt a0 M0 w0 { t := tput st.t o.dst v, h := happly st.h u } a' w' → next a' w') : o.wp E.P a w next Q := by
  obtain ⟨M, h1, h2, h3, h4, ht⟩ := r.ex
  rw [← h1] at hy
  exact op_wp hE h3 h2 (ev_rep ht) hy fun M' w' rv hB hv => hn _ _ (hB.rel r h1 h4 ht hd hv)

theorem dstOk_spec (hE : EnvOK E) {dst : Option Nat} (h : dstOk na nt dst = true) : ∀ d, dst = some d → na ≤ d ∧ d < nt := fun d hd => by
  subst hd
  simp only [dstOk, Bool.and_eq_true] at h
  exact ⟨Nat.le_of_ble_eq_true h.1, by simpa [Nat.blt_eq] using h.2⟩

theorem runOp_some (hE : EnvOK E) {o : Oper} {st : St} {K : AVal → Upd → St → Option R} {out : R} (h : runOp E A k pre na nt o st K = some out) :
    (∀ d, o.dst = some d → na ≤ d ∧ d < nt) ∧ ∃ v u, Yields (opS E A k pre o st.ev st.h) v u ∧ K v u { t := tput st.t o.dst v, h := happly st.h u } = some out := by
  unfold runOp at h
  cases hc : dstOk na nt o.dst with
  | false => rw [hc] at h; cases h
  | true =>
    rw [hc] at h
    exact ⟨dstOk_spec hE hc, Sres.elim_some h⟩

theorem evOps_wp (hE : EnvOK E) {ops : Array Oper} : ∀ (l : List (Nat × Oper)) (st : St) (K : St → Option R) (out : R) (a : Act) (w : World), (∀ p ∈ l, ops[p.1]? = some p.2) → evOps E A k pre na nt ops l st K = some out → Rel na nt a0 M0 w0 st a w →
    (∀ st' a' w', Rel na nt a0 M0 w0 st' a' w' → K st' = some out → Q .normal a' w') → wpOps E.P ops Q (l.map (·.1)) a w
  | [], st, K, out, a, w, _, h, r, hK => hK st a w r h
  | (i, o) :: rest, st, K, out, a, w, hl, h, r, hK => by
    have ho : ops[i]? = some o := hl (i, o) (List.mem_cons_self ..)
    have ih := fun st K out a w => evOps_wp hE rest st K out a w fun p hp => hl p (List.mem_cons_of_mem _ hp)
    unfold evOps at h
    obtain ⟨b, hb, h⟩ := guardOp_some h
    have hw := wantS_sound hb r
    simp only [List.map_cons, wpOps, ho]
    cases b with
    | true =>
      rw [if_pos rfl] at h
      rw [if_pos hw]
      obtain ⟨hd, v, u, hy, h⟩ := runOp_some hE h
      exact .inl (Rel.op hE r hd hy fun a' w' r' => ih _ _ _ _ _ h r' hK)
    | false =>
      rw [if_neg (by simp)] at h
      rw [if_neg (by simp [hw])]
      cases hc : dstOk na nt o.dst with
      | false => rw [hc] at h; cases h
      | true =>
        rw [hc] at h
        exact ih _ _ _ _ _ h (r.skip fun d hd => (dstOk_spec hE hc d hd).1) hK
end
end Go.Ab
