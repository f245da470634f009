/- Whole functions. -/
import Derived.Test.YtpmkkfbnaohlhaaGiAb22
set_option linter.unusedVariables false
set_option linter.unusedSimpArgs false
set_option linter.unusedSectionVars false
namespace Go.Ab

def Ex.toExit : Ex → Exit
  | .normal => .normal
  | .ret => .ret
  | .exit id => .exit id

theorem wp_rounds {P : Program} {Q : Exit → Act → World → Prop} {c : Code} (I : Nat → Act → World → Prop) (round : ∀ n a w, I n a w → c.wp P (Exit.then (fun a' w' => ∃ m, m < n ∧ I m a' w') Q) a w) {n : Nat} {a : Act} {w : World} (h₀ : I n a w) : (Code.loop c).wp P Q a w := by
  intro b k cs
  have key : ∀ n a w, I n a w → ∃ e a' w', Q e a' w' ∧ Arrives P (lone (b.at a (.code c :: .inLoop c :: k)) cs w) b k cs e a' w' := by
    intro n
    induction n using Nat.strongRecOn with
    | _ n ih =>
      intro a w hI
      obtain ⟨e, a₁, w₁, hq, harr⟩ := round n a w hI b (.inLoop c :: k) cs
      cases e with
      | normal =>
        obtain ⟨m, hm, hI₁⟩ := hq
        obtain ⟨e₂, a₂, w₂, hq₂, harr₂⟩ := ih m hm a₁ w₁ hI₁
        exact ⟨e₂, a₂, w₂, hq₂, .of_steps (Steps.trans harr (.one step_inLoop)) harr₂⟩
      | exit id => exact ⟨_, a₁, w₁, hq, .pass (x := .inLoop c) rfl (fun _ _ => .inl (by simp)) harr⟩
      | goto l => exact ⟨_, a₁, w₁, hq, .pass (x := .inLoop c) rfl (fun _ _ => .inl (by simp)) harr⟩
      | ret => exact ⟨_, a₁, w₁, hq, .pass (x := .inLoop c) rfl (fun _ _ => .inl (by simp)) harr⟩
      | panic ch => exact ⟨_, a₁, w₁, hq, .pass (x := .inLoop c) rfl (fun _ _ => .inl (by simp)) harr⟩
      | outgrown => exact ⟨_, a₁, w₁, hq, .pass (x := .inLoop c) rfl (fun _ _ => .inl (by simp)) harr⟩
  obtain ⟨e, a', w', hq, harr⟩ := key n a w h₀
  exact ⟨e, a', w', hq, .of_steps (.one step_loop) harr⟩

def oneM (tmps : Array Value) : ResultVar → Sem Value
  | .tmp t => pure (tmps.getD t undef)
  | .cell c t => do loadVar t (← asAddr (tmps.getD c undef))

/-- The state behind a loop. -/
def outSt (base : Nat) : (l : List (Ex × Spec)) → OutD l → Ex × St
  | [], d => (.normal, ⟨fun _ => .undef, fun _ => none⟩)
  | [p], d => (p.1, stOf base p.2 d)
  | p :: q :: l, d => match d with
    | .inl d => (p.1, stOf base p.2 d)
    | .inr d => outSt base (q :: l) d

theorem elimD_some {R : Type} {base : Nat} {K : Ex → St → Option R} {out : R} : ∀ {l : List (Ex × Spec)} {d : OutD l}, elimD base l d K = some out → K (outSt base l d).1 (outSt base l d).2 = some out
  | [], _, h => by cases h
  | [p], _, h => h
  | p :: q :: l, .inl d, h => h
  | p :: q :: l, .inr d, h => elimD_some (l := q :: l) h

/-- What is said of a loop holds. -/
def LoopOK (P : Program) (pre na nt : Nat) (b : Code) (L : LoopSum) : Prop := ∀ k d x, L.sum k d = some x → ∀ (a0 : Nat → Value) (M0 : Mst) (w0 : World) (a : Act) (w : World) (Q : Exit → Act → World → Prop),
  Rel na nt a0 M0 w0 (stOf (pre + loopBase) L.inS d) a w →
  (∀ (o : OutD L.outs) a' w', (∀ R K, L.elim (pre + loopBase) x R K = elimD (pre + loopBase) L.outs o K) → Rel na nt a0 M0 w0 (outSt (pre + loopBase) L.outs o).2 a' w' → Q (outSt (pre + loopBase) L.outs o).1.toExit a' w') →
  (Code.loop b).wp P Q a w

/-- What is said of a code's loops holds. -/
def LoopsOK (P : Program) (A : Notes) (pre na nt : Nat) : Code → Prop
  | .seq a b => LoopsOK P A pre na nt a ∧ LoopsOK P A pre na nt b
  | .cond _ a b => LoopsOK P A pre na nt a ∧ LoopsOK P A pre na nt b
  | .block _ b => LoopsOK P A pre na nt b
  | .loop b => ∀ L, noteOf A b = some L → LoopOK P pre na nt b L
  | _ => True

section
variable {E : Env} {A : Notes} {k pre na nt : Nat} {a0 : Nat → Value} {R : Type} {M0 : Mst} {w0 : World} {out : R}

theorem evC_wp (hE : EnvOK E) (hS : SumsLocal E.sums) (hm : E.P.follows .mixedOrders = true) : ∀ (c : Code), LoopsOK E.P A pre na nt c → ∀ (st : St) (K : Ex → St → Option R) (a : Act) (w : World) (Q : Exit → Act → World → Prop), evC E A k pre na nt c st K = some out → Rel na nt a0 M0 w0 st a w →
    (∀ e st' a' w', Rel na nt a0 M0 w0 st' a' w' → K e st' = some out → Q e.toExit a' w') → c.wp E.P Q a w := by
  intro c
  induction c with
  | skip => exact fun _ st K a w Q h r hK => wp_skip (hK .normal st a w r h)
  | region id ops draw =>
    intro _ st K a w Q h r hK
    cases draw with
    | true =>
      cases he : edgesOk ops with
      | false => simp only [evC, he] at h; cases h
      | true =>
        simp only [evC, he] at h
        exact evOpsD_wp hE hS hm he h r fun st' a' w' r' h' => hK .normal st' a' w' r' h'
    | false =>
      simp only [evC] at h
      have := evOps_wp hE (Q := Q) _ _ _ _ a w (fun p hp => by
        obtain ⟨q, hq, rfl⟩ := List.mem_map.1 hp
        have := List.mem_zipIdx_iff_getElem?.1 hq
        simpa using this) h r fun st' a' w' r' h' => hK .normal st' a' w' r' h'
      refine wp_region ?_
      have e : (ops.toList.zipIdx.map fun p => (p.2, p.1)).map (·.1) = List.range ops.size := by
        rw [List.map_map]
        have e : (Prod.fst ∘ fun p : Oper × Nat => (p.2, p.1)) = Prod.snd := rfl
        have e2 : ((fun x : Nat × Oper => x.1) ∘ fun p : Oper × Nat => (p.2, p.1)) = Prod.snd := rfl
        rw [e2, List.zipIdx_map_snd, ← List.range_eq_range']
        simp
      rw [e] at this
      exact this
  | seq x y ihx ihy =>
    intro hL st K a w Q h r hK
    simp only [evC] at h
    refine wp_seq (ihx hL.1 st _ a w _ h r fun e st' a' w' r' h' => ?_)
    cases e with
    | normal => exact ihy hL.2 st' K a' w' Q h' r' hK
    | ret => exact hK .ret st' a' w' r' h'
    | exit id => exact hK (.exit id) st' a' w' r' h'
  | cond c x y ihx ihy =>
    intro hL st K a w Q h r hK
    simp only [evC] at h
    split at h
    · rename_i t ht
      obtain ⟨M, _, _, _, _, hv⟩ := r.ex
      have hc := ev_rep hv c
      rw [ht] at hc
      refine wp_cond (t := t) hc ?_
      cases t with
      | true => exact ihx hL.1 st K a w Q h r hK
      | false => exact ihy hL.2 st K a w Q h r hK
    · cases h
  | block id b ih =>
    intro hL st K a w Q h r hK
    simp only [evC] at h
    refine wp_block (ih hL st _ a w _ h r fun e st' a' w' r' h' => ?_)
    cases e with
    | normal => exact hK .normal st' a' w' r' h'
    | ret => exact hK .ret st' a' w' r' h'
    | exit i =>
      show if i = id then Q .normal a' w' else Q (.exit i) a' w'
      dsimp only at h'
      cases e : Nat.beq i id with
      | true =>
        rw [e] at h'
        rw [if_pos (by simpa using e)]
        exact hK .normal st' a' w' r' h'
      | false =>
        rw [e] at h'
        rw [if_neg (fun e' => by subst e'; simp at e)]
        exact hK (.exit i) st' a' w' r' h'
  | loop b ih =>
    intro hL st K a w Q h r hK
    simp only [evC] at h
    split at h
    · cases h
    · rename_i L hN
      split at h
      · cases h
      · rename_i d hd
        obtain ⟨x, hx, h⟩ := Option.bind_eq_some_iff.1 h
        exact hL L hN k d x hx a0 M0 w0 a w Q (canonS_rel r hd) fun o a' w' ho r' => hK _ _ a' w' r' (elimD_some (by rw [← ho]; exact h))
  | exit id => exact fun _ st K a w Q h r hK => wp_exit (hK (.exit id) st a w r h)
  | ret => exact fun _ st K a w Q h r hK => wp_ret (hK .ret st a w r h)
  | _ => intro _ st K a w Q h; simp only [evC] at h; cases h

theorem exEq_spec {a b : Ex} (h : exEq a b = true) : a = b := by
  cases a <;> cases b <;> first | rfl | (cases h; done) | skip
  rw [Nat.eq_of_beq_eq_true h]

theorem mkOut_rel {a : Act} {w : World} {st : St} {e : Ex} (r : Rel na nt a0 M0 w0 st a w) : ∀ {l : List (Ex × Spec)} {x : OutD l}, mkOut pre l e st = some x → (outSt (pre + loopBase) l x).1 = e ∧ Rel na nt a0 M0 w0 (outSt (pre + loopBase) l x).2 a w
  | [], _, h => by cases h
  | [p], x, h => by
    obtain ⟨he, h⟩ := cond_some' h
    exact ⟨exEq_spec he, canonS_rel r h⟩
  | p :: q :: l, x, h => by
    unfold mkOut at h
    cases he : exEq p.1 e with
    | true =>
      rw [he] at h
      simp only [cond_true] at h
      split at h
      · rename_i d hd
        cases h
        exact ⟨exEq_spec he, canonS_rel r hd⟩
      · cases h
    | false =>
      rw [he] at h
      simp only [cond_false] at h
      split at h
      · rename_i d hd
        cases h
        exact mkOut_rel r (l := q :: l) hd
      · cases h

/-- A loop by its rounds. -/
theorem loop_sound (hE : EnvOK E) (hS : SumsLocal E.sums) (hm : E.P.follows .mixedOrders = true) {b : Code} {inS : Spec} {outs : List (Ex × Spec)} (hL : LoopsOK E.P A pre na nt b) {X : Type} (toX : OutD outs → X) (elim : Nat → X → (R : Type) → (Ex → St → Option R) → Option R) (hX : ∀ o R K, elim (pre + loopBase) (toX o) R K = elimD (pre + loopBase) outs o K)
    (rec : Nat → Nat → inS.den → Option X) (h0 : ∀ k d, rec k 0 d = none)
    (hstep : ∀ k n d, rec k (n + 1) d = evC E A k pre na nt b (stOf (pre + loopBase) inS d) (roundK pre inS outs toX (rec k n))) : LoopOK E.P pre na nt b ⟨inS, outs, X, fun k d => rec k k d, elim⟩ := by
  intro k d x hx a0 M0 w0 a w Q r hQ
  refine wp_rounds (fun n a w => ∃ d, Rel na nt a0 M0 w0 (stOf (pre + loopBase) inS d) a w ∧ rec k n d = some x) (fun n a w ⟨d, r, hi⟩ => ?_) ⟨d, r, hx⟩
  cases n with
  | zero => rw [h0] at hi; cases hi
  | succ n =>
    rw [hstep k n d] at hi
    refine evC_wp hE hS hm b hL _ _ a w _ hi r fun e st' a' w' r' h' => ?_
    have out : ∀ e, (match mkOut pre outs e st' with | some o => some (toX o) | none => none) = some x → Q e.toExit a' w' := fun e h' => by
      split at h'
      · rename_i o ho
        cases h'
        obtain ⟨h1, h2⟩ := mkOut_rel (pre := pre) r' ho
        have := hQ o a' w' (fun R K => hX o R K) h2
        rw [h1] at this
        exact this
      · cases h'
    cases e with
    | normal =>
      have h' : (match canonS pre inS st' with | some d => rec k n d | none => none) = some x := h'
      split at h'
      · rename_i d' hd
        exact ⟨n, Nat.lt_succ_self n, d', canonS_rel r' hd, h'⟩
      · cases h'
    | ret => exact out .ret h'
    | exit id => exact out (.exit id) h'

/-! ### Results -/
theorem results_eq (fn : Func) (tmps : Array Value) : results fn tmps = (do let vs ← fn.results.mapM (oneM tmps); pure (if h : vs.size = 1 then vs[0] else .tuple vs)) := rfl

theorem resOne_sound (hE : EnvOK E) (hS : SumsLocal E.sums) (hm : E.P.follows .mixedOrders = true) {st : St} {a : Act} {w : World} {x : ResultVar} {v : AVal} {M : Mst} (hM : M.h = st.h) (hH : M.H = w.heap) (ok : Ok M) (ht : ∀ t, VRep M (st.t t) (a.tmps.getD t undef)) (h : resOne E st x = some v) :
    ∃ rv, (oneM a.tmps x).run E.P w = .ok rv w ∧ VRep M v rv := by
  unfold resOne at h
  split at h
  · rename_i t
    cases h
    exact ⟨_, rfl, ht t⟩
  · rename_i c t
    split at h
    · rename_i id off hc
      split at h
      · rename_i own cells hid
        split at h
        · rename_i vs hcut
          have hv := ht c
          rw [hc] at hv
          obtain ⟨C, B, hC, hB, e⟩ := hv
          obtain ⟨C', hC', hO⟩ := ok.obj id _ (by rw [hM]; exact hid)
          rw [hC] at hC'; cases hC'
          obtain ⟨B', hB', hcells⟩ := box_cells hO
          rw [hB] at hB'; cases hB'
          obtain ⟨rv2, hrun, hrep⟩ : ∃ rv, (loadVar t ⟨B, 0 + off, none⟩).run E.P w = .ok rv w ∧ VRep M v rv := load_cells_pure ok hH hcells hcut h
          refine ⟨rv2, ?_, hrep⟩
          simp only [Nat.zero_add] at hrun
          unfold oneM
          dsimp only
          rw [e]
          simp [asAddr, hrun]
        · cases h
      · cases h
    · cases h

theorem compOf_rep {M : Mst} {v : AVal} {p : Bool × List CVal} {rv : Value} (h : compOf v = some p) (hv : VRep M v rv) : CompRep M p rv := by
  unfold compOf at h
  split at h
  · cases h; exact hv
  · cases h; exact hv
  · cases h

theorem comps_rep {M : Mst} : ∀ {vs : List AVal} {xs : List (Bool × List CVal)} {rs : List Value}, All2 (fun a b => compOf a = some b) vs xs → All2 (VRep M) vs rs → All2 (CompRep M) xs rs
  | [], [], [], _, _ => trivial
  | _ :: _, _ :: _, _ :: _, h, k => ⟨compOf_rep h.1 k.1, comps_rep h.2 k.2⟩
  | [], [], _ :: _, _, k => k.elim
  | [], _ :: _, _, h, _ => h.elim
  | _ :: _, [], _, h, _ => h.elim
  | _ :: _, _ :: _, [], _, k => k.elim

theorem mapM_comp {st : St} : ∀ (l : List ResultVar) (xs : List (Bool × List CVal)), l.mapM (fun r => (resOne E st r).bind compOf) = some xs → ∃ vs, l.mapM (resOne E st) = some vs ∧ vs.mapM compOf = some xs
  | [], xs, h => by simp at h; subst h; exact ⟨[], rfl, rfl⟩
  | x :: l, xs, h => by
    simp only [List.mapM_cons, Option.bind_eq_bind, Option.bind_eq_some_iff] at h
    obtain ⟨p, ⟨v, h1, h2⟩, ps, h3, h4⟩ := h
    cases h4
    obtain ⟨vs, k1, k2⟩ := mapM_comp l ps h3
    exact ⟨v :: vs, by simp [List.mapM_cons, h1, k1], by simp [List.mapM_cons, h2, k2]⟩

theorem resultsA_sound (hE : EnvOK E) (hS : SumsLocal E.sums) (hm : E.P.follows .mixedOrders = true) {fn : Func} {st : St} {a : Act} {w : World} {v : AVal} {M : Mst} (hM : M.h = st.h) (hH : M.H = w.heap) (ok : Ok M) (ht : ∀ t, VRep M (st.t t) (a.tmps.getD t undef)) (h : resultsA E fn st = some v) :
    ∃ rv, (results fn a.tmps).run E.P w = .ok rv w ∧ VRep M v rv := by
  have one := fun x v => resOne_sound hE hS hm (x := x) (v := v) hM hH ok ht
  have key : ∀ (l : List ResultVar) (vs : List AVal), l.mapM (resOne E st) = some vs → ∃ rs : List Value, (l.mapM (oneM a.tmps)).run E.P w = .ok rs w ∧ All2 (VRep M) vs rs := by
    intro l
    induction l with
    | nil => exact fun vs h => by simp at h; subst h; exact ⟨[], rfl, trivial⟩
    | cons x l ih =>
      intro vs h
      simp only [List.mapM_cons, Option.bind_eq_bind, Option.bind_eq_some_iff] at h
      obtain ⟨v, h1, vs', h2, h3⟩ := h
      cases h3
      obtain ⟨rv, k1, k2⟩ := one x v h1
      obtain ⟨rs, k3, k4⟩ := ih vs' h2
      refine ⟨rv :: rs, ?_, k2, k4⟩
      rw [List.mapM_cons]
      simp only [Sem.run_bind, k1, Result.andThen_ok, k3, Sem.run_pure]
  have run : ∀ (vs : List AVal), fn.results.toList.mapM (resOne E st) = some vs → ∃ rs : List Value, (results fn a.tmps).run E.P w = .ok (if h : rs.length = 1 then rs[0] else .tuple rs.toArray) w ∧ All2 (VRep M) vs rs := fun vs h => by
    obtain ⟨rs, k1, k2⟩ := key _ vs h
    refine ⟨rs, ?_, k2⟩
    rw [results_eq, Array.mapM_eq_mapM_toList]
    simp only [Sem.run_map, Sem.run_bind, k1, Result.andThen_ok, Sem.run_pure]
    congr 1
  unfold resultsA at h
  split at h
  · rename_i hl
    cases h
    obtain ⟨rs, k1, k2⟩ := run [] (by rw [hl]; rfl)
    cases rs with
    | cons _ _ => exact k2.elim
    | nil => exact ⟨_, k1, #[], rfl, trivial⟩
  · rename_i x hl
    obtain ⟨rs, k1, k2⟩ := run [v] (by rw [hl]; simp [h])
    match rs, k2 with
    | [r], k2 => exact ⟨_, k1, k2.1⟩
  · rename_i h0 h1
    split at h
    · rename_i xs hxs
      cases h
      obtain ⟨vs, k1, k2⟩ := mapM_comp _ _ hxs
      obtain ⟨rs, r1, r2⟩ := run vs k1
      have hlen : rs.length ≠ 1 := fun e => by
        have e1 := r2.length
        have e2 := (mapM_some _ _ _ k1).length
        have h3 : fn.results.toList.length = 1 := by omega
        match hl : fn.results.toList, h3 with
        | [x], _ => exact h1 x hl
      rw [dif_neg hlen] at r1
      exact ⟨_, r1, rs.toArray, rfl, comps_rep (mapM_some _ _ _ k2) r2⟩
    · cases h

/-- What a whole function comes to: what 'K' is told of, behind memory that grew alone. -/
theorem evF_calls (hE : EnvOK E) (hS : SumsLocal E.sums) (hm : E.P.follows .mixedOrders = true) {f : FuncId} {fn : Func} (hf : E.P.funcs[f]? = some fn) (hL : ∀ c, fn.body = some c → LoopsOK E.P A pre na fn.ntmps c) {args : List AVal} {h : Hp} {K : AVal → St → Option R} (hev : evF E A k pre na fn args h K = some out) {M : Mst} {w : World} {vs : Array Value} (hh : M.h = h) (hH : M.H = w.heap) (ok : Ok M)
    (hv : All2 (VRep M) args vs.toList) : Calls E.P f vs w fun
      | .returned rv, w' => ∃ (M' : Mst) (v : AVal) (st : St), K v st = some out ∧ M'.h = st.h ∧ M'.H = w'.heap ∧ Ok M' ∧ Grow M M' ∧ VRep M' v rv ∧ w'.os = w.os ∧ w'.tape = w.tape ∧ w'.output = w.output ∧
          (∀ t, t < na → VRep M' (st.t t) (vs.getD t undef))
      | _, _ => False := by
  unfold evF at hev
  cases hb : fn.body with
  | none => rw [hb] at hev; cases hev
  | some c =>
    rw [hb] at hev
    dsimp only at hev
    cases hle : Nat.ble args.length fn.ntmps with
    | false => rw [hle] at hev; cases hev
    | true =>
      rw [hle] at hev
      rw [cond_true] at hev
      have hl := hv.length
      have hle : args.length ≤ fn.ntmps := Nat.le_of_ble_eq_true hle
      have hsz : vs.size ≤ fn.ntmps := by simp at hl; omega
      have hslot : ∀ t, VRep M (argSlots args t) ((vs ++ Array.replicate (fn.ntmps - vs.size) undef).getD t undef) := fun t => by
        unfold argSlots
        by_cases ht : t < args.length
        · have ht' : t < vs.size := by simp at hl; omega
          have := hv.get t ht (by simpa using ht')
          simp only [List.getD_eq_getElem?_getD, List.getElem?_eq_getElem ht, Option.getD_some]
          simp only [Array.getD_eq_getD_getElem?, Array.getElem?_append_left ht', Array.getElem?_eq_getElem ht', Option.getD_some]
          simpa using this
        · have ht' : ¬ t < vs.size := by simp at hl; omega
          simp only [List.getD_eq_getElem?_getD, List.getElem?_eq_none (Nat.not_lt.1 ht), Option.getD_none]
          show _ = undef
          simp only [Array.getD_eq_getD_getElem?, Array.getElem?_append_right (Nat.not_lt.1 ht')]
          by_cases h2 : t - vs.size < fn.ntmps - vs.size <;> simp [h2]
      have r : Rel na fn.ntmps (fun t => (vs ++ Array.replicate (fn.ntmps - vs.size) undef).getD t undef) M w { t := argSlots args, h := h } { tmps := vs ++ Array.replicate (fn.ntmps - vs.size) undef, defers := [] } w :=
        ⟨⟨M, hh, hH, ok, .refl M, hslot⟩, rfl, by simp; omega, rfl, rfl, rfl, fun _ _ => rfl⟩
      refine calls_of_wp hf hb (evC_wp hE hS hm c (hL c hb) _ _ _ _ _ hev r fun e st' a' w' r' hK => ?_)
      obtain ⟨M', q1, q2, q3, q4, q5⟩ := r'.ex
      have fin : ∀ v, resultsA E fn st' = some v → K v st' = some out → a'.defers = [] ∧ ∃ rv, (results fn a'.tmps).run E.P w' = .ok rv w' ∧ ∃ (M' : Mst) (v : AVal) (st : St), K v st = some out ∧ M'.h = st.h ∧ M'.H = w'.heap ∧ Ok M' ∧ Grow M M' ∧ VRep M' v rv ∧ w'.os = w.os ∧ w'.tape = w.tape ∧ w'.output = w.output ∧
          (∀ t, t < na → VRep M' (st.t t) (vs.getD t undef)) := fun v hres hK => by
        obtain ⟨rv, k1, k2⟩ := resultsA_sound hE hS hm q1 q2 q3 q5 hres
        refine ⟨r'.defers, rv, k1, M', v, st', hK, q1, q2, q3, q4, k2, r'.os, r'.tape, r'.output, fun t ht => ?_⟩
        have := q5 t
        rw [r'.keep t ht] at this
        have e : (vs ++ Array.replicate (fn.ntmps - vs.size) undef).getD t undef = vs.getD t undef := by
          by_cases h1 : t < vs.size
          · simp [Array.getD_eq_getD_getElem?, Array.getElem?_append_left h1]
          · simp only [Array.getD_eq_getD_getElem?, Array.getElem?_append_right (Nat.not_lt.1 h1), Array.getElem?_eq_none (Nat.not_lt.1 h1)]
            by_cases h2 : t - vs.size < fn.ntmps - vs.size <;> simp [h2]
        rw [e] at this
        exact this
      cases e with
      | exit id => cases hK
      | normal =>
        dsimp only at hK
        split at hK
        · rename_i v hres
          exact fin v hres hK
        · cases hK
      | ret =>
        dsimp only at hK
        split at hK
        · rename_i v hres
          exact fin v hres hK
        · cases hK
end
end Go.Ab
