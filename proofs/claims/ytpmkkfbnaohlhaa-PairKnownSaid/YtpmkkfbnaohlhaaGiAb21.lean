/- Regions. -/
import Derived.Test.YtpmkkfbnaohlhaaGiAb20
set_option linter.unusedVariables false
set_option linter.unusedSimpArgs false
set_option linter.unusedSectionVars false
namespace Go.Ab

theorem edgesOk_spec {ops : Array Oper} (h : edgesOk ops = true) {j : Nat} {o : Oper} (ho : ops[j]? = some o) : ∀ e ∈ o.after.toList, Region.binds .any e = true → e.on < j := by
  intro e he hb
  have hj := (Array.getElem?_eq_some_iff.1 ho).1
  have hm : (o, j) ∈ ops.toList.zipIdx := by
    rw [List.mem_zipIdx_iff_getElem?]
    simpa using ho
  have := List.all_eq_true.1 (List.all_eq_true.1 h _ hm) e he
  simpa [hb, Nat.blt_eq] using this

theorem set_getD {L : Array Bool} {i : Nat} (hi : i < L.size) (j : Nat) : (L.setIfInBounds i true).getD j false = (L.getD j false || i == j) := by
  by_cases h : i = j
  · subst h; simp [hi]
  · rw [getD_set_ne false h]
    have : (i == j) = false := by simpa using h
    rw [this, Bool.or_false]

section
variable {E : Env} {A : Notes} {k pre na nt : Nat} {a0 : Nat → Value} {R : Type} {ops : Array Oper} {M0 : Mst} {w0 : World} {Q : Exit → Act → World → Prop}

theorem wpAny_its (hE : EnvOK E) (hS : SumsLocal E.sums) (he : edgesOk ops = true) {its : List It} {st : St} (hi : its.map (·.i) = List.range ops.size) (hops : ∀ y ∈ its, ops[y.i]? = some y.o) (hg : ∀ pfx it post, its = pfx ++ it :: post → Good E A k pre na nt ops (pfx.foldl app st) it)
    (hp : its.Pairwise (Apart pre ops (Region.before ops))) (hQ : ∀ a w, Rel na nt a0 M0 w0 (its.foldl app st) a w → Q .normal a w) :
    ∀ (fuel : Nat) (L : Array Bool) (a : Act) (w : World), L.size = ops.size → (∃ U : List Nat, U.length ≤ fuel ∧ ∀ j, j < ops.size → L.getD j false = false → j ∈ U) → Closed ops (fun j => L.getD j false) →
      Rel na nt a0 M0 w0 ((its.filter fun y => L.getD y.i false).foldl app st) a w → wpAny E.P .any ops Q fuel L a w := by
  have hu : ∀ y ∈ its, y.wt = false → y.u = [] := fun y hy hw => by
    obtain ⟨pfx, post, e⟩ := List.append_of_mem hy
    exact ((hg pfx y post e).n hw).2.1
  have hil : ∀ y ∈ its, y.i < ops.size := fun y hy => (Array.getElem?_eq_some_iff.1 (hops y hy)).1
  have hnd : (its.map (·.i)).Nodup := by rw [hi]; exact List.nodup_range
  have full : ∀ (L : Array Bool) (a : Act) (w : World), (∀ j, j < ops.size → L.getD j false = true) → Rel na nt a0 M0 w0 ((its.filter fun y => L.getD y.i false).foldl app st) a w → Q .normal a w := fun L a w hl r => by
    rw [List.filter_eq_self.2 fun y hy => hl y.i (hil y hy)] at r
    exact hQ a w r
  have rdy : ∀ (L : Array Bool), L.size = ops.size → Region.ready .any ops L = [] → ∀ j, j < ops.size → L.getD j false = true := fun L hL hr j => by
    induction j using Nat.strongRecOn with
    | _ j ih =>
      intro hj
      cases hb : L.getD j false with
      | true => rfl
      | false =>
        have ho : ops[j]? = some ops[j] := Array.getElem?_eq_getElem hj
        have : j ∈ Region.ready .any ops L := mem_ready.2 ⟨by
          have hjL : j < L.size := by omega
          simpa [Array.getD, hjL] using hb, ops[j], ho, fun e he' hb' => by
            have hlt := edgesOk_spec he ho e (by simpa using he') hb'
            exact ih e.on hlt (by omega)⟩
        rw [hr] at this; cases this
  intro fuel
  induction fuel with
  | zero =>
    intro L a w hL hU hC r
    obtain ⟨U, hUl, hU⟩ := hU
    have hU0 : U = [] := List.eq_nil_of_length_eq_zero (by omega)
    have hall : ∀ j, j < ops.size → L.getD j false = true := fun j hj => by
      cases hb : L.getD j false with
      | true => rfl
      | false => have := hU j hj hb; rw [hU0] at this; cases this
    refine ⟨?_, full L a w hall r⟩
    cases hr : Region.ready .any ops L with
    | nil => rfl
    | cons j l =>
      have : j ∈ Region.ready .any ops L := by rw [hr]; exact List.mem_cons_self ..
      obtain ⟨h0, o, ho, _⟩ := mem_ready.1 this
      have hj := (Array.getElem?_eq_some_iff.1 ho).1
      have := hall j hj
      have hjL : j < L.size := by omega
      simp [Array.getD, hjL] at this h0
      rw [this] at h0; cases h0
  | succ fuel ih =>
    intro L a w hL hU hC r
    refine ⟨fun hr => full L a w (rdy L hL hr) r, fun i hir => ?_⟩
    obtain ⟨h0, o, ho, hready⟩ := mem_ready.1 hir
    have hilt := (Array.getElem?_eq_some_iff.1 ho).1
    have hiL : i < L.size := by omega
    have h0' : L.getD i false = false := by simpa [Array.getD, hiL] using h0
    obtain ⟨it, hit, hiti⟩ : ∃ it ∈ its, it.i = i := by
      have : i ∈ its.map (·.i) := by rw [hi]; simpa using hilt
      obtain ⟨it, h1, h2⟩ := List.mem_map.1 this
      exact ⟨it, h1, h2⟩
    obtain ⟨pfx, post, e⟩ := List.append_of_mem hit
    have hio : ops[it.i]? = some it.o := hops it hit
    have hoo : o = it.o := by rw [hiti, ho] at hio; exact Option.some.inj hio
    subst hoo
    have hgood := good_any hE hS hC (by rw [← e]; exact hops) (hg pfx it post e) (by rw [← e]; exact hu) (by rw [← e]; exact hp) (by rw [hiti]; exact h0') (fun o' ho' ed hed hb => by
      rw [hio] at ho'
      cases ho'
      exact hready ed (by simpa using hed) hb)
    rw [← e] at hgood
    obtain ⟨hgd, hcomm⟩ := hgood
    have hw := wantS_sound hgd.w r
    -- the set with one more
    have hset : (its.filter fun y => (L.setIfInBounds i true).getD y.i false).foldl app st = app ((its.filter fun y => L.getD y.i false).foldl app st) it := by
      have other : ∀ y ∈ pfx ++ post, (L.setIfInBounds i true).getD y.i false = L.getD y.i false := fun y hy => by
        rw [set_getD hiL]
        have : y.i ≠ i := fun h => by
          rw [e, List.map_append, List.map_cons] at hnd
          have h2 := List.nodup_append.1 hnd
          rcases List.mem_append.1 hy with hy | hy
          · exact h2.2.2 y.i (List.mem_map_of_mem hy) it.i (List.mem_cons_self ..) (by rw [h, hiti])
          · exact (List.nodup_cons.1 h2.2.1).1 (by rw [hiti, ← h]; exact List.mem_map_of_mem hy)
        have : (i == y.i) = false := by simpa using Ne.symm this
        rw [this, Bool.or_false]
      have e1 : its.filter (fun y => L.getD y.i false) = pfx.filter (fun y => L.getD y.i false) ++ post.filter (fun y => L.getD y.i false) := by
        conv => lhs; rw [e]
        rw [List.filter_append, List.filter_cons, if_neg (by rw [hiti, h0']; simp)]
      have e2 : its.filter (fun y => (L.setIfInBounds i true).getD y.i false) = pfx.filter (fun y => L.getD y.i false) ++ it :: post.filter (fun y => L.getD y.i false) := by
        conv => lhs; rw [e]
        rw [List.filter_append, List.filter_cons, if_pos (by rw [hiti, set_getD hiL]; simp), List.filter_congr fun y hy => other y (List.mem_append_left _ hy), List.filter_congr fun y hy => other y (List.mem_append_right _ hy)]
      rw [e1, e2, List.foldl_append, List.foldl_append, List.foldl_cons]
      exact (app_last fun y hy => by
        obtain ⟨hy1, hy2⟩ := List.mem_filter.1 hy
        exact hcomm y hy1 hy2).symm
    have hC' : Closed ops fun j => (L.setIfInBounds i true).getD j false := fun j o' hj ho' ed hed hb => by
      dsimp only at hj ⊢
      rw [set_getD hiL] at hj
      refine getD_set_true ?_
      rw [Bool.or_eq_true] at hj
      rcases hj with hj | hj
      · exact hC j o' hj ho' ed hed hb
      · have : i = j := by simpa using hj
        subst this
        rw [ho] at ho'; cases ho'
        exact hready ed (by simpa using hed) hb
    have hU' : ∃ U : List Nat, U.length ≤ fuel ∧ ∀ j, j < ops.size → (L.setIfInBounds i true).getD j false = false → j ∈ U := by
      obtain ⟨U, hl, hU⟩ := hU
      refine ⟨U.erase i, ?_, fun j hj hb => ?_⟩
      · rw [List.length_erase_of_mem (hU i hilt h0')]; omega
      · rw [set_getD hiL, Bool.or_eq_false_iff] at hb
        exact (List.mem_erase_of_ne (by have := hb.2; simp at this; exact fun h => this h.symm)).2 (hU j hj hb.1)
    unfold wpOp
    rw [ho]
    dsimp only
    cases hwt : it.wt with
    | true =>
      rw [hwt] at hw
      rw [if_pos hw]
      obtain ⟨hd, hy, _⟩ := hgd.y hwt
      refine .inl (Rel.op hE r hd hy fun a' w' r' => ?_)
      exact ih _ _ _ (by simpa using hL) hU' hC' (by rw [hset]; exact r')
    | false =>
      rw [hwt] at hw
      rw [if_neg (by simp [hw])]
      obtain ⟨hv, hu', hdst⟩ := hgd.n hwt
      refine ih _ _ _ (by simpa using hL) hU' hC' ?_
      rw [hset]
      have := r.skip (dst := it.o.dst) fun d hd => (hdst d hd).1
      unfold app
      rw [hv, hu']
      exact this

theorem evOpsD_wp (hE : EnvOK E) (hS : SumsLocal E.sums) {id : Nat} {st : St} {K : St → Option R} {out : R} {a : Act} {w : World} (hm : E.P.follows .mixedOrders = true) (he : edgesOk ops = true)
    (h : evOpsD E A k pre na nt ops (Region.before ops) (ops.toList.zipIdx.map fun p => (p.2, p.1)) [] st K = some out) (r : Rel na nt a0 M0 w0 st a w)
    (hK : ∀ st' a' w', Rel na nt a0 M0 w0 st' a' w' → K st' = some out → Q .normal a' w') : (Code.region id ops true).wp E.P Q a w := by
  obtain ⟨its, h1, h2, h3, _, h5⟩ := evOpsD_some hE _ _ _ _ _ h
  have hi : its.map (·.i) = List.range ops.size := by
    have := congrArg (List.map Prod.fst) h1
    rw [List.map_map, List.map_map] at this
    refine Eq.trans this ?_
    have e : (Prod.fst ∘ fun p : Oper × Nat => (p.2, p.1)) = Prod.snd := rfl
    rw [e, List.zipIdx_map_snd, ← List.range_eq_range']
    simp
  have hops : ∀ y ∈ its, ops[y.i]? = some y.o := fun y hy => by
    have : (y.i, y.o) ∈ ops.toList.zipIdx.map fun p => (p.2, p.1) := by rw [← h1]; exact List.mem_map.2 ⟨y, hy, rfl⟩
    obtain ⟨p, hp, e⟩ := List.mem_map.1 this
    have := List.mem_zipIdx_iff_getElem?.1 hp
    rw [(Prod.mk.inj e).1, (Prod.mk.inj e).2] at this
    simpa using this
  refine wp_region_any hm (wpAny_its hE hS he (nt := nt) (na := na) (a0 := a0) (M0 := M0) (w0 := w0) hi hops h3 h5 (fun a w r => hK _ a w r h2) _ _ _ _ (by simp) ⟨List.range ops.size, by simp, fun j hj _ => by simpa using hj⟩ (fun j o hj => ?_) ?_)
  · exfalso
    by_cases h : j < ops.size <;> simp [Array.getD, h] at hj
  · rw [List.filter_eq_nil_iff.2 fun y hy => by
      by_cases h : y.i < ops.size <;> simp [Array.getD, h]]
    exact ⟨r.ex, r.defers, r.size, r.os, r.tape, r.output, r.keep⟩
end
end Go.Ab
