/- A region's operations, in any order that the edges allow. -/
import Derived.Test.YtpmkkfbnaohlhaaGiAb18
set_option linter.unusedVariables false
set_option linter.unusedSimpArgs false
set_option linter.unusedSectionVars false
namespace Go.Ab

/-! ### What stands ahead -/
def edgeBits (o : Oper) (acc : Array Nat) : Nat := o.after.foldl (fun s e => if Region.binds .any e then s ||| 2 ^ e.on ||| acc.getD e.on 0 else s) 0

theorem edgeBits_spec (acc : Array Nat) (i : Nat) : ∀ (l : List Edge) (s : Nat), (l.foldl (fun s e => if Region.binds .any e then s ||| 2 ^ e.on ||| acc.getD e.on 0 else s) s).testBit i = true →
    s.testBit i = true ∨ ∃ e ∈ l, Region.binds .any e = true ∧ (e.on = i ∨ (acc.getD e.on 0).testBit i = true)
  | [], s, h => .inl h
  | e :: l, s, h => by
    rw [List.foldl_cons] at h
    rcases edgeBits_spec acc i l _ h with h | ⟨e', he, h⟩
    · split at h
      · rename_i hb
        rw [Nat.testBit_or, Nat.testBit_or, Bool.or_eq_true, Bool.or_eq_true] at h
        rcases h with (h | h) | h
        · exact .inl h
        · rw [Nat.testBit_two_pow] at h
          exact .inr ⟨e, List.mem_cons_self .., hb, .inl (by simpa using h)⟩
        · exact .inr ⟨e, List.mem_cons_self .., hb, .inr h⟩
      · exact .inl h
    · exact .inr ⟨e', List.mem_cons_of_mem _ he, h⟩

def BitsOk (ops : Array Oper) (acc : Array Nat) : Prop := ∀ j, j < acc.size → ∀ i, (acc.getD j 0).testBit i = true → ∃ o, ops[j]? = some o ∧ ∃ e ∈ o.after.toList, Region.binds .any e = true ∧ (e.on = i ∨ (e.on < j ∧ (acc.getD e.on 0).testBit i = true))

theorem bits_push {ops : Array Oper} {acc : Array Nat} {o : Oper} (h : BitsOk ops acc) (ho : ops[acc.size]? = some o) : BitsOk ops (acc.push (edgeBits o acc)) := by
  have old : ∀ j, j < acc.size → (acc.push (edgeBits o acc)).getD j 0 = acc.getD j 0 := fun j hj => by
    simp [Array.getD_eq_getD_getElem?, Array.getElem?_push, Nat.ne_of_lt hj]
  intro j hj i hb
  simp only [Array.size_push] at hj
  by_cases hlt : j < acc.size
  · rw [old j hlt] at hb
    obtain ⟨o', h1, e, h2, h3, h4⟩ := h j hlt i hb
    refine ⟨o', h1, e, h2, h3, ?_⟩
    rcases h4 with h4 | ⟨h4, h5⟩
    · exact .inl h4
    · exact .inr ⟨h4, by rw [old _ (by omega)]; exact h5⟩
  · have e : j = acc.size := by omega
    subst e
    rw [show (acc.push (edgeBits o acc)).getD acc.size 0 = edgeBits o acc by simp [Array.getD_eq_getD_getElem?]] at hb
    unfold edgeBits at hb
    rw [← Array.foldl_toList] at hb
    rcases edgeBits_spec acc i _ _ hb with hb | ⟨e, h2, h3, h4⟩
    · simp at hb
    · refine ⟨o, ho, e, h2, h3, ?_⟩
      rcases h4 with h4 | h4
      · exact .inl h4
      · have hlt' : e.on < acc.size := by
          rcases Nat.lt_or_ge e.on acc.size with h | h
          · exact h
          · rw [show acc.getD e.on 0 = 0 by simp [Array.getD, Nat.not_lt.2 h]] at h4
            simp at h4
        exact .inr ⟨hlt', by rw [old _ hlt']; exact h4⟩

theorem before_ok (ops : Array Oper) : BitsOk ops (Region.before ops) := by
  have key : ∀ (l : List Oper) (acc : Array Nat), BitsOk ops acc → (∀ m (hm : m < l.length), ops[acc.size + m]? = some l[m]) →
      BitsOk ops (l.foldl (fun acc o => acc.push (edgeBits o acc)) acc) := by
    intro l
    induction l with
    | nil => exact fun acc h _ => h
    | cons o l ih =>
      intro acc h ho
      rw [List.foldl_cons]
      refine ih _ (bits_push h (ho 0 (by simp))) fun m hm => ?_
      have := ho (m + 1) (by simp; omega)
      simp only [Array.size_push, List.getElem_cons_succ] at this ⊢
      rw [← this]; congr 1; omega
  have := key ops.toList #[] (fun j hj => by simp at hj) fun m hm => by simp at hm ⊢
  unfold Region.before
  rw [← Array.foldl_toList]
  exact this

theorem before_step {ops : Array Oper} {i j : Nat} (h : isBefore (Region.before ops) i j = true) : ∃ o, ops[j]? = some o ∧ ∃ e ∈ o.after.toList, Region.binds .any e = true ∧ (e.on = i ∨ (e.on < j ∧ isBefore (Region.before ops) i e.on = true)) := by
  unfold isBefore at h
  by_cases hj : j < (Region.before ops).size
  · exact before_ok ops j hj i h
  · rw [show (Region.before ops).getD j 0 = 0 by simp [Array.getD, hj]] at h
    simp at h

/-- A set of operations with all that stands ahead of its own. -/
def Closed (ops : Array Oper) (S : Nat → Bool) : Prop := ∀ j o, S j = true → ops[j]? = some o → ∀ e ∈ o.after.toList, Region.binds .any e = true → S e.on = true

theorem before_closed {ops : Array Oper} {S : Nat → Bool} (hS : Closed ops S) {i : Nat} : ∀ (n j : Nat), j = n → isBefore (Region.before ops) i j = true → S j = true → S i = true := by
  intro n
  induction n using Nat.strongRecOn with
  | _ n ih =>
    intro j hj h hs
    obtain ⟨o, ho, e, he, hb, h⟩ := before_step h
    have hse := hS j o hs ho e he hb
    rcases h with h | ⟨h, hi⟩
    · rw [← h]; exact hse
    · exact ih e.on (by omega) e.on rfl hi hse

theorem before_ready {ops : Array Oper} {S : Nat → Bool} (hS : Closed ops S) {i j : Nat} (h : isBefore (Region.before ops) i j = true) (hr : ∀ o, ops[j]? = some o → ∀ e ∈ o.after.toList, Region.binds .any e = true → S e.on = true) : S i = true := by
  obtain ⟨o, ho, e, he, hb, h⟩ := before_step h
  have hse := hr o ho e he hb
  rcases h with h | ⟨h, hi⟩
  · rw [← h]; exact hse
  · exact before_closed hS _ _ rfl hi hse

/-! ### What each operation came to -/
structure It where
  i : Nat
  o : Oper
  v : AVal
  u : Upd
  r : Option (List Nat)
  wt : Bool

def It.dn (pre : Nat) (it : It) : Done := ⟨it.i, ownName pre it.o.dst, newIds it.u, it.r⟩

def app (st : St) (it : It) : St := { t := tput st.t it.o.dst it.v, h := happly st.h it.u }

section
variable (E : Env) (A : Notes) (k pre na nt : Nat) (ops : Array Oper)

structure Good (st : St) (it : It) : Prop where
  w : wantS ops it.o st = some it.wt
  y : it.wt = true → (∀ d, it.o.dst = some d → na ≤ d ∧ d < nt) ∧ Yields (opS E A k pre it.o st.ev st.h) it.v it.u ∧ it.r = refsOf st.ev it.o
  n : it.wt = false → it.v = .skp ∧ it.u = [] ∧ ∀ d, it.o.dst = some d → na ≤ d ∧ d < nt

def Apart (b : Array Nat) (x y : It) : Prop := isBefore b x.i y.i = true ∨ (apart2 ops x.i y.i = true ∧ (x.wt = true → y.wt = true → clash (x.dn pre) (y.dn pre) = false))
end

section
variable {E : Env} {A : Notes} {k pre na nt : Nat} {R : Type} {ops : Array Oper} {b : Array Nat}

theorem evOpsD_some (hE : EnvOK E) : ∀ (rest : List (Nat × Oper)) (done : List Done) (st : St) (K : St → Option R) (out : R), evOpsD E A k pre na nt ops b rest done st K = some out →
    ∃ its : List It, its.map (fun it => (it.i, it.o)) = rest ∧ K (its.foldl app st) = some out ∧ (∀ pfx it post, its = pfx ++ it :: post → Good E A k pre na nt ops (pfx.foldl app st) it) ∧
      (∀ d ∈ done, ∀ it ∈ its, isBefore b d.i it.i = true ∨ (apart2 ops d.i it.i = true ∧ (it.wt = true → clash d (it.dn pre) = false))) ∧ its.Pairwise (Apart pre ops b)
  | [], done, st, K, out, h => ⟨[], rfl, h, fun pfx it post e => by simp at e, fun _ _ _ h => by simp at h, .nil⟩
  | (i, o) :: rest, done, st, K, out, h => by
    unfold evOpsD at h
    generalize hc : (done.all fun d => isBefore b d.i i || apart2 ops d.i i) = c at h
    cases c with
    | false => cases h
    | true =>
      have hap : ∀ d ∈ done, isBefore b d.i i = true ∨ apart2 ops d.i i = true := fun d hd => by
        have := List.all_eq_true.1 hc d hd
        simpa [Bool.or_eq_true] using this
      rw [cond_true] at h
      obtain ⟨bw, hb, h⟩ := guardOp_some h
      cases bw with
      | true =>
        rw [if_pos rfl] at h
        obtain ⟨hd, v, u, hy, h⟩ := runOp_some hE h
        dsimp only at h
        generalize hc2 : (done.all fun d => isBefore b d.i i || !clash d ⟨i, ownName pre o.dst, newIds u, refsOf st.ev o⟩) = c2 at h
        cases c2 with
        | false => exact absurd h (by simp)
        | true =>
          rw [cond_true] at h
          have hcl : ∀ d ∈ done, isBefore b d.i i = true ∨ clash d ⟨i, ownName pre o.dst, newIds u, refsOf st.ev o⟩ = false := fun d hd => by
            have := List.all_eq_true.1 hc2 d hd
            simpa [Bool.or_eq_true] using this
          obtain ⟨its, h1, h2, h3, h4, h5⟩ := evOpsD_some hE rest _ _ K out h
          let it : It := ⟨i, o, v, u, refsOf st.ev o, true⟩
          refine ⟨it :: its, by rw [List.map_cons, h1], h2, fun pfx it' post e => ?_, fun d hd' it' hit => ?_, ?_⟩
          · cases pfx with
            | nil =>
              simp only [List.nil_append, List.cons.injEq] at e
              obtain ⟨rfl, rfl⟩ := e
              exact ⟨hb, fun _ => ⟨hd, hy, rfl⟩, fun h => (by cases h)⟩
            | cons p pfx =>
              simp only [List.cons_append, List.cons.injEq] at e
              obtain ⟨rfl, e⟩ := e
              exact h3 pfx it' post e
          · rcases List.mem_cons.1 hit with rfl | hit
            · rcases hap d hd' with h | h
              · exact .inl h
              · rcases hcl d hd' with h' | h'
                · exact .inl h'
                · exact .inr ⟨h, fun _ => h'⟩
            · exact h4 d (List.mem_cons_of_mem _ hd') it' hit
          · refine List.pairwise_cons.2 ⟨fun y hy' => ?_, h5⟩
            rcases h4 (it.dn pre) (List.mem_cons_self ..) y hy' with h | ⟨h, h'⟩
            · exact .inl h
            · exact .inr ⟨h, fun _ hw => h' hw⟩
      | false =>
        rw [if_neg (by simp)] at h
        have hdst : dstOk na nt o.dst = true := by
          cases hc : dstOk na nt o.dst with
          | true => rfl
          | false => rw [hc] at h; cases h
        rw [hdst] at h
        rw [cond_true] at h
        obtain ⟨its, h1, h2, h3, h4, h5⟩ := evOpsD_some hE rest _ _ K out h
        let it : It := ⟨i, o, .skp, [], some [], false⟩
        refine ⟨it :: its, by rw [List.map_cons, h1], h2, fun pfx it' post e => ?_, fun d hd' it' hit => ?_, ?_⟩
        · cases pfx with
          | nil =>
            simp only [List.nil_append, List.cons.injEq] at e
            obtain ⟨rfl, rfl⟩ := e
            exact ⟨hb, fun h => (by cases h), fun _ => ⟨rfl, rfl, dstOk_spec hE hdst⟩⟩
          | cons p pfx =>
            simp only [List.cons_append, List.cons.injEq] at e
            obtain ⟨rfl, e⟩ := e
            exact h3 pfx it' post e
        · rcases List.mem_cons.1 hit with rfl | hit
          · rcases hap d hd' with h | h
            · exact .inl h
            · exact .inr ⟨h, fun h => (by cases h)⟩
          · exact h4 d (List.mem_cons_of_mem _ hd') it' hit
        · refine List.pairwise_cons.2 ⟨fun y hy' => ?_, h5⟩
          rcases h4 (it.dn pre) (List.mem_cons_self ..) y hy' with h | ⟨h, h'⟩
          · exact .inl h
          · exact .inr ⟨h, fun hw => (by cases hw)⟩
end
end Go.Ab
