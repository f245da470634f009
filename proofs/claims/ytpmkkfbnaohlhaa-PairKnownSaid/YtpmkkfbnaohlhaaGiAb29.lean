/- A code's loops, by their places. -/
import Derived.Test.YtpmkkfbnaohlhaaGiAb28
set_option linter.unusedVariables false
set_option linter.unusedSimpArgs false
set_option linter.unusedSectionVars false
namespace Go.Ab

def loopsIn : Code → List Code
  | .seq a b => loopsIn a ++ loopsIn b
  | .cond _ a b => loopsIn a ++ loopsIn b
  | .block _ b => loopsIn b
  | .loop b => [b]
  | _ => []

def loopAt (c : Code) (i : Nat) : Code := match (loopsIn c)[i]? with
  | some b => b
  | none => .skip

def bodyOf (fn : Func) : Code := match fn.body with
  | some c => c
  | none => .skip

theorem loopsOK_all {P : Program} {A : Notes} {pre na nt : Nat} : ∀ (c : Code), (∀ b ∈ loopsIn c, ∀ L, noteOf A b = some L → LoopOK P pre na nt b L) → LoopsOK P A pre na nt c := by
  intro c
  induction c with
  | seq a b iha ihb => exact fun h => ⟨iha fun x hx => h x (List.mem_append_left _ hx), ihb fun x hx => h x (List.mem_append_right _ hx)⟩
  | cond t a b iha ihb => exact fun h => ⟨iha fun x hx => h x (List.mem_append_left _ hx), ihb fun x hx => h x (List.mem_append_right _ hx)⟩
  | block id b ih => exact fun h => ih h
  | loop b ih => exact fun h => h b (List.mem_cons_self ..)
  | _ => exact fun _ => trivial

theorem loopsOK_of {P : Program} {A : Notes} {pre na nt : Nat} {c : Code} {n : Nat} (hn : (loopsIn c).length = n) (h : ∀ i, i < n → ∃ L, noteOf A (loopAt c i) = some L ∧ LoopOK P pre na nt (loopAt c i) L) : LoopsOK P A pre na nt c :=
  loopsOK_all c fun b hb L hL => by
    obtain ⟨i, hi, rfl⟩ := List.getElem_of_mem hb
    have e : loopAt c i = (loopsIn c)[i] := by
      unfold loopAt
      rw [List.getElem?_eq_getElem hi]
    obtain ⟨L', h1, h2⟩ := h i (by omega)
    rw [e] at h1 h2
    rw [hL] at h1
    cases h1
    exact h2

theorem loopsOK_none {P : Program} {A : Notes} {pre na nt : Nat} {c : Code} (hn : (loopsIn c).length = 0) : LoopsOK P A pre na nt c := loopsOK_of hn fun i hi => absurd hi (Nat.not_lt_zero i)

theorem body_loops {P : Program} {A : Notes} {pre na : Nat} {fn : Func} (h : LoopsOK P A pre na fn.ntmps (bodyOf fn)) : ∀ c, fn.body = some c → LoopsOK P A pre na fn.ntmps c := fun c hc => by
  unfold bodyOf at h
  rw [hc] at h
  exact h

/-- A function of the program's own, called. -/
theorem enters {P : Program} {f : FuncId} {fn : Func} (hf : P.funcs[f]? = some fn) (hb : fn.body.isNone = false) (hn : (fn.name == "runtime.NumGoroutine") = false) : ∀ vs w, (callFunc f vs).run P w = .ok (.enter f vs) w := fun vs w => by
  have h1 : (program).run P w = .ok P w := rfl
  unfold callFunc
  simp only [Sem.run_bind, h1, Result.andThen_ok, hf, hn, hb, Bool.false_eq_true, if_false, Sem.run_pure]
end Go.Ab
