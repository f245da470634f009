/- A law: its arguments as data; the whole. -/
import Derived.Test.YtpmkkfbnaohlhaaGiAb31
set_option linter.unusedVariables false
set_option linter.unusedSimpArgs false
set_option linter.unusedSectionVars false
namespace Go.Ab
open Go.ChangeShapes Go.WideShapes Go.ChangeAt Go.RowKit

def flatP (sh : Bool) : Ty → List PC
  | .int k => [.int k]
  | .bool => [.bool]
  | .sl t => [.dat sh t]
  | .pair a b => flatP sh a ++ flatP sh b

def appP : (l m : List PC) → PL l → PL m → PL (l ++ m)
  | [], _, _, e => e
  | _ :: l, m, d, e => (d.1, appP l m d.2 e)

theorem absL_app : ∀ (l m : List PC) (d : PL l) (e : PL m), absL (l ++ m) (appP l m d e) = absL l d ++ absL m e
  | [], _, _, _ => rfl
  | p :: l, m, d, e => by
    show absP p d.1 :: absL (l ++ m) (appP l m d.2 e) = absP p d.1 :: (absL l d.2 ++ absL m e)
    rw [absL_app l m d.2 e]

def flatD (sh : Bool) : (t : Ty) → t.den → PL (flatP sh t)
  | .int _, n => (n, ())
  | .bool, b => (b, ())
  | .sl _, xs => (xs, ())
  | .pair a b, p => appP _ _ (flatD sh a p.1) (flatD sh b p.2)

/-- Each cell's data is of its kind. -/
def WfP : (p : PC) → p.den → Prop
  | .int k, n => (Lit.int k n).wf = true
  | .bool, _ => True
  | .dat _ t, xs => Wf (.sl t) xs
  | .fn _, _ => True

def WfL : (l : List PC) → PL l → Prop
  | [], _ => True
  | p :: l, d => WfP p d.1 ∧ WfL l d.2

theorem WfL_app : ∀ (l m : List PC) (d : PL l) (e : PL m), WfL l d → WfL m e → WfL (l ++ m) (appP l m d e)
  | [], _, _, _, _, h => h
  | _ :: l, m, d, e, h, h' => ⟨h.1, WfL_app l m d.2 e h.2 h'⟩

theorem flatD_wf (sh : Bool) : ∀ (t : Ty) (x : t.den), Wf t x → WfL (flatP sh t) (flatD sh t x)
  | .int _, _, h => ⟨h, trivial⟩
  | .bool, _, h => ⟨h, trivial⟩
  | .sl _, _, h => ⟨h, trivial⟩
  | .pair a b, p, h => WfL_app _ _ _ _ (flatD_wf sh a p.1 h.1) (flatD_wf sh b p.2 h.2)

theorem absL_length : ∀ (l : List PC) (d : PL l), (absL l d).length = l.length
  | [], _ => rfl
  | p :: l, d => by
    show (absL l d.2).length + 1 = l.length + 1
    rw [absL_length l d.2]

theorem flatP_length (sh : Bool) : ∀ t : Ty, (flatP sh t).length = t.size
  | .int _ | .bool | .sl _ => rfl
  | .pair a b => by simp only [flatP, List.length_append, flatP_length sh a, flatP_length sh b, Ty.size]

def M0 (w : World) : Mst := ⟨fun _ => none, Below0 w, Below0 w, boxHp [], w.heap⟩

theorem M0_ok (w : World) : Ok (M0 w) where
  obj := fun id o h => by cases h
  non := fun _ _ => rfl
  disj := fun i j oi oj Ci Cj b _ h => by cases h
  own := fun b h => by
    obtain ⟨id, o, C, h1, _⟩ := h
    cases h1
  GF := fun _ h => h
  Flt := fun _ h => h

theorem flatD_rep (sh : Bool) {w : World} : ∀ (t : Ty) (x : t.den) (cs : List Value), cs.length = t.size → ERep w.heap (Below0 w) t x (fun j => cs[j]?) → All2 (CRep (M0 w)) (absL (flatP sh t) (flatD sh t x)) cs
  | .int k, n, cs, hl, h => by
    match cs, hl with
    | [c], _ =>
      have e : c = .int k n := by simpa [ERep] using h
      exact ⟨e, trivial⟩
  | .bool, b, cs, hl, h => by
    match cs, hl with
    | [c], _ =>
      have e : c = .bool b := by simpa [ERep] using h
      exact ⟨e, trivial⟩
  | .sl t, xs, cs, hl, h => by
    match cs, hl with
    | [c], _ =>
      refine ⟨?_, trivial⟩
      have h' := ERep_mono (F' := (bif sh then (M0 w).G else (M0 w).F)) (fun b h => by cases sh <;> exact h) (fun b _ => rfl) (.sl t) xs (fun j => [c][j]?) (fun _ => some c) (fun j hj => by
        have : j = 0 := by simp [Ty.size] at hj; exact hj
        subst this; rfl) h
      exact h'
  | .pair a b, p, cs, hl, h => by
    have hl' : cs.length = a.size + b.size := hl
    have h1 := flatD_rep sh a p.1 (cs.take a.size) (by rw [List.length_take]; omega) (ERep_mono (fun _ h => h) (fun _ _ => rfl) a p.1 _ _ (fun j hj => by
      rw [List.getElem?_take, if_pos hj]) h.1)
    have h2 := flatD_rep sh b p.2 (cs.drop a.size) (by rw [List.length_drop]; omega) (ERep_mono (fun _ h => h) (fun _ _ => rfl) b p.2 _ _ (fun j hj => by
      rw [List.getElem?_drop]; congr 1; omega) h.2)
    show All2 _ (absL (flatP sh a ++ flatP sh b) (appP _ _ (flatD sh a p.1) (flatD sh b p.2))) cs
    rw [absL_app]
    have := All2.append h1 h2
    rwa [List.take_append_drop] at this

/-! ### Arguments -/
def argAS (sh : Bool) (P : Program) (t : TypeId) (ty : Ty) : AS := bif aggT P t == some true then .agg (flatP sh ty) else (match ty with
  | .int k => .c (.int k) | .bool => .c .bool | .sl t => .c (.dat sh t) | .pair a b => .agg (flatP sh (.pair a b)))

def layAll (P : Program) : List TypeId → Option (List Ty)
  | [] => some []
  | t :: ts => match layTy P 8 t, layAll P ts with
    | some a, some l => some (a :: l)
    | _, _ => none

def argsAS (sh : Bool) (P : Program) : List TypeId → List Ty → List AS
  | t :: ts, a :: l => argAS sh P t a :: argsAS sh P ts l
  | _, _ => []

theorem layTy_one {P : Program} {t : TypeId} {ty : Ty} (h : layTy P 8 t = some ty) (ha : (aggT P t == some true) = false) : (∃ k, P.underlying t = some (.int k) ∧ ty = .int k) ∨ (P.underlying t = some .bool ∧ ty = .bool) ∨ ∃ e a, P.underlying t = some (.slice e) ∧ ty = .sl a := by
  unfold layTy at h
  split at h
  · rename_i k hu
    obtain ⟨_, h⟩ := cond_some h
    cases h
    exact .inl ⟨k, hu, rfl⟩
  · rename_i hu
    obtain ⟨_, h⟩ := cond_some h
    cases h
    exact .inr (.inl ⟨hu, rfl⟩)
  · rename_i e hu
    obtain ⟨_, h⟩ := cond_some h
    split at h
    · cases h; exact .inr (.inr ⟨e, _, hu, rfl⟩)
    · cases h
  · rename_i x _ _ _ hu
    split at h
    · rename_i a hx
      exfalso
      unfold aggT at ha
      rw [hu] at ha
      cases x <;> first | (simp [partsOf, layParts] at hx; done) | (cases ha)
    · cases h
  · cases h

section
variable {H : Type} {enc : TypeId × Value → H} {P : Program} {w : World}

theorem lawArg_rep (sh : Bool) {t : TypeId} {ty : Ty} {v : Value} {d : DataW H} {ps : List MemPlace} {base : Nat} (hl : layTy P 8 t = some ty) (hok : Value.okWide P w .any base t v) (h : DataW.Trod enc P w 0 (fun _ => true) true t v d ps) :
    ∃ x : PL (argAS sh P t ty).cells, (∀ n, VRep (M0 w) ((argAS sh P t ty).mk n (absL _ x)) v) ∧ (argAS sh P t ty).boxes (absL _ x) = [] ∧ WfL _ x := by
  obtain ⟨fuel, hf⟩ := h
  obtain ⟨x, x1, x2, x3⟩ := trod_reads 8 t ty fuel _ _ hl hf
  have hrep := flatD_rep sh ty x _ x1 x2
  have hwf := flatD_wf sh ty x x3
  unfold argAS
  cases ha : (aggT P t == some true) with
  | true =>
    simp only [cond_true]
    refine ⟨flatD sh ty x, fun n => ?_, rfl, hwf⟩
    have ha' : aggT P t = some true := by simpa using ha
    have hv : ∃ cs, v = .agg cs := by
      unfold aggT at ha'
      unfold Value.okWide at hok
      split at ha' <;> first | (rename_i e; rw [e] at hok; obtain ⟨cs, h1, _⟩ := hok; exact ⟨cs, h1⟩) | (cases ha')
    obtain ⟨cs, rfl⟩ := hv
    exact ⟨cs, rfl, hrep⟩
  | false =>
    simp only [cond_false]
    rcases layTy_one hl ha with ⟨k, hu, rfl⟩ | ⟨hu, rfl⟩ | ⟨e, a, hu, rfl⟩
    · have hv : ∃ n, v = .int k n := by
        simp only [Value.okWide, hu, Cell.okWide] at hok
        cases v <;> simp_all [Cell.ok]
      obtain ⟨n0, rfl⟩ := hv
      exact ⟨flatD sh _ x, fun n => hrep.1, rfl, hwf⟩
    · have hv : ∃ b, v = .bool b := by
        simp only [Value.okWide, hu, Cell.okWide] at hok
        cases v <;> simp_all [Cell.ok]
      obtain ⟨b, rfl⟩ := hv
      exact ⟨flatD sh _ x, fun n => hrep.1, rfl, hwf⟩
    · obtain ⟨ad, len, cap, rfl⟩ := okWide_slice hu hok
      exact ⟨flatD sh _ x, fun n => hrep.1, rfl, hwf⟩

theorem lawArgs_rep (sh : Bool) {base : Nat} : ∀ (ts : List TypeId) (tys : List Ty) (vs : List Value) (ds : List (DataW H)) (ps : List MemPlace) (n : Nat), layAll P ts = some tys → (∀ (j : Nat) (t : TypeId) (v : Value), ts[j]? = some t → vs[j]? = some v → Value.okWide P w .any base t v) →
    DataW.TrodAll enc P w 0 (fun _ => true) true ts vs ds ps → ∃ x : AD (argsAS sh P ts tys), All2 (VRep (M0 w)) (mkArgs (argsAS sh P ts tys) (absL _ x) n).1 vs ∧ (mkArgs (argsAS sh P ts tys) (absL _ x) n).2 = [] ∧ WfL _ x
  | [], tys, vs, ds, ps, n, hl, hok, h => by
    cases hl
    match vs, ds, h with
    | [], [], _ => exact ⟨(), trivial, rfl, trivial⟩
    | _ :: _, [], h => exact False.elim h
    | _ :: _, _ :: _, h => exact False.elim h
    | [], _ :: _, h => exact False.elim h
  | t :: ts, tys, vs, ds, ps, n, hl, hok, h => by
    unfold layAll at hl
    split at hl
    · rename_i a l ha hl'
      cases hl
      match vs, ds, h with
      | [], [], h => exact False.elim h
      | [], _ :: _, h => exact False.elim h
      | _ :: _, [], h => exact False.elim h
      | v :: vs, d :: ds, h =>
        obtain ⟨p, q, h1, h2, _⟩ := h
        obtain ⟨x, x1, x2, x3⟩ := lawArg_rep sh ha (hok 0 t v rfl rfl) h1
        obtain ⟨y, y1, y2, y3⟩ := lawArgs_rep sh ts l vs ds q n hl' (fun j t' v' h1 h2 => hok (j + 1) t' v' h1 h2) h2
        refine ⟨appP _ _ x y, ?_⟩
        have e : absL ((argsAS sh P (t :: ts) (a :: l)).flatMap AS.cells) (appP _ _ x y) = absL _ x ++ absL _ y := absL_app _ _ _ _
        have ht : (absL _ x ++ absL _ y).take (argAS sh P t a).cells.length = absL _ x := by
          rw [List.take_append_of_le_length (by rw [absL_length]; exact Nat.le_refl _), List.take_of_length_le (by rw [absL_length]; exact Nat.le_refl _)]
        have hd : (absL _ x ++ absL _ y).drop (argAS sh P t a).cells.length = absL _ y := by
          rw [List.drop_append_of_le_length (by rw [absL_length]; exact Nat.le_refl _), List.drop_of_length_le (by rw [absL_length]; exact Nat.le_refl _), List.nil_append]
        rw [e]
        have em : mkArgs (argsAS sh P (t :: ts) (a :: l)) (absL _ x ++ absL _ y) n = ((argAS sh P t a).mk n (absL _ x) :: (mkArgs (argsAS sh P ts l) (absL _ y) n).1, (mkArgs (argsAS sh P ts l) (absL _ y) n).2) := by
          show ((argAS sh P t a).mk n _ :: _, (argAS sh P t a).boxes _ ++ _) = _
          rw [ht, hd, x2]
          rfl
        rw [em]
        exact ⟨⟨x1 n, y1⟩, y2, WfL_app _ _ _ _ x3 y3⟩
    · cases hl

theorem lawArgs (sh : Bool) {base : Nat} {ts : List TypeId} {tys : List Ty} {asp : List AS} {vs : List Value} {ds : List (DataW H)} {ps : List MemPlace} (hl : layAll P ts = some tys) (has : argsAS sh P ts tys = asp)
    (hok : ∀ (j : Nat) (t : TypeId) (v : Value), ts[j]? = some t → vs[j]? = some v → Value.okWide P w .any base t v) (h : DataW.TrodAll enc P w 0 (fun _ => true) true ts vs ds ps) :
    ∃ x : AD asp, All2 (VRep (M0 w)) (mkArgs asp (absL _ x) 0).1 vs ∧ (mkArgs asp (absL _ x) 0).2 = [] ∧ WfL _ x := by
  subst has
  exact lawArgs_rep sh ts tys vs ds ps 0 hl hok h

/-! ### The whole -/
theorem law_calls {E : Env} (hE : EnvOK E) (hS : SumsLocal E.sums) (hm : E.P.follows .mixedOrders = true) {A : Notes} {k pre : Nat} {f : FuncId} {fn : Func} (hf : E.P.funcs[f]? = some fn) (hL : ∀ c, fn.body = some c → LoopsOK E.P A pre 0 fn.ntmps c)
    {as : List AS} {d : AD as} {unpack : RL (RS.c .bool).cells → Bool} (hup : ∀ d, unpack d = d.1) (hev : evF E A k pre 0 fn (absArgs as d).1 (absArgs as d).2 (outM (.c .bool) unpack) = some true) (hb : (mkArgs as (absL _ d) 0).2 = []) {vs : Array Value} (hv : All2 (VRep (M0 w)) (mkArgs as (absL _ d) 0).1 vs.toList) :
    Calls E.P f vs w fun e w' => e = .returned (.bool true) ∧ Below w.heap.size w w' := by
  have hh : (M0 w).h = (absArgs as d).2 := by
    show boxHp [] = boxHp (mkArgs as (absL _ d) 0).2
    rw [hb]
  refine Calls.mono (evF_calls hE hS hm hf hL hev (M := M0 w) (w := w) hh rfl (M0_ok w) hv) fun e w' he => ?_
  cases e with
  | returned rv =>
    obtain ⟨M', v, st, hK, _, hH, _, hg, hrv, o1, o2, o3, _⟩ := he
    refine ⟨?_, o1, o2, o3, ?_, fun b hb => ?_⟩
    · unfold outM at hK
      split at hK
      · rename_i r hr
        have hKe : unpack r = true := by injection hK
        unfold outA at hr
        split at hr
        · rename_i cs hcs
          split at hr
          · rename_i cs' u hfz
            obtain ⟨_, hr⟩ := cond_some hr
            cases v with
            | c x =>
              cases hcs
              have e1 : cs' = [x] := by
                simp only [RS.cells, List.map, RC.isFro, frzW] at hfz
                cases hfz; rfl
              subst e1
              have hr' : outRL (happly st.h u) [.bool] [x] = some r := hr
              cases x with
              | bool b =>
                have e2 : r = (b, ()) := by simp only [outRL, outR] at hr'; cases hr'; rfl
                have : rv = .bool b := hrv
                have hb : b = true := by have := (hup r).symm.trans hKe; rw [e2] at this; exact this
                rw [this, hb]
              | _ => simp [outRL, outR] at hr'
            | _ => cases hcs
          · cases hr
        · cases hr
      · cases hK
    · have := hg.size
      rw [hH] at this
      exact this
    · have := hg.same b hb
      rw [hH] at this
      exact this
  | _ => exact he.elim
end
end Go.Ab
