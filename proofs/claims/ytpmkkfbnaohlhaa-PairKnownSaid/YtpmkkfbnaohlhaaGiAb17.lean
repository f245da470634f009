/- An operation depends on its operands and on the objects that they name. -/
import Derived.Test.YtpmkkfbnaohlhaaGiAb16
set_option linter.unusedVariables false
set_option linter.unusedSimpArgs false
namespace Go.Ab

theorem opS_ev {E : Env} {A : Notes} {k pre : Nat} {o : Oper} {ev ev' : Operand → AVal} {h : Hp} (he : ∀ x ∈ o.op.operands, ev x = ev' x) : opS E A k pre o ev h = opS E A k pre o ev' h := by
  obtain ⟨dst, op, type, pos, after, guard⟩ := o
  have pairs : ∀ ps : Array (Nat × Operand), (∀ x ∈ ps.map (·.2), ev x = ev' x) → (ps.toList.map fun p => (p.1, ev p.2)) = (ps.toList.map fun p => (p.1, ev' p.2)) := fun ps hp =>
    List.map_congr_left fun p hm => by
      obtain ⟨i, x⟩ := p
      simp only [hp x (Array.mem_map.2 ⟨(i, x), by simpa using hm, rfl⟩)]
  have maps : ∀ xs : Array Operand, (∀ x ∈ xs, ev x = ev' x) → xs.toList.map ev = xs.toList.map ev' := fun xs hp => List.map_congr_left fun x hm => hp x (by simpa using hm)
  cases op <;> simp only [Op.operands] at he <;> simp only [opS]
  case build t ps => rw [pairs ps fun x hx => he x (by simpa using hx)]
  case buildSlice t n ps => rw [pairs ps fun x hx => he x (by simpa using hx)]
  case makeFunc fn first captured =>
    cases fn <;> first | rfl | skip
    have : captured.toList.mapM (fun x => capOf (ev x)) = captured.toList.mapM (fun x => capOf (ev' x)) := by
      have h2 : ∀ l : List Operand, (∀ x ∈ l, ev x = ev' x) → l.mapM (fun x => capOf (ev x)) = l.mapM (fun x => capOf (ev' x)) := fun l => by
        induction l with
        | nil => exact fun _ => rfl
        | cons y l ih => exact fun hp => by simp only [List.mapM_cons, hp y (List.mem_cons_self ..), ih fun x hx => hp x (List.mem_cons_of_mem _ hx)]
      exact h2 _ fun x hx => he x (by simp at hx; simp [hx])
    simp only [this]
  case call c =>
    obtain ⟨callee, args, ats⟩ := c
    have ha := maps args fun x hx => he x (by simp [Call.operands, hx])
    cases callee with
    | value f =>
      have hf := he f (by simp [Call.operands])
      simp only [hf, ha]
    | builtin b => simp only [ha]
    | invoke _ _ => rfl
  case makeMap t r => cases r <;> rfl
  case lookup t x i ok => cases ok <;> simp_all
  case slice t x lo hi mx =>
    have h1 := he x (by simp)
    cases lo <;> cases hi <;> cases mx <;> simp_all
  all_goals (first | rfl | (simp only [he _ (by simp : _ ∈ #[_])]; done) | (simp_all; done))

/-- What a summary says of a call depends on the objects that the arguments name, and on the names that are its own. -/
def SumsLocal (S : Sums) : Prop := ∀ k nm f (args : List AVal) h h', (args.any boxy = false → ∀ id, (id ∈ args.flatMap idsV ∨ inOwn nm id = true) → h id = h' id) → (args.any boxy = true → h = h') → S k nm f args h = S k nm f args h'

theorem ownIn (nm : Nat) : inOwn nm nm = true := by
  simp [inOwn, Nat.blt_eq]

theorem opS_h {E : Env} (hS : SumsLocal E.sums) {A : Notes} {k pre : Nat} {o : Oper} {ev : Operand → AVal} {h h' : Hp}
    (hh : match refsOf ev o with | none => h = h' | some l => ∀ id, (id ∈ l ∨ inOwn (ownName pre o.dst) id = true) → h id = h' id) : opS E A k pre o ev h = opS E A k pre o ev h' := by
  have full : h = h' → opS E A k pre o ev h = opS E A k pre o ev h' := fun e => by rw [e]
  unfold refsOf at hh
  dsimp only at hh
  cases hc : (isCall o.op && (o.op.operands.toList.map ev).any boxy) with
  | true => rw [hc] at hh; exact full hh
  | false =>
    rw [hc] at hh
    replace hh : ∀ id, (id ∈ (o.op.operands.toList.map ev).flatMap idsV ∨ inOwn (ownName pre o.dst) id = true) → h id = h' id := hh
    have h0 : h (ownName pre o.dst) = h' (ownName pre o.dst) := hh _ (.inr (ownIn _))
    have hx : ∀ x ∈ o.op.operands, ∀ id ∈ idsV (ev x), h id = h' id := fun x hx id hid => hh id (.inl (List.mem_flatMap.2 ⟨ev x, List.mem_map_of_mem (by simpa using hx), hid⟩))
    obtain ⟨dst, op, type, pos, after, guard⟩ := o
    dsimp only at h0 hx hc
    cases op <;> simp only [Op.operands] at hx <;> simp only [opS]
    case alloc t => rw [h0]
    case box t x => rw [h0]
    case buildSlice t n ps =>
      exact buildSliceS_h h0 fun id hid => by
        simp only [List.map_map, List.mem_flatMap, List.mem_map, Function.comp] at hid
        obtain ⟨v, ⟨p, hp, rfl⟩, hid⟩ := hid
        exact hx p.2 (by simp only [List.mem_toArray, List.mem_map]; exact ⟨p, hp, rfl⟩) id hid
    case load t x => exact loadS_h (hx x (by simp))
    case store t x y => exact storeS_h (hx x (by simp)) (hx y (by simp))
    case makeSlice t l c => exact makeSliceS_h h0
    case slice t x lo hi mx => exact sliceS_h (hx x (by simp))
    case makeMap t r => cases r <;> first | rfl | exact makeMapS_h h0
    case lookup t x i ok => cases ok <;> first | rfl | exact lookupS_h (hx x (by simp))
    case mapUpdate t x i y => exact mapUpdateS_h (hx x (by simp))
    case indexAddr t x i => exact indexAddrS_h (hx x (by simp))
    case call c =>
      obtain ⟨callee, args, ats⟩ := c
      have ha : ∀ v ∈ args.toList.map ev, ∀ id ∈ idsV v, h id = h' id := fun v hv => by
        obtain ⟨x, hxm, rfl⟩ := List.mem_map.1 hv
        exact hx x (by simp at hxm; simp [Call.operands, hxm])
      cases callee with
      | value f =>
        dsimp only
        cases hf : ev f with
        | c fv => cases fv with
          | fn fid cap =>
            dsimp only
            simp only [isCall, Bool.true_and] at hc
            have hcap : cap = [] := by
              have hm : ev f ∈ (Op.call ⟨.value f, args, ats⟩).operands.toList.map ev := List.mem_map_of_mem (by simp [Op.operands, Call.operands])
              have := List.any_eq_false.1 hc _ hm
              rw [hf] at this
              simpa [boxy] using this
            subst hcap
            simp only [List.map_nil, List.append_nil]
            have hb : (args.toList.map ev).any boxy = false := by
              refine List.any_eq_false.2 fun v hv => ?_
              obtain ⟨x, hxm, rfl⟩ := List.mem_map.1 hv
              exact List.any_eq_false.1 hc _ (List.mem_map_of_mem (by simp at hxm; simp [Op.operands, Call.operands, hxm]))
            refine hS _ _ _ _ _ _ (fun _ id hid => ?_) fun ht => ?_
            · rcases hid with hid | hid
              · obtain ⟨v, hv, hid⟩ := List.mem_flatMap.1 hid
                exact ha v hv id hid
              · exact hh id (.inr hid)
            · rw [hb] at ht; cases ht
          | _ => rfl
        | _ => rfl
      | invoke _ _ => rfl
      | builtin b =>
        generalize hl : args.toList.map ev = l at ha
        unfold builtinS
        cases b <;> first | rfl | skip
        case len =>
          match l, ha with
          | [], _ => rfl
          | [v], ha => cases v with
            | c v =>
              have := lenSl_h (ha (.c v) (by simp))
              simp only [this]
            | _ => rfl
          | v :: _ :: _, _ => cases v <;> rfl
        case append =>
          match l, ha with
          | [], _ | [_], _ | _ :: _ :: _ :: _, _ => rfl
          | [b, x], ha =>
            have := fun mat t => appendS_h (P := E.P) (mat := mat) (t := t) h0 (ha b (by simp)) (ha x (by simp))
            simp only [this]
        case clear =>
          match l, ha with
          | [], _ => rfl
          | [v], ha => cases v with
            | c v => cases v with
              | osl id r => cases r with
                | none => rfl
                | some p =>
                  have e := ha (.c (.osl id (some p))) (by simp) id (by simp [idsV, idsC])
                  dsimp only
                  split
                  · unfold clearS; rw [e]
                  · rfl
              | _ => rfl
            | _ => rfl
          | v :: _ :: _, _ => cases v with
            | c v => cases v with
              | osl id r => cases r <;> rfl
              | _ => rfl
            | _ => rfl
        case copy =>
          match l, ha with
          | [], _ | [_], _ | _ :: _ :: _ :: _, _ => rfl
          | [b, x], ha =>
            have := copyS_h (ha b (by simp)) (ha x (by simp))
            simp only [this]
    case makeFunc fn first captured => cases fn <;> rfl
    all_goals rfl
end Go.Ab
