/- One operation: what the abstract machine says of it holds. -/
import Derived.Test.YtpmkkfbnaohlhaaGiAb14
set_option linter.unusedVariables false
set_option linter.unusedSimpArgs false
namespace Go.Ab

structure Behind (M : Mst) (w : World) (u : Upd) (M' : Mst) (w' : World) : Prop where
  os : w'.os = w.os
  tape : w'.tape = w.tape
  output : w'.output = w.output
  H : M'.H = w'.heap
  h : M'.h = happly M.h u
  ok : Ok M'
  step : Step M M'

/-- What is said of a call holds. -/
def CallOK (P : Program) (f : Nat) (args : List AVal) (h : Hp) (v : AVal) (u : Upd) : Prop :=
  ∀ (M : Mst) (w : World) (vs : Array Value), M.h = h → M.H = w.heap → Ok M → All2 (VRep M) args vs.toList →
    (callFunc f vs).run P w = .ok (.enter f vs) w ∧ Calls P f vs w fun
      | .returned rv, w' => ∃ M', Behind M w u M' w' ∧ VRep M' v rv
      | _, _ => False

def SumsOK (P : Program) (S : Sums) : Prop := ∀ k nm f args h v u, Yields (S k nm f args h) v u → CallOK P f args h v u

structure EnvOK (E : Env) : Prop where
  eq : EqOK E.P E.eqT
  sums : SumsOK E.P E.sums

section
variable {P : Program} {Q : Exit → Act → World → Prop} {o : Oper} {a : Act} {w : World} {M : Mst} {next : Act → World → Prop} {v : AVal} {u : Upd}

theorem wp_runs {s : Sem Value} (hr : RunsV P s M w v u) (he : execOp a.eval o = (do pure (.value (← s)) : Sem Next)) (hn : ∀ M' w' rv, Behind M w u M' w' → VRep M' v rv → next (a.put o.dst rv) w') :
    o.wp P a w next Q := by
  obtain ⟨rv, w', M', h1, h2, h3, h4, h5, h6, h7, h8, h9⟩ := hr
  unfold Oper.wp
  rw [he]
  simp only [Sem.run_bind, h1, Result.andThen_ok, Sem.run_pure]
  exact hn M' w' rv ⟨h2, h3, h4, h5, h6, h7, h8⟩ h9

theorem wp_unit {s : Sem Unit} (hr : RunsU P s M w u) (he : execOp a.eval o = (do s; pure .skip : Sem Next)) (hn : ∀ M' w' rv, Behind M w u M' w' → VRep M' .undef rv → next (a.put o.dst rv) w') :
    o.wp P a w next Q := by
  obtain ⟨w', M', h1, h2, h3, h4, h5, h6, h7, h8⟩ := hr
  unfold Oper.wp
  rw [he]
  simp only [Sem.run_bind, h1, Result.andThen_ok, Sem.run_pure]
  exact hn M' w' undef ⟨h2, h3, h4, h5, h6, h7, h8⟩ trivial

theorem wp_now (ok : Ok M) (hM : M.H = w.heap) {rv : Value} (hu : u = []) (hv : VRep M v rv) (he : (execOp a.eval o).run P w = .ok (.value rv) w) (hn : ∀ M' w' rv, Behind M w u M' w' → VRep M' v rv → next (a.put o.dst rv) w') :
    o.wp P a w next Q := by
  unfold Oper.wp
  rw [he]
  subst hu
  exact hn M w rv ⟨rfl, rfl, rfl, hM, rfl, ok, .refl M⟩ hv
end

theorem mapM_some {α β : Type} (f : α → Option β) : ∀ (l : List α) (r : List β), l.mapM f = some r → All2 (fun a b => f a = some b) l r
  | [], r, h => by simp at h; subst h; trivial
  | a :: l, r, h => by
    simp only [List.mapM_cons, Option.bind_eq_bind, Option.bind_eq_some_iff] at h
    obtain ⟨b, h1, bs, h2, h3⟩ := h
    cases h3
    exact ⟨h1, mapM_some f l bs h2⟩

theorem All2.map_left {α β γ : Type} {R : γ → β → Prop} {f : α → γ} : ∀ {l : List α} {m : List β}, All2 (fun a b => R (f a) b) l m → All2 R (l.map f) m
  | [], [], _ => trivial
  | _ :: _, _ :: _, h => ⟨h.1, All2.map_left h.2⟩
  | [], _ :: _, h => h.elim
  | _ :: _, [], h => h.elim
theorem All2.map_both {α β γ δ : Type} {R : γ → δ → Prop} {f : α → γ} {g : β → δ} : ∀ {l : List α} {m : List β}, All2 (fun a b => R (f a) (g b)) l m → All2 R (l.map f) (m.map g)
  | [], [], _ => trivial
  | _ :: _, _ :: _, h => ⟨h.1, All2.map_both h.2⟩
  | [], _ :: _, h => h.elim
  | _ :: _, [], h => h.elim
theorem All2.self {α : Type} {R : α → α → Prop} : ∀ {l : List α}, (∀ x ∈ l, R x x) → All2 R l l
  | [], _ => trivial
  | a :: l, h => ⟨h a (List.mem_cons_self ..), All2.self fun x hx => h x (List.mem_cons_of_mem _ hx)⟩

def _root_.Go.Operand.lit : Operand → Value
  | .const c => c
  | _ => undef

theorem isNil_sound {P : Program} {M : Mst} {w : World} {t : TypeId} {d : TypeDesc} {y : Operand} {x : CVal} {rx ry : Value} {b : Bool} (hu : P.underlying t = some d) (hx : CRep M x rx) (hy : ry = y.lit)
    (h : isNil d y x = some b) (op : BinOp) (hop : op = .eql ∨ op = .neq) (ox oy : Operand) :
    (eqGuard op t ox oy rx ry).run P w = .ok () w ∧ (binOp op t rx ry).run P w = .ok (.bool (nilAns op b)) w := by
  have key : ∀ n, (Op.equalIn (n + 1) t rx ry).run P w = .ok b w → (eqGuard op t ox oy rx ry).run P w = .ok () w → (binOp op t rx ry = match op with | .eql => (do pure (.bool (← Op.equal t rx ry))) | _ => (do pure (.bool (!(← Op.equal t rx ry))))) →
      n = 9999 → (eqGuard op t ox oy rx ry).run P w = .ok () w ∧ (binOp op t rx ry).run P w = .ok (.bool (nilAns op b)) w := by
    intro n h1 h2 h3 hn
    have h1' : (Op.equal t rx ry).run P w = .ok b w := by subst hn; exact h1
    refine ⟨h2, ?_⟩
    rw [h3]
    rcases hop with rfl | rfl <;> simp [h1', nilAns]
  unfold isNil at h
  split at h <;> cases h <;> simp only [Operand.lit] at hy <;> subst hy
  all_goals (try obtain rfl : rx = _ := hx)
  all_goals (try obtain ⟨C, B, _, _, rfl⟩ := hx)
  all_goals (try obtain ⟨C, B, _, _, _, rfl⟩ := hx)
  all_goals (try obtain ⟨B, o, rfl, _⟩ := hx)
  all_goals (try obtain ⟨cv, rfl, _⟩ := hx)
  all_goals (try obtain ⟨⟨_, _, _, rfl⟩, _⟩ := hx)
  all_goals
    refine key 9999 ?_ ?_ ?_ rfl
    · generalize 9999 = n
      unfold Op.equalIn
      simp [run_underlying hu]
    · rcases hop with rfl | rfl <;> simp [eqGuard]
    · rcases hop with rfl | rfl <;> rfl
theorem PRep_map {M : Mst} {ev : Operand → AVal} {ρ : Operand → Value} (hev : ∀ x, VRep M (ev x) (ρ x)) : ∀ (l : List (Nat × Operand)), All2 (PRep M) (l.map fun p => (p.1, ev p.2)) (l.map fun p => (p.1, ρ p.2))
  | [] => trivial
  | p :: l => ⟨⟨rfl, hev p.2⟩, PRep_map hev l⟩

theorem parts_map {f : Operand → Value} (parts : Array (Nat × Operand)) : (parts.map fun (i, x) => (i, f x)) = (parts.toList.map fun p => (p.1, f p.2)).toArray := by
  cases parts; simp

theorem caps_rep {M : Mst} {ev : Operand → AVal} {ρ : Operand → Value} (hev : ∀ x, VRep M (ev x) (ρ x)) : ∀ {l : List Operand} {ids : List Nat}, All2 (fun x id => capOf (ev x) = some id) l ids →
    All2 (fun id u => ∃ C B, M.κ id = some C ∧ C.blk = some B ∧ u = .pointer (some ⟨B, 0, none⟩)) ids (l.map ρ)
  | [], [], _ => trivial
  | x :: l, id :: ids, h => by
    refine ⟨?_, caps_rep hev h.2⟩
    have h1 : capOf (ev x) = some id := h.1
    have hx := hev x
    unfold capOf at h1
    split at h1
    · rename_i id' hc
      cases h1
      rw [hc] at hx
      exact hx
    · cases h1
  | [], _ :: _, h => h.elim
  | _ :: _, [], h => h.elim

theorem args_rep {M : Mst} {ev : Operand → AVal} {ρ : Operand → Value} (hev : ∀ x, VRep M (ev x) (ρ x)) : ∀ (l : List Operand), All2 (VRep M) (l.map ev) (l.map ρ)
  | [] => trivial
  | x :: l => ⟨hev x, args_rep hev l⟩

theorem op_wp {E : Env} (hE : EnvOK E) {A : Notes} {k pre : Nat} {Q : Exit → Act → World → Prop} {o : Oper} {a : Act} {w : World} {M : Mst} {next : Act → World → Prop} {v : AVal} {u : Upd} {ev : Operand → AVal} (ok : Ok M) (hM : M.H = w.heap)
    (hev : ∀ x, VRep M (ev x) (a.eval x)) (h : Yields (opS E A k pre o ev M.h) v u) (hn : ∀ M' w' rv, Behind M w u M' w' → VRep M' v rv → next (a.put o.dst rv) w') : o.wp E.P a w next Q := by
  unfold opS at h
  dsimp only at h
  split at h
  -- move
  · rename_i x ho
    obtain ⟨rfl, rfl⟩ := yields_one h
    exact wp_now ok hM rfl (hev x) (by cases o; cases ho; rfl) hn
  · rename_i x ho
    obtain ⟨rfl, rfl⟩ := yields_one h
    exact wp_now ok hM rfl (hev x) (by cases o; cases ho; rfl) hn
  -- pick
  · rename_i c x y ho
    split at h
    · rename_i cb hc
      have hcv := hev c
      rw [hc] at hcv
      have hcv : a.eval c = .bool cb := hcv
      split at h
      · rename_i xb yb hx hy
        obtain ⟨rfl, rfl⟩ := yields_one h
        have h1 := hev x
        have h2 := hev y
        rw [hx] at h1
        rw [hy] at h2
        refine wp_now (rv := .bool (bif cb then xb else yb)) ok hM rfl (show VRep M (.c (.bool _)) (.bool _) from rfl) ?_ hn
        have h1 : a.eval x = .bool xb := h1
        have h2 : a.eval y = .bool yb := h2
        cases o
        cases ho
        show (do pure (.value (if ← asBool (a.eval c) then a.eval x else a.eval y)) : Sem Next).run E.P w = _
        cases cb <;> simp [hcv, asBool, h1, h2]
      · refine wp_now (rv := if cb then a.eval x else a.eval y) ok hM ?_ ?_ ?_ hn
        · rcases h with ⟨_, _, rfl⟩ | ⟨_, ⟨_, _, rfl⟩ | ⟨_, h⟩⟩
          · rfl
          · rfl
          · exact h.elim
        · rcases h with ⟨rfl, rfl, _⟩ | ⟨rfl, ⟨_, rfl, _⟩ | ⟨_, h⟩⟩
          · exact hev x
          · exact hev y
          · exact h.elim
        · cases o
          cases ho
          show (do pure (.value (if ← asBool (a.eval c) then a.eval x else a.eval y)) : Sem Next).run E.P w = _
          cases cb <;> simp [hcv, asBool]
    · exact h.elim
  -- alloc
  · rename_i t ho
    split at h
    · rename_i zs hnm hz
      obtain ⟨_, rfl, rfl⟩ := yields_alt h
      exact wp_runs (allocS_sound ok hM hnm hz) (by cases o; cases ho; rfl) hn
    · exact h.elim
  -- box
  · rename_i t x ho
    split at h
    · rename_i vs hnm hv
      obtain ⟨_, rfl, rfl⟩ := yields_alt h
      exact wp_runs (boxS_sound ok hM hnm (hev x) hv) (by cases o; cases ho; rfl) hn
    · exact h.elim
  -- build
  · rename_i t parts ho
    have hp := PRep_map hev parts.toList
    have := buildS_sound ok hM hp h
    exact wp_runs this (by cases o; cases ho; rw [← parts_map]; rfl) hn
  -- buildSlice
  · rename_i t n parts ho
    have hp := PRep_map hev parts.toList
    exact wp_runs (buildSliceS_sound ok hM hp h) (by cases o; cases ho; rw [← parts_map]; rfl) hn
  -- load
  · rename_i t x ho
    exact wp_runs (loadS_sound ok hM (hev x) h) (by cases o; cases ho; rfl) hn
  -- store
  · rename_i t x y ho
    obtain ⟨rfl, hr⟩ := storeS_sound ok hM (hev x) (hev y) h
    exact wp_unit hr (by cases o; cases ho; rfl) hn
  -- nilCheck
  · rename_i x ho
    have hx := hev x
    have key : ∀ c, ev x = .c c → v = .c c → u = [] → (match a.eval x with | .pointer none | .nilIface | .nilFunc => False | .func (.method _) _ _ => False | _ => True) → o.wp E.P a w next Q := by
      intro c hc hv hu hm
      rw [hc] at hx
      refine wp_now (rv := a.eval x) ok hM hu (by rw [hv]; exact hx) ?_ hn
      cases o
      cases ho
      simp only [execOp]
      generalize a.eval x = r at *
      split <;> first | rfl | exact hm.elim
    split at h
    · rename_i i j hc
      obtain ⟨rfl, rfl⟩ := yields_one h
      refine key _ hc rfl rfl ?_
      rw [hc] at hx
      obtain ⟨C, B, _, _, e⟩ := hx
      rw [e]; trivial
    · rename_i i j k hc
      obtain ⟨rfl, rfl⟩ := yields_one h
      refine key _ hc rfl rfl ?_
      rw [hc] at hx
      obtain ⟨C, B, _, _, _, e⟩ := hx
      rw [e]; trivial
    · rename_i i j k l hc
      obtain ⟨rfl, rfl⟩ := yields_one h
      refine key _ hc rfl rfl ?_
      rw [hc] at hx
      obtain ⟨B, o, e, _⟩ := hx
      rw [e]; trivial
    · rename_i i j hc
      obtain ⟨rfl, rfl⟩ := yields_one h
      refine key _ hc rfl rfl ?_
      rw [hc] at hx
      obtain ⟨cv, e, _⟩ := hx
      rw [e]; trivial
    · exact h.elim
  -- binOp
  · rename_i op t x y _ ho
    cases hc : (nilConst y && cmpOp op) with
    | false =>
      rw [hc] at h
      exact wp_runs (binS_sound hE.eq ok hM (hev x) (hev y) h) (by cases o; cases ho; rfl) hn
    | true =>
      rw [hc] at h
      rw [Bool.and_eq_true] at hc
      have hop : op = .eql ∨ op = .neq := by cases op <;> first | (left; rfl) | (right; rfl) | (cases hc.2)
      split at h
      · rename_i d cv hu hcv
        split at h
        · rename_i b hb
          obtain ⟨rfl, rfl⟩ := yields_one h
          have hx := hev x
          rw [hcv] at hx
          have hy : a.eval y = y.lit := by
            cases y <;> first | rfl | (cases hc.1)
          obtain ⟨h1, h2⟩ := isNil_sound (w := w) hu hx hy hb op hop x y
          refine wp_now (rv := .bool (nilAns op b)) ok hM rfl (show VRep M (.c (.bool _)) (.bool _) from rfl) ?_ hn
          cases o
          cases ho
          show (do pure (.value (← (do eqGuard op t x y (a.eval x) (a.eval y); binOp op t (a.eval x) (a.eval y)))) : Sem Next).run E.P w = _
          simp only [Sem.run_bind, h1, Result.andThen_ok, h2, Sem.run_pure]
        · exact h.elim
      · exact h.elim
  -- unOp
  · rename_i op t x ho
    exact wp_runs (unS_sound ok hM (hev x) h) (by cases o; cases ho; rfl) hn
  -- convert
  · rename_i s d x ho
    split at h
    · rename_i k1 k k2 n hs hd hx
      obtain ⟨rfl, rfl⟩ := yields_one h
      have hxv := hev x
      rw [hx] at hxv
      have hxv : a.eval x = .int k2 n := hxv
      refine wp_now (rv := .int k (k.wrap n)) ok hM rfl (show VRep M (.c (.int _ _)) (.int _ _) from rfl) ?_ hn
      cases o
      cases ho
      show (do pure (.value (← convert s d (a.eval x))) : Sem Next).run E.P w = _
      simp [convert, run_underlying hs, run_underlying hd, hxv, Conv.intToInt]
    · exact h.elim
  -- makeFunc
  · rename_i f first captured ho
    cases hf : Nat.beq first.size 0 with
    | false => rw [hf] at h; exact h.elim
    | true =>
      rw [hf] at h
      simp only [cond_true] at h
      split at h
      · rename_i ids hids
        obtain ⟨rfl, rfl⟩ := yields_one h
        have h0 : first = #[] := Array.eq_empty_of_size_eq_zero (by simpa using hf)
        refine wp_now (rv := .func (.func f) #[] (captured.map a.eval)) ok hM rfl ?_ ?_ hn
        case refine_2 =>
          cases o
          cases ho
          show (do pure (.value (← Instr.makeFunc (.func f) (first.map a.eval) (captured.map a.eval))) : Sem Next).run E.P w = _
          subst h0
          simp [Instr.makeFunc]
        refine ⟨_, rfl, ?_⟩
        rw [Array.toList_map]
        exact caps_rep hev (mapM_some _ _ _ hids)
      · exact h.elim
  -- makeSlice
  · rename_i t l c ho
    exact wp_runs (makeSliceS_sound ok hM (hev l) (hev c) h) (by cases o; cases ho; rfl) hn
  -- maps
  · rename_i t ho
    exact wp_runs (makeMapS_sound ok hM h) (by cases o; cases ho; rfl) hn
  · rename_i t x i ho
    exact wp_runs (lookupS_sound ok hM (hev x) (hev i) h) (by cases o; cases ho; rfl) hn
  · rename_i t x i y ho
    obtain ⟨rfl, hr⟩ := mapUpdateS_sound ok hM (hev x) (hev i) (hev y) h
    exact wp_unit hr (by cases o; cases ho; rfl) hn
  -- slice
  · rename_i t x lo hi mx ho
    have hO : ∀ y : Option Operand, ORepV M (y.map ev) (y.map a.eval) := fun y => by
      cases y with
      | none => trivial
      | some y => exact hev y
    exact wp_runs (sliceS_sound ok hM (hev x) (hO lo) (hO hi) (hO mx) h) (by cases o; cases ho; rfl) hn
  -- fieldAddr, field, indexAddr, index
  · rename_i t x f ho
    exact wp_runs (fieldAddrS_sound ok hM (hev x) h) (by cases o; cases ho; rfl) hn
  · rename_i t x f ho
    exact wp_runs (fieldS_sound ok hM (hev x) h) (by cases o; cases ho; rfl) hn
  · rename_i t x i ho
    exact wp_runs (indexAddrS_sound ok hM (hev x) (hev i) h) (by cases o; cases ho; rfl) hn
  · rename_i t x i ho
    exact wp_runs (indexS_sound ok hM (hev x) (hev i) h) (by cases o; cases ho; rfl) hn
  -- extract
  · rename_i t i ho
    have ht := hev t
    split at h
    · rename_i xs hxs
      rw [hxs] at ht
      obtain ⟨vs, hvs, hall⟩ := ht
      split at h
      · rename_i g cs hi
        obtain ⟨hp, rfl⟩ := yields_ofO h
        have hl := hall.length
        have hlt : i < xs.length := by
          rcases Nat.lt_or_ge i xs.length with h | h
          · exact h
          · rw [List.getElem?_eq_none h] at hi; cases hi
        have hlt' : i < vs.size := by simp at hl; omega
        have hc := hall.get i hlt (by simpa using hlt')
        rw [List.getElem?_eq_getElem hlt, Option.some.injEq] at hi
        rw [hi] at hc
        refine wp_now (rv := vs[i]) ok hM rfl ?_ ?_ hn
        · rcases partO_some hp with ⟨e1, rfl⟩ | ⟨e1, c, rfl, rfl⟩
          · cases e1; exact hc
          · cases e1; exact hc
        · cases o
          cases ho
          show (do pure (.value (← Instr.extract (a.eval t) i)) : Sem Next).run E.P w = _
          rw [hvs]
          simp [Instr.extract, hlt']
      · exact h.elim
    · exact h.elim
  -- call
  · rename_i c ho
    have hargs := args_rep hev c.args.toList
    have exec : ∀ b, c.callee = .builtin b → ∀ s : Sem Value, (∀ C, Go.builtin b c.argTypes o.type C (c.args.map a.eval) = (do pure (.value (← s)) : Sem Next)) → execOp a.eval o = (do pure (.value (← s)) : Sem Next) := fun b hb s hs => by
      cases o
      cases ho
      show (do let d ← resolve a.eval c _; invoke d.target d.args : Sem Next) = _
      unfold resolve
      rw [hb]
      exact hs _
    have hmap : c.args.map a.eval = (c.args.toList.map a.eval).toArray := by cases c.args; simp
    split at h
    · rename_i b hcal
      unfold builtinS at h
      split at h
      -- len
      · split at h
        case h_2 => exact h.elim
        rename_i x hx
        have h1 : ∃ rx, (c.args.toList.map a.eval).toArray = #[rx] ∧ CRep M x rx := by
          rw [hx] at hargs
          match hl : c.args.toList.map a.eval, hargs with
          | [rx], hh => exact ⟨rx, rfl, hh.1⟩
        obtain ⟨rx, hrx, hxv⟩ := h1
        split at h
        · rename_i e hu
          split at h
          · rename_i n hlen
            obtain ⟨rfl, rfl⟩ := yields_one h
            obtain ⟨t, ht, hu⟩ := Option.bind_eq_some_iff.1 hu
            obtain ⟨A, k, rfl⟩ := lenSl_sound ok hxv hlen
            refine wp_runs (s := Builtin.len_ c.argTypes o.type (c.args.map a.eval)) ?_ (exec _ hcal _ fun _ => rfl) hn
            rw [hmap, hrx]
            exact .pure ok hM (run_len ht hu) rfl
          · exact h.elim
        · exact h.elim
      -- append
      · split at h
        case h_2 => exact h.elim
        rename_i b x hx
        have h1 : ∃ rb rx, (c.args.toList.map a.eval).toArray = #[rb, rx] ∧ VRep M b rb ∧ VRep M x rx := by
          rw [hx] at hargs
          match hl : c.args.toList.map a.eval, hargs with
          | [rb, rx], hh => exact ⟨rb, rx, rfl, hh.1, hh.2.1⟩
        obtain ⟨rb, rx, hrx, hbv, hxv⟩ := h1
        split at h
        · rename_i t t' hts
          obtain ⟨htt, h'⟩ := yields_if h
          have : t = t' := by simpa using htt
          subst this
          refine wp_runs (s := Builtin.append_ c.argTypes o.type (c.args.map a.eval)) ?_ (exec _ hcal _ fun _ => rfl) hn
          have ht : c.argTypes = #[t, t] := by
            have := congrArg List.toArray hts
            simpa using this
          rw [hmap, hrx, ht]
          exact appendS_sound ok hM hbv hxv h'
        · exact h.elim
      -- copy
      · split at h
        case h_2 => exact h.elim
        rename_i d s hx
        have h1 : ∃ rb rx, (c.args.toList.map a.eval).toArray = #[rb, rx] ∧ VRep M d rb ∧ VRep M s rx := by
          rw [hx] at hargs
          match hl : c.args.toList.map a.eval, hargs with
          | [rb, rx], hh => exact ⟨rb, rx, rfl, hh.1, hh.2.1⟩
        obtain ⟨rb, rx, hrx, hbv, hxv⟩ := h1
        split at h
        · rename_i e hu
          obtain ⟨hce, h⟩ := yields_if h
          obtain ⟨t, ht, hu⟩ := Option.bind_eq_some_iff.1 hu
          refine wp_runs (s := Builtin.copy_ c.argTypes o.type (c.args.map a.eval)) ?_ (exec _ hcal _ fun _ => rfl) hn
          rw [hmap, hrx]
          exact copyS_sound ok hM ht hu (by simpa using hce) hbv hxv h
        · exact h.elim
      -- clear
      · split at h
        case h_2 => exact h.elim
        rename_i id lo n hx
        have h1 : ∃ rx, (c.args.toList.map a.eval).toArray = #[rx] ∧ CRep M (.osl id (some (lo, n))) rx := by
          rw [hx] at hargs
          match hl : c.args.toList.map a.eval, hargs with
          | [rx], hh => exact ⟨rx, rfl, hh.1⟩
        obtain ⟨rx, hrx, hxv⟩ := h1
        split at h
        · rename_i t ht
          refine wp_runs (s := Builtin.clear_ c.argTypes o.type (c.args.map a.eval)) ?_ (exec _ hcal _ fun _ => rfl) hn
          rw [hmap, hrx]
          obtain ⟨rv, w', M', q1, q2⟩ := clearS_sound (T := o.type) ok hM hxv h
          refine ⟨rv, w', M', ?_, q2⟩
          have e : (Builtin.clear_ c.argTypes o.type #[rx]).run E.P w = (Builtin.clear_ #[t] o.type #[rx]).run E.P w := by
            simp only [Builtin.clear_, ht]
            rfl
          rw [e]; exact q1
        · exact h.elim
      -- max, min
      · refine wp_runs (s := Builtin.max_ c.argTypes o.type (c.args.map a.eval)) ?_ (exec _ hcal _ fun _ => rfl) hn
        rw [hmap]
        exact maxS_sound (lt := false) (ts := c.argTypes) (T := o.type) ok hM hargs h
      · refine wp_runs (s := Builtin.min_ c.argTypes o.type (c.args.map a.eval)) ?_ (exec _ hcal _ fun _ => rfl) hn
        rw [hmap]
        exact maxS_sound (lt := true) (ts := c.argTypes) (T := o.type) ok hM hargs h
      · exact h.elim
    -- a function
    · rename_i f hcal
      split at h
      · rename_i fid cap hf
        have hfv := hev f
        rw [hf] at hfv
        obtain ⟨cv, hcv, hcaps⟩ := hfv
        have hall : All2 (VRep M) (c.args.toList.map ev ++ cap.map fun id => .c (.ptr id 0)) (c.args.map a.eval ++ cv).toList := by
          rw [Array.toList_append, Array.toList_map]
          exact hargs.append (All2.map_left hcaps)
        obtain ⟨h1, h2⟩ := hE.sums k _ fid _ M.h v u h M w _ rfl hM ok hall
        have hr : (execOp a.eval o).run E.P w = .ok (.enter fid (c.args.map a.eval ++ cv)) w := by
          cases o
          cases ho
          show (do let d ← resolve a.eval c _; invoke d.target d.args : Sem Next).run E.P w = _
          unfold resolve
          rw [hcal]
          simp only [hcv, Deferred.ofValue, Sem.run_bind, Sem.run_pure, Result.andThen_ok, invoke, Array.empty_append]
          exact h1
        unfold Oper.wp
        rw [hr, Oper.upon_enter]
        refine Calls.mono h2 fun e w' he => ?_
        cases e with
        | returned rv =>
          obtain ⟨M', hB, hv⟩ := he
          exact hn M' w' rv hB hv
        | panicked _ => exact he.elim
        | outgrown => exact he.elim
      · exact h.elim
    · exact h.elim
  · exact h.elim
end Go.Ab
