/- Calls by data: what is said of them holds. -/
import Derived.Test.YtpmkkfbnaohlhaaGiAb26
set_option linter.unusedVariables false
set_option linter.unusedSimpArgs false
set_option linter.unusedSectionVars false
namespace Go.Ab

theorem cond_some {α : Type} {c : Bool} {x : Option α} {y : α} (h : (bif c then x else none) = some y) : c = true ∧ x = some y := by
  cases c with
  | true => exact ⟨rfl, h⟩
  | false => cases h

theorem comps_shape {M : Mst} : ∀ {l : List (Bool × List RC)} {xs : List (Bool × List CVal)} {cs : List CVal} {vs : List Value}, getComps l xs = some cs → All2 (CompRep M) xs vs →
    cs.length = (l.flatMap (·.2)).length ∧ ∃ us : List Value, All2 (CRep M) cs us ∧ ∀ (M' : Mst) (cs' : List CVal), All2 (CRep M') cs' us → All2 (CompRep M') (mkComps l cs') vs
  | [], [], cs, [], h, _ => by cases h; exact ⟨rfl, [], trivial, fun _ _ _ => trivial⟩
  | (b, l) :: ls, (g, cs1) :: rest, cs, v :: vs, h, hv => by
    unfold getComps at h
    obtain ⟨hc, h⟩ := cond_some h
    split at h
    · rename_i r hr
      cases h
      rw [Bool.and_eq_true] at hc
      have hl : cs1.length = l.length := by simpa using hc.2
      obtain ⟨k1, us, k2, k3⟩ := comps_shape hr hv.2
      refine ⟨by simp [hl, k1], ?_⟩
      cases b with
      | true =>
        have hg : g = true := hc.1
        subst hg
        obtain ⟨ws, rfl, hw⟩ := hv.1
        refine ⟨ws.toList ++ us, hw.append k2, fun M' cs' h' => ⟨?_, ?_⟩⟩
        · have h1 := All2.take l.length h'
          have hwl := hw.length
          rw [show (ws.toList ++ us).take l.length = ws.toList from by rw [List.take_append_of_le_length (by omega), List.take_of_length_le (by omega)]] at h1
          exact ⟨ws, rfl, h1⟩
        · have h1 := All2.drop l.length h'
          have hwl := hw.length
          rw [show (ws.toList ++ us).drop l.length = us from by rw [show l.length = ws.toList.length by omega, List.drop_left]] at h1
          exact k3 M' _ h1
      | false =>
        have hg := hc.1
        simp only [cond_false, Bool.and_eq_true, Bool.not_eq_true'] at hg
        obtain ⟨hg1, hg2⟩ := hg
        subst hg1
        have hl1 : cs1.length = 1 := by simpa using hg2
        match cs1, hl1 with
        | [c], _ =>
          have hv1 : CRep M c v := hv.1
          refine ⟨v :: us, ⟨hv1, k2⟩, fun M' cs' h' => ?_⟩
          match cs', h' with
          | c' :: cs'', h' =>
            have e : l.length = 1 := by rw [← hl]; rfl
            refine ⟨?_, ?_⟩
            · show CompRep M' (false, (c' :: cs'').take l.length) v
              rw [e]
              exact h'.1
            · show All2 _ (mkComps ls ((c' :: cs'').drop l.length)) vs
              rw [e]
              exact k3 M' cs'' h'.2
    · cases h
  | [], _ :: _, _, _, h, _ => by cases h
  | (_, _) :: _, [], _, _, h, _ => by cases h
  | [], [], _, _ :: _, _, hv => hv.elim
  | _ :: _, _ :: _, _, [], _, hv => hv.elim

theorem res_shape {M : Mst} {s : RS} {v : AVal} {cs : List CVal} {rv : Value} (h : s.get v = some cs) (hv : VRep M v rv) :
    cs.length = s.cells.length ∧ ∃ us : List Value, All2 (CRep M) cs us ∧ ∀ (M' : Mst) (cs' : List CVal), All2 (CRep M') cs' us → VRep M' (s.mk cs') rv := by
  unfold RS.get at h
  split at h
  · rename_i r x
    cases h
    refine ⟨rfl, [rv], ⟨hv, trivial⟩, fun M' cs' h' => ?_⟩
    match cs', h' with
    | [c'], h' => exact h'.1
  · rename_i l xs
    obtain ⟨hl, h⟩ := cond_some h
    cases h
    obtain ⟨vs, rfl, hx⟩ := hv
    exact ⟨Nat.eq_of_beq_eq_true hl, vs.toList, hx, fun M' cs' h' => ⟨vs, rfl, h'⟩⟩
  · rename_i l xs
    obtain ⟨vs, rfl, hx⟩ := hv
    obtain ⟨k1, us, k2, k3⟩ := comps_shape h hx
    exact ⟨k1, us, k2, fun M' cs' h' => ⟨vs, rfl, k3 M' cs' h'⟩⟩
  · cases h

theorem frzS_sound {h0 : Hp} {s : AS} {a a' : AVal} {v : Value} {u : Upd} {M : Mst} (ok : Ok M) (hf : Frz h0 M.h) (hv : VRep M a v) (h : frzS h0 s a = some (a', u)) :
    ∃ L : Mst, L.H = M.H ∧ L.h = happly M.h u ∧ Ok L ∧ Step M L ∧ VRep L a' v ∧ Frz h0 L.h := by
  unfold frzS at h
  split at h
  · rename_i p x
    split at h
    · rename_i y u1 e
      cases h
      obtain ⟨L, h1, h2, h3, h4, h5, h6⟩ := frzW_sound (cs := [x]) (vs := [v]) ok hf ⟨hv, trivial⟩ e
      exact ⟨L, h1, h2, h3, h4, h5.1, h6⟩
    · cases h
  · rename_i l xs
    split at h
    · rename_i ys u1 e
      cases h
      obtain ⟨vs, rfl, hx⟩ := hv
      obtain ⟨L, h1, h2, h3, h4, h5, h6⟩ := frzW_sound ok hf hx e
      exact ⟨L, h1, h2, h3, h4, ⟨vs, rfl, h5⟩, h6⟩
    · cases h
  · cases h
    exact ⟨M, rfl, rfl, ok, .refl M, hv, hf⟩

theorem VReps.ext {M M' : Mst} (x : Ext M M') : ∀ {as : List AVal} {vs : List Value}, All2 (VRep M) as vs → All2 (VRep M') as vs := fun h => h.mono fun _ _ h => h.ext x

theorem frzA_sound {h0 : Hp} : ∀ {l : List AS} {as as' : List AVal} {vs : List Value} {u : Upd} {M : Mst}, Ok M → Frz h0 M.h → All2 (VRep M) as vs → frzA h0 l as = some (as', u) →
    ∃ L : Mst, L.H = M.H ∧ L.h = happly M.h u ∧ Ok L ∧ Step M L ∧ All2 (VRep L) as' vs ∧ Frz h0 L.h
  | s :: l, a :: as, as', v :: vs, u, M, ok, hf, hv, h => by
    unfold frzA at h
    split at h
    · rename_i a1 u1 as1 us1 e1 e2
      cases h
      obtain ⟨M1, h1, h2, h3, h4, h5, h6⟩ := frzS_sound ok hf hv.1 e1
      obtain ⟨M2, k1, k2, k3, k4, k5, k6⟩ := frzA_sound h3 h6 (VReps.ext h4.ext hv.2) e2
      exact ⟨M2, k1.trans h1, by rw [k2, h2, happly_append], k3, h4.trans k4, ⟨h5.ext k4.ext, k5⟩, k6⟩
    · cases h
  | [], as, as', vs, u, M, ok, hf, hv, h => by
    cases as <;> cases h <;> exact ⟨M, rfl, rfl, ok, .refl M, hv, hf⟩
  | s :: l, [], as', vs, u, M, ok, hf, hv, h => by cases h; exact ⟨M, rfl, rfl, ok, .refl M, hv, hf⟩
  | _ :: _, _ :: _, _, [], _, _, _, _, hv, _ => hv.elim

/-- The caller's objects over the callee's memory. -/
def Mst.over (M L : Mst) : Mst := { κ := M.κ, F := fun b => M.F b ∨ L.G b, G := L.G, h := M.h, H := L.H }

theorem Mst.over_ok {M Ml L : Mst} (ok : Ok M) (okL : Ok L) (lo : Lo M Ml) (hno : ∀ b, ¬ Own Ml b) (g : Grow Ml L) : Ok (M.over L) ∧ Step M (M.over L) := by
  have hlt : ∀ b, Ml.F b ↔ b < M.H.size := fun b => by rw [lo.F]
  have hsame : ∀ b, b < M.H.size → L.H[b]? = M.H[b]? := fun b hb => by rw [g.same b ((hlt b).2 hb), lo.H]
  have hsz : M.H.size ≤ L.H.size := by have := g.size; rw [lo.H] at this; exact this
  have hG : ∀ b, L.G b → b < M.H.size → M.G b := fun b hb hs => by
    rcases g.Gb b hb (by rw [lo.H]; exact hs) with h | h
    · rw [lo.G] at h; exact h
    · exact absurd h (hno b)
  have hlt' : ∀ b, M.F b → b < M.H.size := ok.Flt
  have x : Ext M (M.over L) := ⟨fun id C h => ⟨C, h, C.le_refl⟩, fun b h => .inl h, fun b h => g.G b (by rw [lo.G]; exact h), fun b h => hsame b (ok.Flt b h), fun b h => hsame b (ok.Flt b (ok.GF b h)), fun b h => bsize_congr (hsame b h)⟩
  have hown : ∀ b, Own (M.over L) b → Own M b := fun b h => h
  refine ⟨⟨fun id o h => ?_, fun id h => ok.non id h, ok.disj, fun b h => ⟨fun hf => ?_, ?_⟩, fun b h => .inr h, fun b h => ?_⟩, ⟨x, hsz, fun b hb _ => hsame b hb, fun b h _ => h, fun b h hs => .inl (hG b h hs), fun b h hs => ?_⟩⟩
  · obtain ⟨C, hC, hO⟩ := ok.obj id o h
    exact ⟨C, hC, hO.ext x fun ho b hb => hsame b (ok.own b ⟨id, o, C, h, ho, hC, hb⟩).2⟩
  · have := ok.own b (hown b h)
    rcases hf with hf | hf
    · exact this.1 hf
    · exact this.1 (ok.GF b (hG b hf this.2))
  · have h1 := (ok.own b (hown b h)).2
    show b < L.H.size
    omega
  · show b < L.H.size
    rcases h with h | h
    · have := ok.Flt b h; omega
    · exact okL.Flt b (okL.GF b h)
  · rcases h with h | h
    · exact .inl h
    · exact .inl (ok.GF b (hG b h hs))

theorem own_one {h0 : Hp} {r : RC} {c : CVal} {d : r.den} (h : outR h0 r c = some d) : ∀ id ∈ ownIds [r] [c], ∃ o, h0 id = some o ∧ o.owned = true := by
  unfold outR at h
  split at h
  all_goals (try (intro id hid; simp [ownIds] at hid; done))
  · rename_i t id
    intro id' hid
    have := List.mem_singleton.1 hid
    subst this
    split at h
    · exact ⟨_, by assumption, rfl⟩
    · cases h
  · rename_i t id n
    intro id' hid
    have := List.mem_singleton.1 hid
    subst this
    split at h
    · exact ⟨_, by assumption, rfl⟩
    · cases h
  · rename_i id
    intro id' hid
    have := List.mem_singleton.1 hid
    subst this
    split at h
    · exact ⟨_, by assumption, rfl⟩
    · exact ⟨_, by assumption, rfl⟩
    · cases h
  · rename_i id
    intro id' hid
    have := List.mem_singleton.1 hid
    subst this
    split at h
    · exact ⟨_, by assumption, rfl⟩
    · cases h
  · rename_i id
    intro id' hid
    have := List.mem_singleton.1 hid
    subst this
    split at h
    · exact ⟨_, by assumption, rfl⟩
    · cases h
  · cases h

theorem ownIds_owned {L : Mst} : ∀ {l : List RC} {cs : List CVal} {d : RL l}, outRL L.h l cs = some d → ∀ id ∈ ownIds l cs, ∃ o, L.h id = some o ∧ o.owned = true
  | [], [], _, _, id, hid => by cases hid
  | r :: l, c :: cs, d, h, id, hid => by
    unfold outRL at h
    split at h
    · rename_i x xs e1 e2
      rw [ownIds_cons] at hid
      rcases List.mem_append.1 hid with hid | hid
      · exact own_one e1 id hid
      · exact ownIds_owned e2 id hid
    · cases h
  | [], _ :: _, _, h, _, _ => by cases h
  | _ :: _, [], _, h, _, _ => by cases h

theorem entry_any {E : Env} (hE : EnvOK E) (hS : SumsLocal E.sums) (hm : E.P.follows .mixedOrders = true) {A : Notes} {k pre na : Nat} {f : FuncId} {fn : Func} (hf : E.P.funcs[f]? = some fn) (hL : ∀ c, fn.body = some c → LoopsOK E.P A pre na fn.ntmps c) (hcall : ∀ vs w, (callFunc f vs).run E.P w = .ok (.enter f vs) w)
    {as : List AS} {rs : RS} {X : Type} {S : AD as → Option X} {pack : X → RL rs.cells} {unpack : RL rs.cells → X} (hpu : ∀ d, pack (unpack d) = d) (hev : ∀ d x, S d = some x → ∀ (Ml : Mst) (vs : List Value), All2 (VRep Ml) (absArgs as d).1 vs → ∃ args', All2 (VRep Ml) args' vs ∧ evF E A k pre na fn args' (absArgs as d).2 (outM rs unpack) = some x)
    {nm : Nat} {args : List AVal} {h : Hp} {v : AVal} {u : Upd} (hy : Yields (entry as rs S pack nm args h) v u) : CallOK E.P f args h v u := by
  intro M w vs hh hH ok hv
  refine ⟨hcall vs w, ?_⟩
  unfold entry at hy
  split at hy
  · exact hy.elim
  rename_i args' u0 hfrz
  split at hy
  case h_2 => exact hy.elim
  rename_i d hd
  obtain ⟨hc, hy⟩ := yields_if hy
  rw [Bool.and_eq_true] at hc
  obtain ⟨x, hx, rfl, rfl⟩ := hy
  subst hh
  obtain ⟨M1, a1, a2, a3, a4, a5, a6⟩ := frzA_sound ok (Frz.refl _) hv hfrz
  rw [← a2] at hd
  obtain ⟨Ml, lo, b2, b3, b4, b5⟩ := in_ok a3 a5 hd
  obtain ⟨args2, hargs2, hev2⟩ := hev d x hx Ml _ b5
  refine Calls.mono (evF_calls hE hS hm hf hL hev2 b2 (by rw [lo.H, a1]; exact hH) b3 hargs2) fun e w' he => ?_
  cases e with
  | panicked _ => exact he.elim
  | outgrown => exact he.elim
  | returned rv =>
    obtain ⟨L0, v0, st, hK, c1, c2, c3, c4, c5, c6, c7, c8, _⟩ := he
    have hK : outA st.h rs v0 = some (pack x) := by
      unfold outM at hK
      split at hK
      · rename_i d' hd'
        cases hK
        rw [hd', hpu]
      · cases hK
    unfold outA at hK
    split at hK
    case h_2 => cases hK
    rename_i cs hcs
    split at hK
    case h_2 => cases hK
    rename_i cs' u1 hfr
    obtain ⟨hnd, hK⟩ := cond_some hK
    obtain ⟨hlen, us, d1, d2⟩ := res_shape hcs c5
    rw [← c1] at hfr hK
    obtain ⟨L, e1, e2, e3, e4, e5, e6⟩ := frzW_sound c3 (Frz.refl _) d1 hfr
    rw [← e2] at hK
    have g : Grow Ml L := c4.trans e4.grow
    obtain ⟨f1, f2⟩ := Mst.over_ok a3 e3 lo b4 g
    have hfree : ∀ i, i < rs.cells.length → (M1.over L).h (nm + i) = none := fun i hi => by
      have h1 := freeN_at hc.1 i hi
      show M1.h (nm + i) = none
      rw [a2]
      rcases a6 (nm + i) with h | ⟨own, t, xs, h, _⟩ | ⟨ver, xs, h, _⟩
      · rw [a2] at h; rw [h]; exact h1
      · rw [h1] at h; cases h
      · rw [h1] at h; cases h
    obtain ⟨Mc, g1, g2, g3, g4, g5, g6, g7, g8⟩ := got_all e3 f1 ⟨rfl, rfl⟩ hfree hK (noDup_spec hnd) (ownIds_owned hK) (fun id hid C hC b hb => by
      obtain ⟨o, ho, hoo⟩ := ownIds_owned hK id hid
      have hown : Own L b := ⟨id, o, C, ho, hoo, hC, hb⟩
      have hge : ¬ b < M1.H.size := fun hlt => b4 b (g.own b hown (by rw [lo.H]; exact hlt))
      refine ⟨fun h => hge (a3.own b h).2, fun h => ?_, (e3.own b hown).2⟩
      rcases h with h | h
      · exact hge (a3.Flt b h)
      · exact (e3.own b hown).1 (e3.GF b h))
    have st2 : Step M1 Mc := by
      have hown : ∀ b, Own Mc b → b < M1.H.size → Own M1 b := fun b hb hlt => by
        rcases g7 b hb with h | ⟨id, hid, C, hC, hbC⟩
        · exact h
        · obtain ⟨o, ho, hoo⟩ := ownIds_owned hK id hid
          exact absurd (g.own b ⟨id, o, C, ho, hoo, hC, hbC⟩ (by rw [lo.H]; exact hlt)) (b4 b)
      refine ⟨f2.ext.trans f2.size g6, ?_, fun b hb hn => ?_, hown, fun b hb hlt => ?_, fun b hb hlt => ?_⟩
      · rw [g1]; exact f2.size
      · rw [g1]; exact f2.frame b hb hn
      · rw [g2] at hb; exact f2.Gb b hb hlt
      · rw [g3] at hb; exact f2.Fb b hb hlt
    refine ⟨Mc, ⟨c6, c7, c8, ?_, ?_, g5, a4.trans st2⟩, ?_⟩
    · rw [g1]; show L.H = _; rw [e1, c2]
    · rw [happly_append, ← a2]; exact g4
    · exact d2 Mc _ (g8 us e5)

theorem entry_sound {E : Env} (hE : EnvOK E) (hS : SumsLocal E.sums) (hm : E.P.follows .mixedOrders = true) {A : Notes} {k pre na : Nat} {f : FuncId} {fn : Func} (hf : E.P.funcs[f]? = some fn) (hL : ∀ c, fn.body = some c → LoopsOK E.P A pre na fn.ntmps c) (hcall : ∀ vs w, (callFunc f vs).run E.P w = .ok (.enter f vs) w)
    {as : List AS} {rs : RS} {X : Type} {S : AD as → Option X} {pack : X → RL rs.cells} {unpack : RL rs.cells → X} (hpu : ∀ d, pack (unpack d) = d) (hev : ∀ d, evF E A k pre na fn (absArgs as d).1 (absArgs as d).2 (outM rs unpack) = S d)
    {nm : Nat} {args : List AVal} {h : Hp} {v : AVal} {u : Upd} (hy : Yields (entry as rs S pack nm args h) v u) : CallOK E.P f args h v u :=
  entry_any hE hS hm hf hL hcall hpu (fun d x hx _ _ hv => ⟨_, hv, (hev d).trans hx⟩) hy

/-- A function that asks whether its row is nil. -/
theorem entry_nil {E : Env} (hE : EnvOK E) (hS : SumsLocal E.sums) (hm : E.P.follows .mixedOrders = true) {A : Notes} {k pre na : Nat} {f : FuncId} {fn : Func} (hf : E.P.funcs[f]? = some fn) (hL : ∀ c, fn.body = some c → LoopsOK E.P A pre na fn.ntmps c) (hcall : ∀ vs w, (callFunc f vs).run E.P w = .ok (.enter f vs) w)
    {sh : Bool} {t : Ty} {rs : RS} {X : Type} {S : List t.den → Option X} {pack : X → RL rs.cells} {unpack : RL rs.cells → X} (hpu : ∀ d, pack (unpack d) = d) (hnil : ∀ x, S [] = some x → evF E A k pre na fn [.c .nsl] (boxHp []) (outM rs unpack) = some x)
    (hev : ∀ xs x, S xs = some x → evF E A k pre na fn [.c (.nfl sh t xs)] (boxHp []) (outM rs unpack) = some x)
    {nm : Nat} {args : List AVal} {h : Hp} {v : AVal} {u : Upd} (hy : Yields (entry [.c (.dat sh t)] rs (fun d => S d.1) pack nm args h) v u) : CallOK E.P f args h v u :=
  entry_any hE hS hm hf hL hcall hpu (fun d x hx Ml vs hv => by
    obtain ⟨xs, _⟩ := d
    match vs, hv with
    | [v], hv =>
      have hv1 : ERep Ml.H (bif sh then Ml.G else Ml.F) (.sl t) xs (fun _ => some v) := hv.1
      have hv2 := hv1
      simp only [ERep, Option.some.injEq] at hv1
      obtain ⟨A', n, c, rfl, hn, hc, h⟩ := hv1
      cases A' with
      | some a => exact ⟨[.c (.nfl sh t xs)], ⟨⟨⟨a, n, c, rfl⟩, hv2⟩, trivial⟩, hev xs x hx⟩
      | none =>
        rcases h with ⟨rfl, h0⟩ | ⟨B, o, e, _⟩
        · have h0 := h0 rfl
          subst h0
          have hn : n = 0 := hn
          subst hn
          exact ⟨[.c .nsl], ⟨rfl, trivial⟩, hnil x hx⟩
        · cases e) hy
end Go.Ab
