/- Calls by data: the way out. -/
import Derived.Test.YtpmkkfbnaohlhaaGiAb25
set_option linter.unusedVariables false
set_option linter.unusedSimpArgs false
set_option linter.unusedSectionVars false
namespace Go.Ab

theorem frzW_sound {h0 : Hp} : ∀ {l : List Bool} {cs cs' : List CVal} {vs : List Value} {u : Upd} {M : Mst}, Ok M → Frz h0 M.h → All2 (CRep M) cs vs → frzW h0 l cs = some (cs', u) →
    ∃ L : Mst, L.H = M.H ∧ L.h = happly M.h u ∧ Ok L ∧ Step M L ∧ All2 (CRep L) cs' vs ∧ Frz h0 L.h
  | [], cs, cs', vs, u, M, ok, hf, hc, h => by
    cases cs <;> cases h <;> exact ⟨M, rfl, rfl, ok, .refl M, hc, hf⟩
  | true :: l, [], cs', vs, u, M, ok, hf, hc, h => by cases h; exact ⟨M, rfl, rfl, ok, .refl M, hc, hf⟩
  | false :: l, [], cs', vs, u, M, ok, hf, hc, h => by cases h; exact ⟨M, rfl, rfl, ok, .refl M, hc, hf⟩
  | true :: l, c :: cs, cs', v :: vs, u, M, ok, hf, hc, h => by
    unfold frzW at h
    split at h
    · rename_i c1 u1 cs1 us1 e1 e2
      cases h
      obtain ⟨M1, h1, h2, h3, h4, h5, h6, _⟩ := frzC_sound ok hf hc.1 e1
      obtain ⟨M2, k1, k2, k3, k4, k5, k6⟩ := frzW_sound h3 h6 (hc.2.mono fun _ _ h => h.ext h4.ext) e2
      exact ⟨M2, k1.trans h1, by rw [k2, h2, happly_append], k3, h4.trans k4, ⟨h5.ext k4.ext, k5⟩, k6⟩
    · cases h
  | false :: l, c :: cs, cs', v :: vs, u, M, ok, hf, hc, h => by
    unfold frzW at h
    split at h
    · rename_i cs1 us1 e2
      cases h
      obtain ⟨M2, k1, k2, k3, k4, k5, k6⟩ := frzW_sound ok hf hc.2 e2
      exact ⟨M2, k1, k2, k3, k4, ⟨hc.1.ext k4.ext, k5⟩, k6⟩
    · cases h
  | true :: _, _ :: _, _, [], _, _, _, _, hc, _ => hc.elim
  | false :: _, _ :: _, _, [], _, _, _, _, hc, _ => hc.elim

/-! ### An object more -/
def Mst.add (M : Mst) (nm : Nat) (o : Obj) (C : Conc) : Mst := { M with κ := κset M.κ nm C, h := hset M.h nm o }

theorem Mst.add_ok {M : Mst} (ok : Ok M) {nm : Nat} (hnm : M.h nm = none) {o : Obj} {C : Conc} (hO : ORep (M.add nm o C) o C) (hb : ∀ b ∈ C.fp, ¬ Own M b ∧ ¬ M.F b ∧ b < M.H.size) :
    Ok (M.add nm o C) ∧ Ext M (M.add nm o C) ∧ (∀ b, Own (M.add nm o C) b → Own M b ∨ b ∈ C.fp) := by
  have x : Ext M (M.add nm o C) := ⟨fun id D h => by
    have hne : id ≠ nm := fun e => by rw [e, ok.non nm hnm] at h; cases h
    exact ⟨D, by show κset M.κ nm _ id = _; rw [κset_ne _ _ hne]; exact h, D.le_refl⟩, fun _ h => h, fun _ h => h, fun _ _ => rfl, fun _ _ => rfl, fun _ _ => rfl⟩
  refine ⟨Ok.build ok x (fun id => id = nm) (fun id h => hset_ne _ _ h) (fun id h => κset_ne _ _ h) (fun _ _ _ _ _ _ _ _ _ => rfl) (fun id o' D h1 h2 h3 h4 b hb' => (ok.own b ⟨id, o', D, h2, h3, h4, hb'⟩).1) (Nat.le_refl _)
    (fun id o' e h => ?_) (fun id e h => ?_) (fun id o' D b e h1 h2 h3 h4 => ?_) ok.GF ok.Flt, x, fun b hb' => ?_⟩
  · subst e
    have e1 : (M.add id o C).h id = some o := hset_same _ _ _
    rw [e1] at h
    cases h
    exact ⟨_, κset_same _ _ _, hO⟩
  · subst e
    have e1 : (M.add id o C).h id = some o := hset_same _ _ _
    rw [e1] at h; cases h
  · subst e
    have e1 : (M.add id o C).κ id = some C := κset_same _ _ _
    rw [e1] at h3
    cases h3
    obtain ⟨k1, k2, k3⟩ := hb b h4
    refine ⟨fun j oj Cj hj q1 q2 q3 q4 => k1 ⟨j, oj, Cj, ?_, q2, ?_, q4⟩, k2, k3⟩
    · rw [← q1]; exact (hset_ne _ _ hj).symm
    · rw [← q3]; exact (κset_ne _ _ hj).symm
  · obtain ⟨id, o', D, h1, h2, h3, h4⟩ := hb'
    by_cases e : id = nm
    · subst e
      have e1 : (M.add id o C).κ id = some C := κset_same _ _ _
      rw [e1] at h3
      cases h3
      exact .inr h4
    · exact .inl ⟨id, o', D, by rw [← h1]; exact (hset_ne _ _ e).symm, h2, by rw [← h3]; exact (κset_ne _ _ e).symm, h4⟩

/-- The caller's memory beside the callee's. -/
structure Up (L Mc : Mst) : Prop where
  H : Mc.H = L.H
  G : Mc.G = L.G

theorem ORep_up {L Mc : Mst} (up : Up L Mc) {t : Ty} {xs : List t.den} {C : Conc} (h : ORep L (.arr true t xs) C) : ORep Mc (.arr true t xs) C := by
  obtain ⟨h1, h2, h3, h4⟩ := h
  refine ⟨h1, h2, h3, ?_⟩
  rw [up.H, up.G]
  exact h4

theorem ORep_up_mat {L Mc : Mst} (up : Up L Mc) {ver : Nat} {xs : List (List Int)} {C : Conc} (h : ORep L (.mat ver xs) C) : ORep Mc (.mat 0 xs) { C with ver := 0 } := by
  obtain ⟨h1, h2⟩ := h
  refine ⟨rfl, ?_⟩
  rw [up.H]
  exact h2

theorem ORep_up_pmat {L Mc : Mst} (up : Up L Mc) {ver n : Nat} {xs : List (List Int)} {C : Conc} (h : ORep L (.pmat ver xs n) C) (hn : xs.length = n) : ORep Mc (.mat 0 xs) { C with ver := 0 } := by
  obtain ⟨h1, h2, h3, h4, h5, _, h6⟩ := h
  refine ⟨rfl, by rw [hn]; exact h2, h3, h4, h5, ?_⟩
  rw [up.H]
  subst hn
  cases hB : C.blk with
  | none => rw [hB] at h6; exact List.eq_nil_of_length_eq_zero h6
  | some B => rw [hB] at h6; exact h6

theorem ORep_up_jun {L Mc : Mst} (up : Up L Mc) {xs : List (List Int)} {C : Conc} (h : ORep L (.arr true (.sl (.int .i64)) xs) C) : ORep Mc (.pmat 0 [] xs.length) { C with ver := 0 } := by
  obtain ⟨h1, h2, h3, h4⟩ := h
  have hr := h3 rfl
  refine ⟨rfl, h1, h2, by show C.rows.length = 0; rw [hr]; rfl, ?_, Nat.zero_le _, ?_⟩
  · simp only [Conc.fp, hr]
    cases C.blk <;> simp
  · cases hB : C.blk with
    | none => rw [hB] at h4; show xs.length = 0; rw [h4]; rfl
    | some B =>
      rw [hB] at h4
      obtain ⟨vals, e, h5, _, h7, _⟩ := h4
      refine ⟨vals, e, by rw [up.H]; exact h5, by simpa [Ty.size] using h7, fun i hi => by simp at hi⟩

theorem got_one {L Mc : Mst} (okL : Ok L) (ok : Ok Mc) (up : Up L Mc) {nm : Nat} (hnm : Mc.h nm = none) {r : RC} {c : CVal} {d : r.den} (h : outR L.h r c = some d)
    (hb : ∀ id ∈ ownIds [r] [c], ∀ C, L.κ id = some C → ∀ b ∈ C.fp, ¬ Own Mc b ∧ ¬ Mc.F b ∧ b < Mc.H.size) :
    ∃ Mc' : Mst, Mc'.H = Mc.H ∧ Mc'.G = Mc.G ∧ Mc'.F = Mc.F ∧ Mc'.h = happly Mc.h (gotR nm r d).2 ∧ Ok Mc' ∧ Ext Mc Mc' ∧
      (∀ b, Own Mc' b → Own Mc b ∨ ∃ id ∈ ownIds [r] [c], ∃ C, L.κ id = some C ∧ b ∈ C.fp) ∧ ∀ v, CRep L c v → CRep Mc' (gotR nm r d).1 v := by
  have same : (gotR nm r d).2 = [] → (∀ v, CRep L c v → CRep Mc (gotR nm r d).1 v) → _ := fun e hv => (⟨Mc, rfl, rfl, rfl, by rw [e]; rfl, ok, .refl Mc, fun b h => .inl h, hv⟩ :
    ∃ Mc' : Mst, Mc'.H = Mc.H ∧ Mc'.G = Mc.G ∧ Mc'.F = Mc.F ∧ Mc'.h = happly Mc.h (gotR nm r d).2 ∧ Ok Mc' ∧ Ext Mc Mc' ∧
      (∀ b, Own Mc' b → Own Mc b ∨ ∃ id ∈ ownIds [r] [c], ∃ C, L.κ id = some C ∧ b ∈ C.fp) ∧ ∀ v, CRep L c v → CRep Mc' (gotR nm r d).1 v)
  unfold outR at h
  split at h
  · rename_i k j n
    cases e : kindEq j k with
    | false => rw [e] at h; cases h
    | true =>
      rw [e] at h
      cases h
      exact same rfl fun v hv => by rw [← kindEq_spec e]; exact hv
  · cases h
    exact same rfl fun v hv => hv
  · obtain ⟨e, hx⟩ := castL_some h
    subst e
    subst hx
    refine same rfl fun v hv => ?_
    show ERep Mc.H Mc.G _ _ _
    rw [up.H, up.G]
    exact hv
  · cases h
    refine same rfl fun v hv => ?_
    rw [show v = .slice none 0 0 from hv]
    exact ERep_nil
  · rename_i t id
    split at h
    · rename_i s xs hid
      obtain ⟨e, hx⟩ := castL_some h
      subst e
      subst hx
      obtain ⟨C, hC, hO⟩ := okL.obj id _ hid
      obtain ⟨k1, k2, k3⟩ := Mst.add_ok ok hnm (o := .arr true s xs) (C := C) (ORep_up (Mc := Mc.add nm (.arr true s xs) C) ⟨up.H, up.G⟩ hO) (hb id (by simp [ownIds]) C hC)
      refine ⟨Mc.add nm (.arr true s xs) C, rfl, rfl, rfl, rfl, k1, k2, fun b hb' => (k3 b hb').imp (fun h => h) fun h => ⟨id, by simp [ownIds], C, hC, h⟩, fun v hv => ?_⟩
      obtain ⟨C', hC', hS⟩ := hv
      rw [hC] at hC'; cases hC'
      refine ⟨C, κset_same _ _ _, ?_⟩
      show SlV Mc.H C 0 C.len v
      rw [up.H]; exact hS
    · cases h
  · rename_i t id n
    split at h
    · rename_i s xs hid
      obtain ⟨e, hx⟩ := castL_some h
      subst e
      subst hx
      obtain ⟨C, hC, hO⟩ := okL.obj id _ hid
      let C' : Conc := { C with len := (xs.take n).length }
      have hO' : ORep (Mc.add nm (.arr true s (xs.take n)) C') (.arr true s (xs.take n)) C' := by
        obtain ⟨q1, q2, q3, q4⟩ := ORep_up (Mc := Mc.add nm (.arr true s (xs.take n)) C') ⟨up.H, up.G⟩ hO
        refine ⟨rfl, q2, q3, ?_⟩
        show match C.blk with
          | none => _
          | some B => _
        cases hB : C.blk with
        | none => rw [hB] at q4; show xs.take n = []; rw [q4]; simp
        | some B =>
          rw [hB] at q4
          obtain ⟨vals, e, r1, r2, r3, r4⟩ := q4
          have hle : (xs.take n).length ≤ xs.length := by rw [List.length_take]; omega
          have := Nat.mul_le_mul_right s.size hle
          refine ⟨vals, e, r1, r2, by omega, fun i hi => ?_⟩
          rw [List.getElem_take]
          exact r4 i (by omega)
      obtain ⟨k1, k2, k3⟩ := Mst.add_ok ok hnm (o := .arr true s (xs.take n)) (C := C') hO' (hb id (by simp [ownIds]) C hC)
      refine ⟨Mc.add nm (.arr true s (xs.take n)) C', rfl, rfl, rfl, rfl, k1, k2, fun b hb' => (k3 b hb').imp (fun h => h) fun h => ⟨id, by simp [ownIds], C, hC, h⟩, fun v hv => ?_⟩
      obtain ⟨C1, hC1, h1, hS, _⟩ := hv
      rw [hC] at hC1; cases hC1
      have hl : (xs.take n).length = n := by rw [List.length_take, ← hO.1]; omega
      refine ⟨C', κset_same _ _ _, ?_⟩
      show SlV Mc.H C' 0 (xs.take n).length v
      rw [hl, up.H]
      exact hS
    · cases h
  · rename_i t
    cases h
    obtain ⟨k1, k2, k3⟩ := Mc.nilObj_ok ok hnm t false
    refine ⟨Mc.nilObj nm (nilO t false) (nilSz t false), rfl, rfl, rfl, rfl, k1, k2, fun b hb' => .inl (k3 b hb'), fun v hv => ?_⟩
    rw [show v = .slice none 0 0 from hv]
    exact ⟨_, κset_same _ _ _, none, 0, rfl, rfl, rfl, rfl⟩
  · rename_i id
    split at h
    · rename_i ver xs hid
      cases h
      obtain ⟨C, hC, hO⟩ := okL.obj id _ hid
      obtain ⟨k1, k2, k3⟩ := Mst.add_ok ok hnm (o := .mat 0 d) (C := { C with ver := 0 }) (ORep_up_mat (Mc := Mc.add nm (.mat 0 d) { C with ver := 0 }) ⟨up.H, up.G⟩ hO) (hb id (by simp [ownIds]) C hC)
      refine ⟨Mc.add nm (.mat 0 d) { C with ver := 0 }, rfl, rfl, rfl, rfl, k1, k2, fun b hb' => (k3 b hb').imp (fun h => h) fun h => ⟨id, by simp [ownIds], C, hC, h⟩, fun v hv => ?_⟩
      obtain ⟨C', hC', hS⟩ := hv
      rw [hC] at hC'; cases hC'
      refine ⟨_, κset_same _ _ _, ?_⟩
      show SlV Mc.H C 0 C.len v
      rw [up.H]; exact hS
    · rename_i ver xs n hid
      obtain ⟨hc, h⟩ : Nat.beq xs.length n = true ∧ some xs = some d := by
        cases e : Nat.beq xs.length n with
        | true => rw [e] at h; exact ⟨rfl, h⟩
        | false => rw [e] at h; cases h
      cases h
      obtain ⟨C, hC, hO⟩ := okL.obj id _ hid
      obtain ⟨k1, k2, k3⟩ := Mst.add_ok ok hnm (o := .mat 0 d) (C := { C with ver := 0 }) (ORep_up_pmat (Mc := Mc.add nm (.mat 0 d) { C with ver := 0 }) ⟨up.H, up.G⟩ hO (Nat.eq_of_beq_eq_true hc)) (hb id (by simp [ownIds]) C hC)
      refine ⟨Mc.add nm (.mat 0 d) { C with ver := 0 }, rfl, rfl, rfl, rfl, k1, k2, fun b hb' => (k3 b hb').imp (fun h => h) fun h => ⟨id, by simp [ownIds], C, hC, h⟩, fun v hv => ?_⟩
      obtain ⟨C', hC', hS⟩ := hv
      rw [hC] at hC'; cases hC'
      refine ⟨_, κset_same _ _ _, ?_⟩
      show SlV Mc.H C 0 C.len v
      rw [up.H]; exact hS
    · cases h
  · cases h
    obtain ⟨k1, k2, k3⟩ := Mc.nilObj_ok ok hnm (.int .i64) true
    refine ⟨Mc.nilObj nm (nilO (.int .i64) true) (nilSz (.int .i64) true), rfl, rfl, rfl, rfl, k1, k2, fun b hb' => .inl (k3 b hb'), fun v hv => ?_⟩
    rw [show v = .slice none 0 0 from hv]
    exact ⟨_, κset_same _ _ _, none, 0, rfl, rfl, rfl, rfl⟩
  · rename_i id
    split at h
    · rename_i xs hid
      cases h
      obtain ⟨C, hC, hO⟩ := okL.obj id _ hid
      obtain ⟨k1, k2, k3⟩ := Mst.add_ok ok hnm (o := .pmat 0 [] xs.length) (C := { C with ver := 0 }) (ORep_up_jun (Mc := Mc.add nm (.pmat 0 [] xs.length) { C with ver := 0 }) ⟨up.H, up.G⟩ hO) (hb id (by simp [ownIds]) C hC)
      refine ⟨Mc.add nm (.pmat 0 [] xs.length) { C with ver := 0 }, rfl, rfl, rfl, rfl, k1, k2, fun b hb' => (k3 b hb').imp (fun h => h) fun h => ⟨id, by simp [ownIds], C, hC, h⟩, fun v hv => ?_⟩
      obtain ⟨C', hC', hS⟩ := hv
      rw [hC] at hC'; cases hC'
      refine ⟨_, κset_same _ _ _, ?_⟩
      show SlV Mc.H C 0 C.len v
      rw [up.H]; exact hS
    · cases h
  · cases h
    obtain ⟨k1, k2, k3⟩ := Mst.add_ok ok hnm (o := .pmat 0 [] 0) (C := ⟨none, 0, 1, 0, []⟩) ⟨rfl, rfl, rfl, rfl, by simp [Conc.fp], Nat.le_refl _, rfl⟩ (fun b hb => by simp [Conc.fp] at hb)
    refine ⟨Mc.add nm (.pmat 0 [] 0) ⟨none, 0, 1, 0, []⟩, rfl, rfl, rfl, rfl, k1, k2, fun b hb' => (k3 b hb').imp (fun h => h) fun h => by simp [Conc.fp] at h, fun v hv => ?_⟩
    rw [show v = .slice none 0 0 from hv]
    exact ⟨_, κset_same _ _ _, none, 0, rfl, rfl, rfl, rfl⟩
  · rename_i id
    split at h
    · rename_i kvs hid
      cases h
      obtain ⟨C, hC, hO⟩ := okL.obj id _ hid
      have hO' : ORep (Mc.add nm (.imap d) C) (.imap d) C := by
        obtain ⟨B, es, ck, h1, h2, h3, h4, h5⟩ := hO
        refine ⟨B, es, ck, h1, h2, ?_, h4, h5⟩
        show Mc.H[B]? = _
        rw [up.H]; exact h3
      obtain ⟨k1, k2, k3⟩ := Mst.add_ok ok hnm (o := .imap d) (C := C) hO' (hb id (by simp [ownIds]) C hC)
      refine ⟨Mc.add nm (.imap d) C, rfl, rfl, rfl, rfl, k1, k2, fun b hb' => (k3 b hb').imp (fun h => h) fun h => ⟨id, by simp [ownIds], C, hC, h⟩, fun v hv => ?_⟩
      obtain ⟨C', B, hC', hB, e⟩ := hv
      rw [hC] at hC'; cases hC'
      exact ⟨C, B, κset_same _ _ _, hB, e⟩
    · cases h
  · cases h

theorem ownIds_cons (r : RC) (c : CVal) (l : List RC) (cs : List CVal) : ownIds (r :: l) (c :: cs) = ownIds [r] [c] ++ ownIds l cs := by
  cases r <;> cases c <;> rfl

theorem gotR_names {nm : Nat} {r : RC} {d : r.den} {n : Nat} (h : n ≠ nm) (hh : Hp) : happly hh (gotR nm r d).2 n = hh n := by
  cases r <;> first | rfl | exact hset_ne _ _ h

theorem freeN_at {h : Hp} : ∀ {n nm : Nat}, freeN h nm n = true → ∀ i, i < n → h (nm + i) = none
  | n + 1, nm, e, i, hi => by
    unfold freeN at e
    rw [Bool.and_eq_true] at e
    cases i with
    | zero =>
      have := e.1
      split at this
      · assumption
      · cases this
    | succ i => rw [← freeN_at e.2 i (by omega)]; congr 1; omega

theorem got_all {L : Mst} (okL : Ok L) : ∀ {l : List RC} {cs : List CVal} {d : RL l} {nm : Nat} {Mc : Mst}, Ok Mc → Up L Mc → (∀ i, i < l.length → Mc.h (nm + i) = none) → outRL L.h l cs = some d → (ownIds l cs).Nodup →
    (∀ id ∈ ownIds l cs, ∃ o, L.h id = some o ∧ o.owned = true) →
    (∀ id ∈ ownIds l cs, ∀ C, L.κ id = some C → ∀ b ∈ C.fp, ¬ Own Mc b ∧ ¬ Mc.F b ∧ b < Mc.H.size) →
    ∃ Mc' : Mst, Mc'.H = Mc.H ∧ Mc'.G = Mc.G ∧ Mc'.F = Mc.F ∧ Mc'.h = happly Mc.h (gotL nm l d).2 ∧ Ok Mc' ∧ Ext Mc Mc' ∧
      (∀ b, Own Mc' b → Own Mc b ∨ ∃ id ∈ ownIds l cs, ∃ C, L.κ id = some C ∧ b ∈ C.fp) ∧ ∀ vs, All2 (CRep L) cs vs → All2 (CRep Mc') (gotL nm l d).1 vs
  | [], [], d, nm, Mc, ok, up, _, _, _, _, _ => ⟨Mc, rfl, rfl, rfl, rfl, ok, .refl Mc, fun b h => .inl h, fun vs h => by
    cases vs with
    | nil => trivial
    | cons _ _ => exact h.elim⟩
  | r :: l, c :: cs, d, nm, Mc, ok, up, hf, h, hnd, hown, hb => by
    unfold outRL at h
    split at h
    · rename_i x xs e1 e2
      cases h
      rw [ownIds_cons] at hnd hown hb
      obtain ⟨nd1, nd2, nd3⟩ := List.nodup_append.1 hnd
      obtain ⟨M1, a1, a2, a3, a4, a5, a6, a7, a8⟩ := got_one okL ok up (by have := hf 0 (by simp); simpa using this) e1 (fun id hid => hb id (List.mem_append_left _ hid))
      have up1 : Up L M1 := ⟨a1.trans up.H, a2.trans up.G⟩
      obtain ⟨M2, b1, b2, b3, b4, b5, b6, b7, b8⟩ := got_all okL (nm := nm + 1) a5 up1 (fun i hi => by
          rw [a4, gotR_names (by omega)]
          have := hf (i + 1) (by simp; omega)
          rw [← this]; congr 1; omega) e2 nd2 (fun id hid => hown id (List.mem_append_right _ hid)) (fun id hid C hC b hbC => by
          obtain ⟨q1, q2, q3⟩ := hb id (List.mem_append_right _ hid) C hC b hbC
          refine ⟨fun ho => ?_, by rw [a3]; exact q2, by rw [a1]; exact q3⟩
          rcases a7 b ho with ho | ⟨jd, hjd, D, hD, hbD⟩
          · exact q1 ho
          · have hne : id ≠ jd := fun e => nd3 jd hjd id hid e.symm
            obtain ⟨o1, p1, p2⟩ := hown id (List.mem_append_right _ hid)
            obtain ⟨o2, p3, p4⟩ := hown jd (List.mem_append_left _ hjd)
            exact okL.disj id jd o1 o2 C D b hne p1 p3 p2 p4 hC hD hbC hbD)
      refine ⟨M2, b1.trans a1, b2.trans a2, b3.trans a3, ?_, b5, a6.trans (by rw [a1]; exact Nat.le_refl _) b6, fun b hb' => ?_, fun vs hvs => ?_⟩
      · show M2.h = happly Mc.h ((gotR nm r x).2 ++ (gotL (nm + 1) l xs).2)
        rw [happly_append, ← a4]; exact b4
      · rw [ownIds_cons]
        rcases b7 b hb' with h | ⟨id, hid, C, h⟩
        · rcases a7 b h with h | ⟨id, hid, C, h⟩
          · exact .inl h
          · exact .inr ⟨id, List.mem_append_left _ hid, C, h⟩
        · exact .inr ⟨id, List.mem_append_right _ hid, C, h⟩
      · cases vs with
        | nil => exact hvs.elim
        | cons v vs => exact ⟨(a8 v hvs.1).ext b6, b8 vs hvs.2⟩
    · cases h
  | [], _ :: _, _, _, _, _, _, _, h, _, _, _ => by cases h
  | _ :: _, [], _, _, _, _, _, _, h, _, _, _ => by cases h
end Go.Ab
