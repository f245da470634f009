/- Slices. -/
import Derived.Test.YtpmkkfbnaohlhaaGiAb6
set_option linter.unusedVariables false
set_option linter.unusedSimpArgs false
namespace Go.Ab

theorem bound_run {P : Program} {w : World} {k : IntKind} {i : Int} {y : Nat} {c : BoundsCode} (h0 : 0 ≤ i) (h1 : i ≤ y) : (Instr.sliceBound (.int k i) y c).run P w = .ok i.toNat w := by
  simp [Instr.sliceBound, asIntOf, h0, h1]

def ORepV (M : Mst) : Option AVal → Option Value → Prop
  | none, none => True
  | some a, some v => VRep M a v
  | _, _ => False

theorem bounds_run {P : Program} {M : Mst} {w : World} {b : Bool} {len cap l u : Nat} {lo hi : Option AVal} {rlo rhi : Option Value} (hlo : ORepV M lo rlo) (hhi : ORepV M hi rhi) (hc : len ≤ cap)
    (h : cutB len lo hi = some (true, l, u)) : (Instr.sliceBounds b len cap rlo rhi none).run P w = .ok (l, u, cap) w ∧ l ≤ u ∧ u ≤ len ∧ (lo = none → l = 0) ∧ (hi = none → u = len) := by
  unfold cutB at h
  split at h
  · cases h
    cases rlo with
    | some _ => exact hlo.elim
    | none => cases rhi with
      | some _ => exact hhi.elim
      | none => exact ⟨by simp [Instr.sliceBounds], Nat.zero_le _, Nat.le_refl _, fun _ => rfl, fun _ => rfl⟩
  · rename_i k i
    simp only [Option.some.injEq, Prod.mk.injEq, Bool.and_eq_true, decide_eq_true_eq] at h
    obtain ⟨⟨h0, h1⟩, rfl, rfl⟩ := h
    cases rhi with
    | some _ => exact hhi.elim
    | none => cases rlo with
      | none => exact hlo.elim
      | some v =>
        have e : v = .int k i := hlo
        subst e
        refine ⟨?_, by omega, Nat.le_refl _, fun h => (by cases h), fun _ => rfl⟩
        simp only [Instr.sliceBounds, Sem.run_bind, Sem.run_pure, Result.andThen_ok]
        rw [bound_run h0 h1]
        rfl
  · rename_i k i
    simp only [Option.some.injEq, Prod.mk.injEq, Bool.and_eq_true, decide_eq_true_eq] at h
    obtain ⟨⟨h0, h1⟩, rfl, rfl⟩ := h
    cases rlo with
    | some _ => exact hlo.elim
    | none => cases rhi with
      | none => exact hhi.elim
      | some v =>
        have e : v = .int k i := hhi
        subst e
        refine ⟨?_, Nat.zero_le _, by omega, fun _ => rfl, fun h => (by cases h)⟩
        simp only [Instr.sliceBounds, Sem.run_bind, Sem.run_pure, Result.andThen_ok]
        rw [bound_run h0 (by omega)]
        rfl
  · rename_i k i k' i'
    simp only [Option.some.injEq, Prod.mk.injEq, Bool.and_eq_true, decide_eq_true_eq] at h
    obtain ⟨⟨⟨h0, h1⟩, h2⟩, rfl, rfl⟩ := h
    cases rlo with
    | none => exact hlo.elim
    | some v => cases rhi with
      | none => exact hhi.elim
      | some v' =>
        have e : v = .int k i := hlo
        have e' : v' = .int k' i' := hhi
        subst e; subst e'
        refine ⟨?_, by omega, by omega, fun h => (by cases h), fun h => (by cases h)⟩
        simp only [Instr.sliceBounds, Sem.run_bind, Sem.run_pure, Result.andThen_ok]
        rw [bound_run (by omega) (by omega)]
        simp only [Result.andThen_ok]
        rw [bound_run h0 (by omega)]
        rfl
  · cases h

def cutAddr (A : Option Addr) (l c size : Nat) : Option Addr := if c = l then A else A.map (·.add (l * size))

theorem SlV.cut {H : Array Go.Obj} {C : Conc} {lo n l u : Nat} {A : Option Addr} {c : Nat} (h : SlV H C lo n (.slice A n c)) (h1 : l ≤ u) (h2 : u ≤ n) :
    SlV H C (lo + l) (u - l) (.slice (cutAddr A l c C.sz) (u - l) (c - l)) := by
  obtain ⟨A', c', e, h⟩ := h
  simp only [Value.slice.injEq] at e
  obtain ⟨rfl, _, rfl⟩ := e
  refine ⟨_, _, rfl, ?_⟩
  cases hB : C.blk with
  | none =>
    rw [hB] at h
    obtain ⟨rfl, rfl, rfl⟩ := h
    refine ⟨?_, by omega, by omega⟩
    unfold cutAddr; split <;> rfl
  | some B =>
    rw [hB] at h
    obtain ⟨hc, a, rfl, ha, hs⟩ := h
    refine ⟨by omega, ?_⟩
    unfold cutAddr
    by_cases e : c = l
    · rw [if_pos e]
      exact ⟨a, rfl, .inl (by omega), by rw [show lo + l + (c - l) = lo + c by omega]; exact hs⟩
    · rw [if_neg e]
      refine ⟨a + l * C.sz, by simp [Addr.add_lit], .inr ?_, by rw [show lo + l + (c - l) = lo + c by omega]; exact hs⟩
      have : a = lo * C.sz := by rcases ha with ha | ha <;> omega
      rw [this, Nat.add_mul]

theorem SlV.cut' {H : Array Go.Obj} {C : Conc} {lo n l u : Nat} {A : Option Addr} {c : Nat} (h : SlV H C lo n (.slice A n c)) (h1 : l ≤ u) (h2 : u ≤ c) :
    SlV H C (lo + l) (u - l) (.slice (cutAddr A l c C.sz) (u - l) (c - l)) := by
  obtain ⟨A', c', e, h⟩ := h
  simp only [Value.slice.injEq] at e
  obtain ⟨rfl, _, rfl⟩ := e
  refine ⟨_, _, rfl, ?_⟩
  cases hB : C.blk with
  | none =>
    rw [hB] at h
    obtain ⟨rfl, rfl, rfl⟩ := h
    refine ⟨?_, by omega, by omega⟩
    unfold cutAddr; split <;> rfl
  | some B =>
    rw [hB] at h
    obtain ⟨hc, a, rfl, ha, hs⟩ := h
    refine ⟨by omega, ?_⟩
    unfold cutAddr
    by_cases e : c = l
    · rw [if_pos e]
      exact ⟨a, rfl, .inl (by omega), by rw [show lo + l + (c - l) = lo + c by omega]; exact hs⟩
    · rw [if_neg e]
      refine ⟨a + l * C.sz, by simp [Addr.add_lit], .inr ?_, by rw [show lo + l + (c - l) = lo + c by omega]; exact hs⟩
      have : a = lo * C.sz := by rcases ha with ha | ha <;> omega
      rw [this, Nat.add_mul]

theorem fsl_cut {H : Array Go.Obj} {F : Nat → Prop} {t : Ty} {xs : List t.den} {A : Option Addr} {n c l u : Nat} (h : ERep H F (.sl t) xs (fun _ => some (.slice A n c))) (h1 : l ≤ u) (h2 : u ≤ n) :
    ERep H F (.sl t) (slc xs l (u - l)) (fun _ => some (.slice (cutAddr A l c t.size) (u - l) (c - l))) := by
  simp only [ERep, Option.some.injEq, Value.slice.injEq] at h ⊢
  obtain ⟨A', n', c', ⟨rfl, rfl, rfl⟩, hn, hc, h⟩ := h
  have hl := slc_length (xs := xs) (lo := l) (n := u - l) (by omega)
  refine ⟨_, _, _, ⟨rfl, rfl, rfl⟩, hl.symm, by omega, ?_⟩
  by_cases e0 : u - l = 0
  · refine .inl ⟨List.eq_nil_of_length_eq_zero (by omega), fun hA => ?_⟩
    rcases h with ⟨rfl, h0⟩ | ⟨B, o, rfl, _⟩
    · cases A with
      | none => rw [h0 rfl]; omega
      | some a =>
        unfold cutAddr at hA
        split at hA <;> cases hA
    · unfold cutAddr at hA
      split at hA <;> cases hA
  · rcases h with ⟨rfl, _⟩ | ⟨B, o, rfl, hB, hE⟩
    · simp at hn; omega
    · refine .inr ⟨B, o + l * t.size, ?_, hB, fun i hi => ?_⟩
      · unfold cutAddr
        rw [if_neg (by omega)]
        simp [Addr.add_lit]
      · obtain ⟨hi', e1⟩ := slc_get hi
        rw [e1]
        have := hE (l + i) hi'
        rw [Nat.add_mul, ← Nat.add_assoc] at this
        exact this

theorem slice_run {P : Program} {w : World} {t e : TypeId} {A : Option Addr} {n c l u : Nat} {rlo rhi : Option Value} (hu : P.underlying t = some (.slice e)) (he : 0 < P.cellsOf e)
    (hb : (Instr.sliceBounds true n c rlo rhi none).run P w = .ok (l, u, c) w) :
    (Instr.sliceAt t (.slice A n c) rlo rhi none).run P w = .ok (.slice (cutAddr A l c (P.cellsOf e)) (u - l) (c - l)) w := by
  obtain ⟨y, hy⟩ := info_of_cells he
  simp only [Instr.sliceAt, Sem.run_bind, run_underlying hu, Result.andThen_ok, Instr.slice, hb, run_size w hy, Sem.run_pure, cutAddr]

theorem intsOf_some {M : Mst} : ∀ {vs : List CVal} {us : List Value} {ns : List Int}, intsOf vs = some ns → All2 (CRep M) vs us → us = ns.map (.int .i64 ·) ∧ vs = ns.map (.int .i64 ·)
  | [], [], ns, h, _ => by cases h; exact ⟨rfl, rfl⟩
  | v :: vs, u :: us, ns, h, hh => by
    unfold intsOf at h
    split at h
    · rename_i heq; cases heq
    · rename_i n l heq
      cases heq
      split at h
      · rename_i r hr
        cases h
        obtain ⟨e1, e2⟩ := intsOf_some hr hh.2
        have : u = .int .i64 n := hh.1
        rw [this, e1, e2]
        exact ⟨rfl, rfl⟩
      · cases h
    · cases h
  | [], _ :: _, _, _, hh => hh.elim
  | _ :: _, [], _, _, hh => hh.elim

theorem frz_box {M : Mst} (ok : Ok M) {id : Nat} {own : Bool} {cells : List CVal} (hid : M.h id = some (.box own cells)) :
    ∃ M', M'.H = M.H ∧ M'.h = hset M.h id (.box false cells) ∧ Ok M' ∧ Step M M' ∧ M'.h id = some (.box false cells) := by
  cases own with
  | false => exact ⟨M, rfl, (hset_self hid).symm, ok, Step.refl M, hid⟩
  | true =>
    obtain ⟨C, hC, hO⟩ := ok.obj id _ hid
    have hO' : ORep (M.freeze id (.box false cells) C) (.box false cells) C := by
      have x : Ext M (M.freeze id (.box false cells) C) := ⟨fun _ C h => ⟨C, h, C.le_refl⟩, fun _ h => .inl h, fun _ h => .inl h, fun _ _ => rfl, fun _ _ => rfl, fun _ _ => rfl⟩
      obtain ⟨B, vals, e, h1, h2, h3, h4, h5⟩ := hO.ext x fun _ _ _ => rfl
      exact ⟨B, vals, e, h1, h2, h3, h4, fun _ => .inr (fp_blk h1)⟩
    have := Mst.freeze_ok ok hid rfl hC rfl hO'
    exact ⟨M.freeze id _ C, rfl, rfl, this.1, this.2, hset_same _ _ _⟩

theorem sliceS_sound {P : Program} {M : Mst} {w : World} (ok : Ok M) (hM : M.H = w.heap) {t : TypeId} {x v : AVal} {lo hi mx : Option AVal} {u : Upd} {rx : Value} {rlo rhi rmx : Option Value}
    (hx : VRep M x rx) (hlo : ORepV M lo rlo) (hhi : ORepV M hi rhi) (hmx : ORepV M mx rmx) (h : Yields (sliceS P M.h t x lo hi mx) v u) : RunsV P (Instr.sliceAt t rx rlo rhi rmx) M w v u := by
  unfold sliceS at h
  split at h
  · rename_i e sh ty xs hu
    cases rmx with
    | some _ => exact hmx.elim
    | none =>
    obtain ⟨hz, h⟩ := bif_stuck h
    have hz := Nat.eq_of_beq_eq_true hz
    split at h
    · rename_i ok' l u' hc
      obtain ⟨rfl, rfl, rfl⟩ := yields_when h
      have hx' : ERep M.H (bif sh then M.G else M.F) (.sl ty) xs (fun _ => some rx) := hx
      have hx2 := hx'
      simp only [ERep, Option.some.injEq] at hx2
      obtain ⟨A, m, c, rfl, rfl, hc', _⟩ := hx2
      obtain ⟨b1, b2, b3, b4, b5⟩ := bounds_run (P := P) (w := w) (b := true) hlo hhi hc' hc
      refine RunsV.pure ok hM (slice_run hu (by rw [hz]; exact ty.size_pos) b1) ?_
      have key := fsl_cut hx' b2 b3
      rw [← hz] at key
      show ERep _ _ _ _ _
      split
      · rw [b4 rfl, b5 rfl] at key ⊢
        simpa [slc] using key
      · rw [b5 rfl] at key ⊢
        have : slc xs l (xs.length - l) = xs.drop l := by simp only [slc]; rw [List.take_of_length_le (by simp)]
        rw [this] at key
        exact key
      · rw [b4 rfl] at key ⊢
        simpa [slc] using key
      · exact key
    · exact h.elim
  · rename_i e id r hu
    cases rmx with
    | some _ => exact hmx.elim
    | none =>
    split at h
    · rename_i own ty xs hid
      obtain ⟨hz, h⟩ := bif_stuck h
      have hz := Nat.eq_of_beq_eq_true hz
      split at h
      · rename_i ok' l u' hc
        obtain ⟨rfl, rfl, rfl⟩ := yields_when h
        obtain ⟨C, hC, hS⟩ := hx
        obtain ⟨C', hC', hO⟩ := ok.obj _ _ hid
        rw [hC] at hC'; cases hC'
        have hlen := hO.1
        have hsz := hO.2.1
        have key : ∀ lo0 m, lo0 + m ≤ C.len → SlV M.H C lo0 m rx → CapV C lo0 rx → cutB (match hi with | none => m | some _ => C.len - lo0) lo hi = some (true, l, u') →
            RunsV P (Instr.sliceAt t rx rlo rhi none) M w (.c (.osl id (some (lo0 + l, u' - l)))) [] := by
          intro lo0 m hm hS' hcap hc'
          have hS0 := hS'
          clear hS
          obtain ⟨A, c, rfl, _⟩ := hS0
          obtain ⟨_, _, _, hcap, hcl⟩ := hcap
          cases hcap
          have hmc : m ≤ c := by
            obtain ⟨A', c', e, hS2⟩ := hS'
            simp only [Value.slice.injEq] at e
            obtain ⟨rfl, _, rfl⟩ := e
            cases hB : C.blk with
            | none => rw [hB] at hS2; omega
            | some B => rw [hB] at hS2; exact hS2.1
          have hb : ∃ k, (Instr.sliceBounds true m c rlo rhi none).run P w = .ok (l, u', c) w ∧ l ≤ u' ∧ u' ≤ k ∧ k ≤ c ∧ lo0 + k ≤ C.len := by
            cases hi with
            | none =>
              obtain ⟨b1, b2, b3, b4, b5⟩ := bounds_run (P := P) (w := w) (b := true) hlo hhi hmc hc'
              exact ⟨m, b1, b2, b3, hmc, hm⟩
            | some y =>
              have hk : C.len - lo0 ≤ c := by omega
              obtain ⟨b1, b2, b3, b4, b5⟩ := bounds_run (P := P) (w := w) (b := true) hlo hhi hk hc'
              refine ⟨C.len - lo0, ?_, b2, b3, hk, by omega⟩
              cases rhi with
              | none => exact hhi.elim
              | some ry => exact b1
          obtain ⟨k, b1, b2, b3, b6, b7⟩ := hb
          refine RunsV.pure ok hM (slice_run hu (by rw [hz]; exact ty.size_pos) b1) ⟨C, hC, by omega, ?_, _, _, _, rfl, by omega⟩
          have := SlV.cut' hS' b2 (show u' ≤ c by omega)
          rw [hz, ← hsz]
          exact this
        cases r with
        | none => exact key 0 C.len (by omega) hS (by
            obtain ⟨A, c, rfl, h⟩ := hS
            refine ⟨A, _, c, rfl, ?_⟩
            cases hB : C.blk with
            | none => rw [hB] at h; omega
            | some B => rw [hB] at h; have := h.1; omega) (by
            unfold cutLen at hc
            rw [← hlen] at hc
            cases hi <;> exact hc)
        | some p => exact key p.1 p.2 hS.1 hS.2.1 hS.2.2 (by
            unfold cutLen at hc
            rw [← hlen] at hc
            cases hi <;> exact hc)
      · exact h.elim
    · exact h.elim
  · rename_i e km m id hu
    split at h
    · rename_i own ty xs hid
      obtain ⟨hz, h⟩ := bif_stuck h
      have hz := Nat.eq_of_beq_eq_true hz
      split at h
      · skip
        rename_i a b ok' l u' _ hc
        obtain ⟨hok, rfl, rfl⟩ := yields_when h
        simp only [Bool.and_eq_true, decide_eq_true_eq] at hok
        obtain ⟨⟨hok, h1⟩, h2⟩ := hok
        subst hok
        obtain ⟨C, hC, hS⟩ := hx
        obtain ⟨C', hC', hO⟩ := ok.obj _ _ hid
        rw [hC] at hC'; cases hC'
        have hlen := hO.1
        obtain ⟨A, c, rfl, hS⟩ := hS
        have hmc : C.len ≤ c := by
          cases hB : C.blk with
          | none => rw [hB] at hS; omega
          | some B => rw [hB] at hS; exact hS.1
        cases rmx with
        | none => exact hmx.elim
        | some rm =>
          have hrm : rm = .int km m := hmx
          subst hrm
          obtain ⟨b1, b2, b3, b4, b5⟩ := bounds_run (P := P) (w := w) (b := true) hlo hhi (Nat.le_refl xs.length) hc
          obtain ⟨i, hi⟩ := info_of_cells (P := P) (t := e) (by rw [hz]; exact ty.size_pos)
          cases rlo with
          | none => exact hlo.elim
          | some rl => cases rhi with
            | none => exact hhi.elim
            | some rh =>
              have hbb : ∃ k1 i1 k2 i2, rl = .int k1 i1 ∧ rh = .int k2 i2 ∧ 0 ≤ i1 ∧ i1 ≤ i2 ∧ i2 ≤ (xs.length : Int) ∧ l = i1.toNat ∧ u' = i2.toNat := by
                unfold cutB at hc
                split at hc
                · rename_i e1 _; cases e1
                · rename_i e1; cases e1
                · rename_i e1 _; cases e1
                · rename_i k i k' i' e1 e2
                  cases e1; cases e2
                  simp only [Option.some.injEq, Prod.mk.injEq, Bool.and_eq_true, decide_eq_true_eq] at hc
                  obtain ⟨⟨⟨q0, q1⟩, q2⟩, rfl, rfl⟩ := hc
                  exact ⟨k, i, k', i', hlo, hhi, q0, q1, q2, rfl, rfl⟩
                · cases hc
              obtain ⟨k1, i1, k2, i2, rfl, rfl, q0, q1, q2, rfl, rfl⟩ := hbb
              have hr : ∃ v, (Instr.sliceAt t (.slice A C.len c) (some (.int k1 i1)) (some (.int k2 i2)) (some (.int km m))).run P w = .ok v w ∧ v.one1 = true := by
                refine ⟨.slice (if m.toNat = i1.toNat then A else A.map (·.add (i1.toNat * P.cellsOf e))) (i2.toNat - i1.toNat) (m.toNat - i1.toNat), ?_, rfl⟩
                have e1 := bound_run (P := P) (w := w) (k := km) (i := m) (y := c) (c := .slice3Acap) (by omega) (by omega)
                have e2 := bound_run (P := P) (w := w) (k := k2) (i := i2) (y := m.toNat) (c := .slice3B) (by omega) (by omega)
                have e3 := bound_run (P := P) (w := w) (k := k1) (i := i1) (y := i2.toNat) (c := .slice3C) (by omega) (by omega)
                simp [Instr.sliceAt, run_underlying hu, Instr.slice, Instr.sliceBounds, e1, e2, e3, run_size w hi]
              obtain ⟨v, hr, hv⟩ := hr
              exact RunsV.pure ok hM hr hv
      · exact h.elim
    · exact h.elim
  · rename_i n e id off hu
    cases rmx with
    | some _ => exact hmx.elim
    | none =>
    obtain ⟨hz, h⟩ := bif_stuck h
    have hz := Nat.eq_of_beq_eq_true hz
    obtain ⟨y, hy⟩ := info_of_cells (P := P) (t := e) (by omega)
    split at h
    · rename_i own cells hid
      obtain ⟨C, B, hC, hB, rfl⟩ := hx
      split at h
      · obtain ⟨_, h⟩ := bif_stuck h
        obtain ⟨rfl, rfl⟩ := yields_one h
        have hlo0 : rlo = none := by cases rlo with
          | none => rfl
          | some _ => exact hlo.elim
        have hhi0 : rhi = none := by cases rhi with
          | none => rfl
          | some _ => exact hhi.elim
        subst hlo0; subst hhi0
        refine RunsV.pure ok hM (rv := .slice (some ⟨B, off, none⟩) n n) ?_ ⟨C, B, hC, hB, rfl⟩
        simp [Instr.sliceAt, run_underlying hu, sure, Instr.sliceBounds, run_size w hy, Addr.add_lit]
      · split at h
        · rename_i vs hcut
          split at h
          · rename_i ns ok' l u' hns hc
            obtain ⟨rfl, rfl, rfl⟩ := yields_alt h
            obtain ⟨b1, b2, b3, b4, b5⟩ := bounds_run (P := P) (w := w) (b := false) hlo hhi (Nat.le_refl n) hc
            obtain ⟨M', a1, a2, a3, a4, a5⟩ := frz_box ok hid
            obtain ⟨C1, hC1, le⟩ := a4.ext.κ id C hC
            obtain ⟨C2, hC2, hO⟩ := a3.obj id _ a5
            rw [hC1] at hC2; cases hC2
            obtain ⟨B', vals, ev, k1, k2, k3, k4, k5⟩ := hO
            rw [le.blk, hB] at k1; cases k1
            obtain ⟨q1, q2, q3⟩ := cutCells_some hcut
            have hall := cut_all k4 hcut
            obtain ⟨e1, e2⟩ := intsOf_some hns hall
            have hlen : ns.length = n := by rw [e2] at q3; simpa [hz] using q3
            refine ⟨.slice (some (if n = l then ⟨B, off, none⟩ else ⟨B, off + l * P.cellsOf e, none⟩)) (u' - l) (n - l), w, M', ?_, rfl, rfl, rfl, a1.trans hM, a2, a3, a4, ?_⟩
            · simp [Instr.sliceAt, run_underlying hu, sure, b1, run_size w hy, Addr.add_lit]
            · show ERep M'.H (bif true then M'.G else M'.F) (.sl (.int .i64)) (slc ns l (u' - l)) (fun _ => some _)
              simp only [ERep, Option.some.injEq, Value.slice.injEq]
              have hl := slc_length (xs := ns) (lo := l) (n := u' - l) (by omega)
              refine ⟨_, _, _, ⟨rfl, rfl, rfl⟩, hl.symm, by omega, ?_⟩
              by_cases e0 : u' - l = 0
              · exact .inl ⟨List.eq_nil_of_length_eq_zero (by omega), fun h => by cases h⟩
              · refine .inr ⟨B, off + l * P.cellsOf e, by rw [if_neg (by omega)], k5 rfl, fun i hi => ?_⟩
                obtain ⟨hi', e3⟩ := slc_get hi
                rw [e3, hz]
                simp only [ERep, Ty.size, Nat.mul_one, Nat.add_zero, hcell, k3]
                have e4 : (vals.extract off (off + n)).toList[l + i]? = (ns.map (Value.int .i64 ·))[l + i]? := by rw [e1]
                simp only [Array.getElem?_toList, List.getElem?_map, List.getElem?_eq_getElem hi', Option.map_some] at e4
                rw [Array.getElem?_extract] at e4
                split at e4
                · rw [Nat.add_assoc]; exact e4
                · cases e4
          · exact h.elim
        · exact h.elim
    · exact h.elim
  · exact h.elim
end Go.Ab
