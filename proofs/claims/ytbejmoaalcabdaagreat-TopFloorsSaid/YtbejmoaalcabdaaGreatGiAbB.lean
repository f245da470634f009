/- part 1 -/
import Derived.Test.YtbejmoaalcabdaaGreatGiAbA
import Derived.Laws.BytesString
set_option linter.unusedVariables false
set_option linter.unusedSimpArgs false
namespace Go.Ab
theorem zIi {P : Program} {w : World} {k : IntKind} {i : Int} {y : Nat} {c : BoundsCode} (h0 : 0 ≤ i) (h1 : i ≤ y) : (Instr.sliceBound (.int k i) y c).run P w = .ok i.toNat w := by
 simp [Instr.sliceBound, asIntOf, h0, h1]
def zLj (M : zA) : Option zD → Option Value → Prop
 | none, none => True
 | some a, some v => zT M a v
 | _, _ => False
theorem zOk {P : Program} {M : zA} {w : World} {b : Bool} {len cap l u : Nat} {lo hi : Option zD} {rlo rhi : Option Value} (hlo : zLj M lo rlo) (hhi : zLj M hi rhi) (hc : len ≤ cap)
  (h : zFz len lo hi = some (true, l, u)) : (Instr.sliceBounds b len cap rlo rhi none).run P w = .ok (l, u, cap) w ∧ l ≤ u ∧ u ≤ len ∧ (lo = none → l = 0) ∧ (hi = none → u = len) := by
 unfold zFz at h
 split at h
 ·cases h
  cases rlo with
  | some _ => exact hlo.elim
  | none => cases rhi with
   | some _ => exact hhi.elim
   | none => exact ⟨by simp [Instr.sliceBounds], Nat.zero_le _, Nat.le_refl _, fun _ => rfl, fun _ => rfl⟩
 ·rename_i k i
  simp only [Option.some.injEq, Prod.mk.injEq, Bool.and_eq_true, decide_eq_true_eq] at h
  obtain ⟨⟨h0, h1⟩, rfl, rfl⟩ := h
  cases rhi with
  | some _ => exact hhi.elim
  | none => cases rlo with
   | none => exact hlo.elim
   | some v =>
    have e : v = .int k i := hlo
    subst e
    refine ⟨?_, by omega, Nat.le_refl _, fun h => (by cases h), fun _ => rfl⟩
    simp only [Instr.sliceBounds, Sem.run_bind, Sem.run_pure, Result.andThen_ok]
    rw [zIi h0 h1]
    rfl
 ·rename_i k i
  simp only [Option.some.injEq, Prod.mk.injEq, Bool.and_eq_true, decide_eq_true_eq] at h
  obtain ⟨⟨h0, h1⟩, rfl, rfl⟩ := h
  cases rlo with
  | some _ => exact hlo.elim
  | none => cases rhi with
   | none => exact hhi.elim
   | some v =>
    have e : v = .int k i := hhi
    subst e
    refine ⟨?_, Nat.zero_le _, by omega, fun _ => rfl, fun h => (by cases h)⟩
    simp only [Instr.sliceBounds, Sem.run_bind, Sem.run_pure, Result.andThen_ok]
    rw [zIi h0 (by omega)]
    rfl
 ·rename_i k i k' i'
  simp only [Option.some.injEq, Prod.mk.injEq, Bool.and_eq_true, decide_eq_true_eq] at h
  obtain ⟨⟨⟨h0, h1⟩, h2⟩, rfl, rfl⟩ := h
  cases rlo with
  | none => exact hlo.elim
  | some v => cases rhi with
   | none => exact hhi.elim
   | some v' =>
    have e : v = .int k i := hlo
    have e' : v' = .int k' i' := hhi
    subst e; subst e'
    refine ⟨?_, by omega, by omega, fun h => (by cases h), fun h => (by cases h)⟩
    simp only [Instr.sliceBounds, Sem.run_bind, Sem.run_pure, Result.andThen_ok]
    rw [zIi (by omega) (by omega)]
    simp only [Result.andThen_ok]
    rw [zIi h0 (by omega)]
    rfl
 ·cases h
def zCr (A : Option Addr) (l c size : Nat) : Option Addr := if c = l then A else A.map (·.add (l * size))
theorem vV.cut {H : Array Go.Obj} {C : zR} {lo n l u : Nat} {A : Option Addr} {c : Nat} (h : vV H C lo n (.slice A n c)) (h1 : l ≤ u) (h2 : u ≤ n) :
  vV H C (lo + l) (u - l) (.slice (zCr A l c C.sz) (u - l) (c - l)) := by
 obtain ⟨A', c', e, h⟩ := h
 simp only [Value.slice.injEq] at e
 obtain ⟨rfl, _, rfl⟩ := e
 refine ⟨_, _, rfl, ?_⟩
 cases hB : C.blk with
 | none =>
  rw [hB] at h
  obtain ⟨rfl, rfl, rfl⟩ := h
  refine ⟨?_, by omega, by omega⟩
  unfold zCr; split <;> rfl
 | some B =>
  rw [hB] at h
  obtain ⟨hc, a, rfl, ha, hs⟩ := h
  refine ⟨by omega, ?_⟩
  unfold zCr
  by_cases e : c = l
  ·rw [if_pos e]
   exact ⟨a, rfl, .inl (by omega), by rw [show lo + l + (c - l) = lo + c by omega]; exact hs⟩
  ·rw [if_neg e]
   refine ⟨a + l * C.sz, by simp [Addr.add_lit], .inr ?_, by rw [show lo + l + (c - l) = lo + c by omega]; exact hs⟩
   have : a = lo * C.sz := by rcases ha with ha | ha <;> omega
   rw [this, Nat.add_mul]
theorem vV.cut' {H : Array Go.Obj} {C : zR} {lo n l u : Nat} {A : Option Addr} {c : Nat} (h : vV H C lo n (.slice A n c)) (h1 : l ≤ u) (h2 : u ≤ c) :
  vV H C (lo + l) (u - l) (.slice (zCr A l c C.sz) (u - l) (c - l)) := by
 obtain ⟨A', c', e, h⟩ := h
 simp only [Value.slice.injEq] at e
 obtain ⟨rfl, _, rfl⟩ := e
 refine ⟨_, _, rfl, ?_⟩
 cases hB : C.blk with
 | none =>
  rw [hB] at h
  obtain ⟨rfl, rfl, rfl⟩ := h
  refine ⟨?_, by omega, by omega⟩
  unfold zCr; split <;> rfl
 | some B =>
  rw [hB] at h
  obtain ⟨hc, a, rfl, ha, hs⟩ := h
  refine ⟨by omega, ?_⟩
  unfold zCr
  by_cases e : c = l
  ·rw [if_pos e]
   exact ⟨a, rfl, .inl (by omega), by rw [show lo + l + (c - l) = lo + c by omega]; exact hs⟩
  ·rw [if_neg e]
   refine ⟨a + l * C.sz, by simp [Addr.add_lit], .inr ?_, by rw [show lo + l + (c - l) = lo + c by omega]; exact hs⟩
   have : a = lo * C.sz := by rcases ha with ha | ha <;> omega
   rw [this, Nat.add_mul]
theorem yZb {H : Array Go.Obj} {F : Nat → Prop} {t : Ty} {xs : List t.den} {A : Option Addr} {n c l u : Nat} (h : zW H F (.sl t) xs (fun _ => some (.slice A n c))) (h1 : l ≤ u) (h2 : u ≤ n) :
  zW H F (.sl t) (qY xs l (u - l)) (fun _ => some (.slice (zCr A l c t.size) (u - l) (c - l))) := by
 simp only [zW, Option.some.injEq, Value.slice.injEq] at h ⊢
 obtain ⟨A', n', c', ⟨rfl, rfl, rfl⟩, hn, hc, h⟩ := h
 have hl := zMk (xs := xs) (lo := l) (n := u - l) (by omega)
 refine ⟨_, _, _, ⟨rfl, rfl, rfl⟩, hl.symm, by omega, ?_⟩
 by_cases e0 : u - l = 0
 ·refine .inl ⟨List.eq_nil_of_length_eq_zero (by omega), fun hA => ?_⟩
  rcases h with ⟨rfl, h0⟩ | ⟨B, o, rfl, _⟩
  ·cases A with
   | none => rw [h0 rfl]; omega
   | some a =>
    unfold zCr at hA
    split at hA <;> cases hA
  ·unfold zCr at hA
   split at hA <;> cases hA
 ·rcases h with ⟨rfl, _⟩ | ⟨B, o, rfl, hB, hE⟩
  ·simp at hn; omega
  ·refine .inr ⟨B, o + l * t.size, ?_, hB, fun i hi => ?_⟩
   ·unfold zCr
    rw [if_neg (by omega)]
    simp [Addr.add_lit]
   ·obtain ⟨hi', e1⟩ := zTu hi
    rw [e1]
    have := hE (l + i) hi'
    rw [Nat.add_mul, ← Nat.add_assoc] at this
    exact this
theorem yFu {P : Program} {w : World} {t e : TypeId} {A : Option Addr} {n c l u : Nat} {rlo rhi : Option Value} (hu : P.underlying t = some (.slice e)) (he : 0 < P.cellsOf e)
  (hb : (Instr.sliceBounds true n c rlo rhi none).run P w = .ok (l, u, c) w) :
  (Instr.sliceAt t (.slice A n c) rlo rhi none).run P w = .ok (.slice (zCr A l c (P.cellsOf e)) (u - l) (c - l)) w := by
 obtain ⟨y, hy⟩ := zDr he
 simp only [Instr.sliceAt, Sem.run_bind, run_underlying hu, Result.andThen_ok, Instr.slice, hb, zAu w hy, Sem.run_pure, zCr]
theorem yMv {M : zA} : ∀ {vs : List zG} {us : List Value} {ns : List Int}, zHm vs = some ns → zO (zV M) vs us → us = ns.map (.int .i64 ·) ∧ vs = ns.map (.int .i64 ·)
 | [], [], ns, h, _ => by cases h; exact ⟨rfl, rfl⟩
 | v :: vs, u :: us, ns, h, hh => by
  unfold zHm at h
  split at h
  ·rename_i heq; cases heq
  ·rename_i n l heq
   cases heq
   split at h
   ·rename_i r hr
    cases h
    obtain ⟨e1, e2⟩ := yMv hr hh.2
    have : u = .int .i64 n := hh.1
    rw [this, e1, e2]
    exact ⟨rfl, rfl⟩
   ·cases h
  ·cases h
 | [], _ :: _, _, _, hh => hh.elim
 | _ :: _, [], _, _, hh => hh.elim
theorem qRb {M : zA} (ok : Ok M) {id : Nat} {own : Bool} {cells : List zG} (hid : M.h id = some (.box own cells)) :
  ∃ M', M'.H = M.H ∧ M'.h = yC M.h id (.box false cells) ∧ Ok M' ∧ yO M M' ∧ M'.h id = some (.box false cells) := by
 cases own with
 | false => exact ⟨M, rfl, (zL7 hid).symm, ok, yO.refl M, hid⟩
 | true =>
  obtain ⟨C, hC, hO⟩ := ok.obj id _ hid
  have hO' : yM (M.freeze id (.box false cells) C) (.box false cells) C := by
   have x : yG M (M.freeze id (.box false cells) C) := ⟨fun _ C h => ⟨C, h, C.le_refl⟩, fun _ h => .inl h, fun _ h => .inl h, fun _ _ => rfl, fun _ _ => rfl, fun _ _ => rfl⟩
   obtain ⟨B, vals, e, h1, h2, h3, h4, h5⟩ := hO.ext x fun _ _ _ => rfl
   exact ⟨B, vals, e, h1, h2, h3, h4, fun _ => .inr (wW h1)⟩
  have := zA.freeze_ok ok hid rfl hC rfl hO'
  exact ⟨M.freeze id _ C, rfl, rfl, this.1, this.2, yB _ _ _⟩
theorem yR2 {P : Program} {M : zA} {w : World} (ok : Ok M) (hM : M.H = w.heap) {t : TypeId} {x v : zD} {lo hi mx : Option zD} {u : zX} {rx : Value} {rlo rhi rmx : Option Value}
  (hx : zT M x rx) (hlo : zLj M lo rlo) (hhi : zLj M hi rhi) (hmx : zLj M mx rmx) (h : yD (zMx P M.h t x lo hi mx) v u) : qI P (Instr.sliceAt t rx rlo rhi rmx) M w v u := by
 unfold zMx at h
 split at h
 ·rename_i e sh ty xs hu
  cases rmx with
  | some _ => exact hmx.elim
  | none =>
  obtain ⟨hz, h⟩ := jT h
  have hz := Nat.eq_of_beq_eq_true hz
  split at h
  ·rename_i ok' l u' hc
   obtain ⟨rfl, rfl, rfl⟩ := zCk h
   have hx' : zW M.H (bif sh then M.G else M.F) (.sl ty) xs (fun _ => some rx) := hx
   have hx2 := hx'
   simp only [zW, Option.some.injEq] at hx2
   obtain ⟨A, m, c, rfl, rfl, hc', _⟩ := hx2
   obtain ⟨b1, b2, b3, b4, b5⟩ := zOk (P := P) (w := w) (b := true) hlo hhi hc' hc
   refine qI.pure ok hM (yFu hu (by rw [hz]; exact ty.size_pos) b1) ?_
   have key := yZb hx' b2 b3
   rw [← hz] at key
   show zW _ _ _ _ _
   split
   ·rw [b4 rfl, b5 rfl] at key ⊢
    simpa [qY] using key
   ·rw [b5 rfl] at key ⊢
    have : qY xs l (xs.length - l) = xs.drop l := by simp only [qY]; rw [List.take_of_length_le (by simp)]
    rw [this] at key
    exact key
   ·rw [b4 rfl] at key ⊢
    simpa [qY] using key
   ·exact key
  ·exact h.elim
 ·rename_i e id r hu
  cases rmx with
  | some _ => exact hmx.elim
  | none =>
  split at h
  ·rename_i own ty xs hid
   obtain ⟨hz, h⟩ := jT h
   have hz := Nat.eq_of_beq_eq_true hz
   split at h
   ·rename_i ok' l u' hc
    obtain ⟨rfl, rfl, rfl⟩ := zCk h
    obtain ⟨C, hC, hS⟩ := hx
    obtain ⟨C', hC', hO⟩ := ok.obj _ _ hid
    rw [hC] at hC'; cases hC'
    have hlen := hO.1
    have hsz := hO.2.1
    have key : ∀ lo0 m, lo0 + m ≤ C.len → vV M.H C lo0 m rx → qI4 C lo0 rx → zFz (match hi with | none => m | some _ => C.len - lo0) lo hi = some (true, l, u') →
      qI P (Instr.sliceAt t rx rlo rhi none) M w (.c (.osl id (some (lo0 + l, u' - l)))) [] := by
     intro lo0 m hm hS' hcap hc'
     have hS0 := hS'
     clear hS
     obtain ⟨A, c, rfl, _⟩ := hS0
     obtain ⟨_, _, _, hcap, hcl⟩ := hcap
     cases hcap
     have hmc : m ≤ c := by
      obtain ⟨A', c', e, hS2⟩ := hS'
      simp only [Value.slice.injEq] at e
      obtain ⟨rfl, _, rfl⟩ := e
      cases hB : C.blk with
      | none => rw [hB] at hS2; omega
      | some B => rw [hB] at hS2; exact hS2.1
     have hb : ∃ k, (Instr.sliceBounds true m c rlo rhi none).run P w = .ok (l, u', c) w ∧ l ≤ u' ∧ u' ≤ k ∧ k ≤ c ∧ lo0 + k ≤ C.len := by
      cases hi with
      | none =>
       obtain ⟨b1, b2, b3, b4, b5⟩ := zOk (P := P) (w := w) (b := true) hlo hhi hmc hc'
       exact ⟨m, b1, b2, b3, hmc, hm⟩
      | some y =>
       have hk : C.len - lo0 ≤ c := by omega
       obtain ⟨b1, b2, b3, b4, b5⟩ := zOk (P := P) (w := w) (b := true) hlo hhi hk hc'
       refine ⟨C.len - lo0, ?_, b2, b3, hk, by omega⟩
       cases rhi with
       | none => exact hhi.elim
       | some ry => exact b1
     obtain ⟨k, b1, b2, b3, b6, b7⟩ := hb
     refine qI.pure ok hM (yFu hu (by rw [hz]; exact ty.size_pos) b1) ⟨C, hC, by omega, ?_, _, _, _, rfl, by omega⟩
     have := vV.cut' hS' b2 (show u' ≤ c by omega)
     rw [hz, ← hsz]
     exact this
    cases r with
    | none => exact key 0 C.len (by omega) hS (by
      obtain ⟨A, c, rfl, h⟩ := hS
      refine ⟨A, _, c, rfl, ?_⟩
      cases hB : C.blk with
      | none => rw [hB] at h; omega
      | some B => rw [hB] at h; have := h.1; omega) (by
      unfold qDu at hc
      rw [← hlen] at hc
      cases hi <;> exact hc)
    | some p => exact key p.1 p.2 hS.1 hS.2.1 hS.2.2 (by
      unfold qDu at hc
      rw [← hlen] at hc
      cases hi <;> exact hc)
   ·exact h.elim
  ·exact h.elim
 ·rename_i e km m id hu
  split at h
  ·rename_i own ty xs hid
   obtain ⟨hz, h⟩ := jT h
   have hz := Nat.eq_of_beq_eq_true hz
   split at h
   ·skip
    rename_i a b ok' l u' _ hc
    obtain ⟨hok, rfl, rfl⟩ := zCk h
    simp only [Bool.and_eq_true, decide_eq_true_eq] at hok
    obtain ⟨⟨hok, h1⟩, h2⟩ := hok
    subst hok
    obtain ⟨C, hC, hS⟩ := hx
    obtain ⟨C', hC', hO⟩ := ok.obj _ _ hid
    rw [hC] at hC'; cases hC'
    have hlen := hO.1
    obtain ⟨A, c, rfl, hS⟩ := hS
    have hmc : C.len ≤ c := by
     cases hB : C.blk with
     | none => rw [hB] at hS; omega
     | some B => rw [hB] at hS; exact hS.1
    cases rmx with
    | none => exact hmx.elim
    | some rm =>
     have hrm : rm = .int km m := hmx
     subst hrm
     obtain ⟨b1, b2, b3, b4, b5⟩ := zOk (P := P) (w := w) (b := true) hlo hhi (Nat.le_refl xs.length) hc
     obtain ⟨i, hi⟩ := zDr (P := P) (t := e) (by rw [hz]; exact ty.size_pos)
     cases rlo with
     | none => exact hlo.elim
     | some rl => cases rhi with
      | none => exact hhi.elim
      | some rh =>
       have hbb : ∃ k1 i1 k2 i2, rl = .int k1 i1 ∧ rh = .int k2 i2 ∧ 0 ≤ i1 ∧ i1 ≤ i2 ∧ i2 ≤ (xs.length : Int) ∧ l = i1.toNat ∧ u' = i2.toNat := by
        unfold zFz at hc
        split at hc
        ·rename_i e1 _; cases e1
        ·rename_i e1; cases e1
        ·rename_i e1 _; cases e1
        ·rename_i k i k' i' e1 e2
         cases e1; cases e2
         simp only [Option.some.injEq, Prod.mk.injEq, Bool.and_eq_true, decide_eq_true_eq] at hc
         obtain ⟨⟨⟨q0, q1⟩, q2⟩, rfl, rfl⟩ := hc
         exact ⟨k, i, k', i', hlo, hhi, q0, q1, q2, rfl, rfl⟩
        ·cases hc
       obtain ⟨k1, i1, k2, i2, rfl, rfl, q0, q1, q2, rfl, rfl⟩ := hbb
       have hr : ∃ v, (Instr.sliceAt t (.slice A C.len c) (some (.int k1 i1)) (some (.int k2 i2)) (some (.int km m))).run P w = .ok v w ∧ v.one1 = true := by
        refine ⟨.slice (if m.toNat = i1.toNat then A else A.map (·.add (i1.toNat * P.cellsOf e))) (i2.toNat - i1.toNat) (m.toNat - i1.toNat), ?_, rfl⟩
        have e1 := zIi (P := P) (w := w) (k := km) (i := m) (y := c) (c := .slice3Acap) (by omega) (by omega)
        have e2 := zIi (P := P) (w := w) (k := k2) (i := i2) (y := m.toNat) (c := .slice3B) (by omega) (by omega)
        have e3 := zIi (P := P) (w := w) (k := k1) (i := i1) (y := i2.toNat) (c := .slice3C) (by omega) (by omega)
        simp [Instr.sliceAt, run_underlying hu, Instr.slice, Instr.sliceBounds, e1, e2, e3, zAu w hi]
       obtain ⟨v, hr, hv⟩ := hr
       exact qI.pure ok hM hr hv
   ·exact h.elim
  ·exact h.elim
 ·rename_i n e id off hu
  cases rmx with
  | some _ => exact hmx.elim
  | none =>
  obtain ⟨hz, h⟩ := jT h
  have hz := Nat.eq_of_beq_eq_true hz
  obtain ⟨y, hy⟩ := zDr (P := P) (t := e) (by omega)
  split at h
  ·rename_i own cells hid
   obtain ⟨C, B, hC, hB, rfl⟩ := hx
   split at h
   ·obtain ⟨_, h⟩ := jT h
    obtain ⟨rfl, rfl⟩ := vL h
    have hlo0 : rlo = none := by cases rlo with
     | none => rfl
     | some _ => exact hlo.elim
    have hhi0 : rhi = none := by cases rhi with
     | none => rfl
     | some _ => exact hhi.elim
    subst hlo0; subst hhi0
    refine qI.pure ok hM (rv := .slice (some ⟨B, off, none⟩) n n) ?_ ⟨C, B, hC, hB, rfl⟩
    simp [Instr.sliceAt, run_underlying hu, zBc, Instr.sliceBounds, zAu w hy, Addr.add_lit]
   ·split at h
    ·rename_i vs hcut
     split at h
     ·rename_i ns ok' l u' hns hc
      obtain ⟨rfl, rfl, rfl⟩ := jZ h
      obtain ⟨b1, b2, b3, b4, b5⟩ := zOk (P := P) (w := w) (b := false) hlo hhi (Nat.le_refl n) hc
      obtain ⟨M', a1, a2, a3, a4, a5⟩ := qRb ok hid
      obtain ⟨C1, hC1, le⟩ := a4.ext.κ id C hC
      obtain ⟨C2, hC2, hO⟩ := a3.obj id _ a5
      rw [hC1] at hC2; cases hC2
      obtain ⟨B', vals, ev, k1, k2, k3, k4, k5⟩ := hO
      rw [le.blk, hB] at k1; cases k1
      obtain ⟨q1, q2, q3⟩ := zO0 hcut
      have hall := qTd k4 hcut
      obtain ⟨e1, e2⟩ := yMv hns hall
      have hlen : ns.length = n := by rw [e2] at q3; simpa [hz] using q3
      refine ⟨.slice (some (if n = l then ⟨B, off, none⟩ else ⟨B, off + l * P.cellsOf e, none⟩)) (u' - l) (n - l), w, M', ?_, rfl, rfl, rfl, a1.trans hM, by cases own with
       | true => exact a2
       | false => rw [a2]; exact zL7 hid, a3, a4, ?_⟩
      ·simp [Instr.sliceAt, run_underlying hu, zBc, b1, zAu w hy, Addr.add_lit]
      ·show zW M'.H (bif true then M'.G else M'.F) (.sl (.int .i64)) (qY ns l (u' - l)) (fun _ => some _)
       simp only [zW, Option.some.injEq, Value.slice.injEq]
       have hl := zMk (xs := ns) (lo := l) (n := u' - l) (by omega)
       refine ⟨_, _, _, ⟨rfl, rfl, rfl⟩, hl.symm, by omega, ?_⟩
       by_cases e0 : u' - l = 0
       ·exact .inl ⟨List.eq_nil_of_length_eq_zero (by omega), fun h => by cases h⟩
       ·refine .inr ⟨B, off + l * P.cellsOf e, by rw [if_neg (by omega)], k5 rfl, fun i hi => ?_⟩
        obtain ⟨hi', e3⟩ := zTu hi
        rw [e3, hz]
        simp only [zW, Ty.size, Nat.mul_one, Nat.add_zero, qW, k3]
        have e4 : (vals.extract off (off + n)).toList[l + i]? = (ns.map (Value.int .i64 ·))[l + i]? := by rw [e1]
        simp only [Array.getElem?_toList, List.getElem?_map, List.getElem?_eq_getElem hi', Option.map_some] at e4
        rw [Array.getElem?_extract] at e4
        split at e4
        ·rw [Nat.add_assoc]; exact e4
        ·cases e4
     ·exact h.elim
    ·exact h.elim
  ·exact h.elim
 ·exact h.elim
def zA.move (M : zA) (nm : Nat) (C : zR) (h : Hp) (H : Array Go.Obj) : zA := { M with κ := κset M.κ nm C, h := h, H := H }
theorem zA.move_ok {M : zA} (ok : Ok M) {nm : Nat} {o' : Obj} {C' : zR} {h' : Hp} {H' : Array Go.Obj} (J : Nat → Prop) (hnm : M.h nm = none)
    (hJ : ∀ j, J j → ∃ o, M.h j = some o ∧ o.owned = true ∧ h' j = some .gone) (hnew : h' nm = some o') (hrest : ∀ n, ¬ J n → n ≠ nm → h' n = M.h n) (hsz : M.H.size ≤ H'.size)
    (hH : ∀ b, b < M.H.size → (∀ j C, J j → M.κ j = some C → b ∉ C.fp) → H'[b]? = M.H[b]?) (hbs : ∀ b, b < M.H.size → qR H' b = qR M.H b)
    (hfp : ∀ b ∈ C'.fp, (M.H.size ≤ b ∧ b < H'.size) ∨ ∃ j C, J j ∧ M.κ j = some C ∧ b ∈ C.fp)
    (hO : yG M (M.move nm C' h' H') → yM (M.move nm C' h' H') o' C') : Ok (M.move nm C' h' H') ∧ yO M (M.move nm C' h' H') := by
  have hJo : ∀ j C b, J j → M.κ j = some C → b ∈ C.fp → qN M b := fun j C b hj hC hb => by
    obtain ⟨o, h1, h2, _⟩ := hJ j hj
    exact ⟨j, o, C, h1, h2, hC, hb⟩
  have hnF : ∀ b, M.F b → ∀ j C, J j → M.κ j = some C → b ∉ C.fp := fun b hF j C hj hC hb => (ok.own b (hJo j C b hj hC hb)).1 hF
  have x : yG M (M.move nm C' h' H') :=
    { κ := fun n D h => by
        have : n ≠ nm := fun e => by rw [e, ok.non nm hnm] at h; cases h
        exact ⟨D, by simp only [zA.move]; rw [κset_ne _ _ this]; exact h, D.le_refl⟩
      F := fun _ h => h
      G := fun _ h => h
      same := fun b h => hH b (ok.Flt b h) (hnF b h)
      sameG := fun b h => hH b (ok.Flt b (ok.GF b h)) (hnF b (ok.GF b h))
      bsz := hbs }
  have hJnm : ∀ j, J j → j ≠ nm := fun j hj e => by
    obtain ⟨o, h1, _⟩ := hJ j hj
    rw [e, hnm] at h1; cases h1
  have hget : ∀ n q, n ≠ nm → h' n = some q → q.owned = true → ¬ J n ∧ M.h n = some q := by
    intro n q e h1 h2
    by_cases hj : J n
    · obtain ⟨o, _, _, k⟩ := hJ n hj
      rw [k] at h1
      cases h1
      cases h2
    · exact ⟨hj, by rw [← hrest n hj e]; exact h1⟩
  have hOwn : ∀ b, qN (M.move nm C' h' H') b → (M.H.size ≤ b ∧ b < H'.size) ∨ qN M b := by
    rintro b ⟨n, q, D, h1, h2, h3, h4⟩
    by_cases e : n = nm
    · subst e
      simp only [zA.move, κset_same, Option.some.injEq] at h3
      subst h3
      rcases hfp b h4 with h | ⟨j, C, hj, hC, hb⟩
      · exact .inl h
      · exact .inr (hJo j C b hj hC hb)
    · obtain ⟨_, h1'⟩ := hget n q e h1 h2
      simp only [zA.move] at h3
      rw [κset_ne _ _ e] at h3
      exact .inr ⟨n, q, D, h1', h2, h3, h4⟩
  refine ⟨ok.build x (fun n => n = nm ∨ J n) (fun n hn => hrest n (fun hj => hn (.inr hj)) (fun e => hn (.inl e))) (fun n hn => κset_ne _ _ fun e => hn (.inl e)) ?_ ?_ hsz ?_ ?_ ?_ ok.GF ?_, x, hsz, ?_, ?_, fun b h _ => .inl h, fun b h _ => .inl h⟩
  · intro n q D hn h1 h2 h3 b hb
    refine hH b (ok.own b ⟨n, q, D, h1, h2, h3, hb⟩).2 fun j C hj hC hc => ?_
    obtain ⟨o, k1, k2, _⟩ := hJ j hj
    exact ok.disj n j q o D C b (fun e => hn (.inr (e ▸ hj))) h1 k1 h2 k2 h3 hC hb hc
  · intro n q D hn h1 h2 h3 b hb
    exact (ok.own b ⟨n, q, D, h1, h2, h3, hb⟩).1
  · rintro n q (rfl | hj) h1
    · simp only [zA.move] at h1
      rw [hnew] at h1; cases h1
      exact ⟨C', κset_same _ _ _, hO x⟩
    · obtain ⟨o, k1, _, k⟩ := hJ n hj
      simp only [zA.move] at h1
      rw [k] at h1; cases h1
      obtain ⟨C, hC, _⟩ := ok.obj n o k1
      exact ⟨C, by simp only [zA.move]; rw [κset_ne _ _ (hJnm n hj)]; exact hC, trivial⟩
  · rintro n (rfl | hj) h1
    · simp only [zA.move] at h1
      rw [hnew] at h1; cases h1
    · obtain ⟨o, _, _, k⟩ := hJ n hj
      simp only [zA.move] at h1
      rw [k] at h1; cases h1
  · rintro n q D b (rfl | hj) h1 h2 h3 hb
    · simp only [zA.move, κset_same, Option.some.injEq] at h3
      subst h3
      rcases hfp b hb with hnew' | ⟨j, C, hj, hC, hb'⟩
      · refine ⟨fun k qk Dk hk k1 k2 k3 k4 => ?_, fun hF => ?_, hnew'.2⟩
        · obtain ⟨_, k1'⟩ := hget k qk hk k1 k2
          simp only [zA.move] at k3
          rw [κset_ne _ _ hk] at k3
          have := (ok.own b ⟨k, qk, Dk, k1', k2, k3, k4⟩).2
          omega
        · have := ok.Flt b hF
          omega
      · have ho := ok.own b (hJo j C b hj hC hb')
        refine ⟨fun k qk Dk hk k1 k2 k3 k4 => ?_, ho.1, by simp only [zA.move]; omega⟩
        obtain ⟨hkJ, k1'⟩ := hget k qk hk k1 k2
        simp only [zA.move] at k3
        rw [κset_ne _ _ hk] at k3
        obtain ⟨o, j1, j2, _⟩ := hJ j hj
        exact ok.disj k j qk o Dk C b (fun e => hkJ (e ▸ hj)) k1' j1 k2 j2 k3 hC k4 hb'
    · obtain ⟨o, _, _, k⟩ := hJ n hj
      simp only [zA.move] at h1
      rw [k] at h1; cases h1
      cases h2
  · intro b hb
    have := ok.Flt b hb
    simp only [zA.move]; omega
  · intro b hb hn
    exact hH b hb fun j C hj hC hc => hn (hJo j C b hj hC hc)
  · intro b hb hlt
    rcases hOwn b hb with h | h
    · omega
    · exact h
theorem qTo {P : Program} {M : zA} {w : World} (ok : Ok M) (hM : M.H = w.heap) {nm : Nat} {vs : List zG} {us : Array Value} {e : TypeId} {s : Sem Value} (hnm : M.h nm = none)
  (hvs : zO (zV M) vs us.toList) (hr : s.run P w = .ok (.pointer (some ⟨w.heap.size, 0, none⟩)) (w.alloc (.cells us e))) :
  qI P s M w (.c (.ptr nm 0)) [(nm, .box true vs)] := by
 let C : zR := ⟨some M.H.size, 0, 0, 0, []⟩
 have := zA.new_ok ok hnm (.box true vs) C (.cells us e) (by simp [C, zR.fp]) (by
  refine ⟨M.H.size, us, e, rfl, rfl, zIt, hvs.mono fun _ _ h => h.ext (zA.new_ext ok hnm _ _ _), fun h => (by cases h)⟩)
 exact ⟨_, _, _, hr, rfl, rfl, rfl, by show M.H.push _ = w.heap.push _; rw [hM], rfl, this.1, this.2, C, M.H.size, κset_same _ _ _, rfl, by rw [hM]⟩
theorem zPe {H : Array Go.Obj} {F : Nat → Prop} : ∀ (t : Ty) (rd : Nat → Option Value), (∀ j, j < t.size → rd j = (jX t)[j]?) → zW H F t t.dflt rd
 | .int k, rd, h => by simp only [zW, Ty.dflt]; rw [h 0 (by simp [Ty.size])]; rfl
 | .bool, rd, h => by simp only [zW, Ty.dflt]; rw [h 0 (by simp [Ty.size])]; rfl
 | .sl t, rd, h => by
  simp only [zW, Ty.dflt]
  exact ⟨none, 0, 0, by rw [h 0 (by simp [Ty.size])]; rfl, rfl, Nat.le_refl _, .inl ⟨by trivial, fun _ => rfl⟩⟩
 | .pair a b, rd, h => by
  have hl : ∀ t : Ty, (jX t).length = t.size := by
   intro t
   induction t with
   | pair a b iha ihb => simp [jX, Ty.size, iha, ihb]
   | _ => rfl
  simp only [zW, Ty.dflt]
  simp only [Ty.size, jX] at h
  refine ⟨zPe a rd fun j hj => ?_, zPe b _ fun j hj => ?_⟩
  ·rw [h j (by omega), List.getElem?_append_left (by rw [hl]; exact hj)]
  ·rw [h _ (by omega), List.getElem?_append_right (by rw [hl]; omega), hl]
   congr 1; omega
theorem zHc : ∀ t : Ty, (jX t).length = t.size
 | .int _ | .bool | .sl _ => rfl
 | .pair a b => by simp [jX, Ty.size, zHc a, zHc b]
theorem yVe {a b : Value} (h : qBf a b = true) : a = b := by
 unfold qBf at h
 split at h
 ·simp only [Bool.and_eq_true, decide_eq_true_eq] at h
  rw [zG3 h.1, h.2]
 ·rename_i x y
  cases x <;> cases y <;> first | rfl | cases h
 ·rfl
 ·cases h
theorem qYg : ∀ {l m : List Value}, zR3 l m = true → l = m
 | [], [], _ => rfl
 | a :: l, b :: m, h => by
  simp only [zR3, Bool.and_eq_true] at h
  rw [yVe h.1, qYg h.2]
 | [], _ :: _, h => by cases h
 | _ :: _, [], h => by cases h
theorem zEq {P : Program} {e : TypeId} {t : Ty} (h : zAz P e = some t) : ∃ i z, P.info? e = some i ∧ i.zero = some z ∧ i.size = t.size ∧ z.cells.toList = jX t ∧ P.cellsOf e = t.size ∧ P.bytesOf e = i.bytes ∧ z.cells.size = t.size := by
 unfold zAz at h
 split at h
 ·rename_i t' i h1 h2
  split at h
  ·rename_i z hz
   cases hb : (Nat.beq i.size t'.size && zR3 z.cells.toList (jX t')) with
   | false => rw [hb] at h; cases h
   | true =>
    rw [hb] at h
    cases h
    simp only [Bool.and_eq_true] at hb
    have e1 := Nat.eq_of_beq_eq_true hb.1
    have e2 := qYg hb.2
    refine ⟨i, z, h2, hz, e1, e2, by rw [qNm h2]; exact e1, vB9 h2, ?_⟩
    have := congrArg List.length e2
    rw [zHc] at this
    simpa using this
  ·cases h
 ·cases h
theorem yGs {z : Value} {t : Ty} (h : z.cells.toList = jX t) (hs : z.cells.size = t.size) {i j : Nat} (hj : j < t.size) : z.cells[(i * t.size + j) % z.cells.size]! = (jX t)[j]'(by rw [zHc]; exact hj) := by
 have e1 : (i * t.size + j) % z.cells.size = j := by rw [hs, Nat.mul_comm, Nat.mul_add_mod, Nat.mod_eq_of_lt hj]
 rw [e1, getElem!_pos z.cells j (by omega)]
 have : z.cells.toList[j]'(by simp; omega) = (jX t)[j]'(by rw [zHc]; exact hj) := by simp only [h]
 simpa using this
theorem qXw {H : Array Go.Obj} {F : Nat → Prop} {z : Value} {t : Ty} (h : z.cells.toList = jX t) (hs : z.cells.size = t.size) {n i : Nat} (hi : i < n) :
  zW H F t t.dflt (fun j => (madeCells z.cells (n * t.size))[i * t.size + j]?) := by
 refine zPe t _ fun j hj => ?_
 have hrow := Nat.mul_le_mul_right t.size (show i + 1 ≤ n by omega)
 rw [Nat.add_mul] at hrow
 rw [List.getElem?_eq_getElem (by rw [zHc]; exact hj), ← yGs h hs (i := i) hj]
 simp only [madeCells]
 rw [Array.getElem?_map, Array.getElem?_range]
 simp only [show i * t.size + j < n * t.size by omega, if_true, Option.map_some]
theorem yLv {P : Program} {M : zA} {w : World} (ok : Ok M) (hM : M.H = w.heap) {nm : Nat} {t : Ty} {xs : List t.den} {us : Array Value} {e : TypeId} {s : Sem Value} {c : Nat} (hnm : M.h nm = none)
  (hc : xs.length ≤ c) (hs : c * t.size ≤ us.size) (hx : ∀ i (h : i < xs.length), zW M.H M.G t xs[i] (fun j => us[i * t.size + j]?))
  (hr : s.run P w = .ok (.slice (some ⟨w.heap.size, 0, none⟩) xs.length c) (w.alloc (.cells us e))) :
  qI P s M w (.c (.osl nm none)) [(nm, .arr true t xs)] := by
 let C : zR := ⟨some M.H.size, xs.length, t.size, 0, []⟩
 have x := zA.new_ext ok hnm (.arr true t xs) C (.cells us e)
 have hle := Nat.mul_le_mul_right t.size hc
 have := zA.new_ok ok hnm (.arr true t xs) C (.cells us e) (by simp [C, zR.fp]) (by
  refine ⟨rfl, rfl, fun _ => rfl, us, e, zIt, fun h => (by cases h), by omega, fun i hi => ?_⟩
  exact yL x.G x.sameG t _ _ _ (fun _ _ => rfl) (hx i hi))
 refine ⟨_, _, _, hr, rfl, rfl, rfl, by show M.H.push _ = w.heap.push _; rw [hM], rfl, this.1, this.2, C, κset_same _ _ _, _, c, rfl, ?_⟩
 refine ⟨hc, 0, by rw [hM], .inr (by simp), ?_⟩
 simp only [Nat.zero_add]
 have : qR (M.H.push (.cells us e)) M.H.size = us.size := by simp [qR]
 show c * t.size ≤ qR (M.H.push (.cells us e)) M.H.size
 rw [this]; exact hs
theorem vFe {P : Program} {M : zA} {w : World} (ok : Ok M) (hM : M.H = w.heap) {nm : Nat} {t : TypeId} {zs : List zG} (hnm : M.h nm = none) (hz : zeroCells P t = some zs) :
  qI P (Instr.alloc t true (.tuple #[])) M w (.c (.ptr nm 0)) [(nm, .box true zs)] := by
 obtain ⟨i, v, h1, h2, h3, h4, rfl⟩ := qRw hz
 refine qTo ok hM hnm (us := v.cells) (e := t) (zUt M h4) ?_
 simp [Instr.alloc, zeroValue, typeInfo, h1, h2, newVar, newRow]
theorem qR3 {P : Program} {M : zA} {w : World} (ok : Ok M) (hM : M.H = w.heap) {nm : Nat} {t : TypeId} {x : zD} {rx : Value} {vs : List zG} (hnm : M.h nm = none) (hx : zT M x rx) (hv : zCu x = some vs) :
  qI P (Instr.box t rx) M w (.c (.ptr nm 0)) [(nm, .box true vs)] := by
 refine qTo ok hM hnm (us := rx.cells) (e := t) (zX2 hv hx) ?_
 simp [Instr.box, newVar, newRow]
theorem yX4 {P : Program} {M : zA} {w : World} (ok : Ok M) (hM : M.H = w.heap) {nm : Nat} {t : TypeId} {x : zD} {rx : Value} {vs : List zG} (hnm : M.h nm = none) (hx : zT M x rx) (hv : zCu x = some vs) (m : Bool) :
  qI P (Instr.box t rx) M w (.c (.ptr nm 0)) [(nm, .box (!m) vs)] := by
 cases m with
 | false => exact qR3 ok hM hnm hx hv
 | true =>
  obtain ⟨rv, w', M', a1, a2, a3, a4, a5, a6, a7, a8, a9⟩ := qR3 (P := P) (t := t) ok hM hnm hx hv
  have hid : M'.h nm = some (.box true vs) := by rw [a6]; exact yB _ _ _
  obtain ⟨M2, b1, b2, b3, b4, b5⟩ := qRb a7 hid
  refine ⟨rv, w', M2, a1, a2, a3, a4, b1.trans a5, ?_, b3, a8.trans b4, a9.ext b4.ext⟩
  rw [b2, a6]
  funext n
  show yC (yC M.h nm _) nm _ n = yC M.h nm _ n
  by_cases e : n = nm
  ·subst e; rw [yB, yB]; rfl
  ·rw [yE _ _ e, yE _ _ e, yE _ _ e]
theorem qRf {α : Type} {n i : Nat} {a : α} (h : i < (List.replicate n a).length) : (List.replicate n a)[i] = a := by simp
theorem yU6 {P : Program} {M : zA} {w : World} (ok : Ok M) (hM : M.H = w.heap) {nm n : Nat} {us : Array Value} {e : TypeId} {s : Sem Value} {c : Nat} (hnm : M.h nm = none)
  (hc : n ≤ c) (hs : c ≤ us.size) (hx : ∀ i, i < n → us[i]? = some (.slice none 0 0))
  (hr : s.run P w = .ok (.slice (some ⟨w.heap.size, 0, none⟩) n c) (w.alloc (.cells us e))) :
  qI P s M w (.c (.osl nm none)) [(nm, .mat 0 (List.replicate n []))] := by
 let C : zR := ⟨some M.H.size, n, 1, 0, List.replicate n (none, 0)⟩
 have hfm : (List.replicate n ((none, 0) : Option Nat × Nat)).filterMap (·.1) = [] := by
  rw [List.filterMap_eq_nil_iff]
  intro a ha
  rw [List.eq_of_mem_replicate ha]
 have hfp : C.fp = [M.H.size] := by simp [C, zR.fp, hfm]
 have := zA.new_ok ok hnm (.mat 0 (List.replicate n [])) C (.cells us e) (by rw [hfp]; simp) (by
  refine ⟨rfl, by simp [C], rfl, by simp [C], by rw [hfp]; simp, us, e, zIt, by simp; omega, fun i hi => ?_⟩
  have hin : i < n := by simpa using hi
  refine ⟨none, .slice none 0 0, by simp [C, hin], hx i hin, ⟨rfl, by simp⟩, fun R hR => (by cases hR)⟩)
 refine ⟨_, _, _, hr, rfl, rfl, rfl, by show M.H.push _ = w.heap.push _; rw [hM], rfl, this.1, this.2, C, κset_same _ _ _, _, c, rfl, ?_⟩
 refine ⟨hc, 0, by rw [hM], .inr (by simp), ?_⟩
 simp only [Nat.zero_add]
 have : qR (M.H.push (.cells us e)) M.H.size = us.size := by simp [qR]
 show c * 1 ≤ qR (M.H.push (.cells us e)) M.H.size
 rw [this]; omega
theorem yYj {P : Program} {M : zA} {w : World} (ok : Ok M) (hM : M.H = w.heap) {mat : Bool} {nm : Nat} {t : TypeId} {l c v : zD} {u : zX} {rl rc : Value} (hl : zT M l rl) (hc : zT M c rc)
  (h : yD (zM8 P mat nm M.h t l c) v u) : qI P (Instr.makeSlice t rl rc) M w v u := by
 unfold zM8 at h
 split at h
 ·rename_i e l c hu hnm
  have e1 : rl = .int .i64 l := hl
  have e2 : rc = .int .i64 c := hc
  subst e1; subst e2
  cases mat with
  | true =>
   simp only [cond_true] at h
   split at h
   ·rename_i hty
    obtain ⟨hok, rfl, rfl⟩ := jZ h
    obtain ⟨i, z, h1, h2, h3, h4, h5, h6, h7⟩ := zEq hty
    simp only [Bool.and_eq_true, decide_eq_true_eq] at hok
    obtain ⟨⟨⟨o1, o2⟩, o3⟩, o4⟩ := hok
    have hr := run_make (P := P) w t e i z hu h1 h2 .i64 .i64 l c o1 o2 (by rw [h6] at o3; rw [Int.mul_comm]; omega) (by omega)
    have hsz : i.size = 1 := h3
    rw [hsz, Nat.mul_one] at hr
    refine yU6 ok hM hnm (n := l.toNat) (c := c.toNat) (by omega) (by rw [size_madeCells]; exact Nat.le_refl _) (fun k hk => ?_) hr
    have hz0 : z.cells.toList = [.slice none 0 0] := h4
    have hz1 : z.cells.size = 1 := h7
    simp only [madeCells]
    rw [Array.getElem?_map, Array.getElem?_range]
    simp only [show k < c.toNat by omega, if_true, Option.map_some, hz1, Nat.mod_one]
    rw [getElem!_pos z.cells 0 (by omega)]
    have : z.cells.toList[0]'(by simp; omega) = .slice none 0 0 := by simp only [hz0, List.getElem_cons_zero]
    simpa using this
   ·exact h.elim
  | false =>
   simp only [cond_false] at h
   split at h
   ·rename_i ty hty
    obtain ⟨hok, rfl, rfl⟩ := jZ h
    obtain ⟨i, z, h1, h2, h3, h4, h5, h6, h7⟩ := zEq hty
    simp only [Bool.and_eq_true, decide_eq_true_eq] at hok
    obtain ⟨⟨⟨o1, o2⟩, o3⟩, o4⟩ := hok
    have hr := run_make (P := P) w t e i z hu h1 h2 .i64 .i64 l c o1 o2 (by rw [h6] at o3; rw [Int.mul_comm]; omega) (by omega)
    rw [h3] at hr
    refine yLv ok hM hnm (c := c.toNat) (us := madeCells z.cells (c.toNat * ty.size)) (e := e) (by simp; omega) (by rw [size_madeCells]; exact Nat.le_refl _) (fun k hk => ?_) (by simpa using hr)
    rw [qRf hk]
    simp only [List.length_replicate] at hk
    exact qXw h4 h7 (by omega)
   ·exact h.elim
 ·exact h.elim
theorem qQ9 (off : Nat) : ∀ (l : List Value) (k : Nat) (cells : Array Value), off + k + l.length ≤ cells.size →
  (l.zipIdx k).foldl (fun (cs : Array Value) (p : Value × Nat) => cs.setIfInBounds (off + p.2) p.1) cells = yJ cells (off + k) l
 | [], k, cells, h => by
  apply Array.ext_getElem?
  intro j
  rw [wJ h]
  simp only [List.zipIdx_nil, List.foldl_nil, List.length_nil]
  split
  ·rfl
  ·rw [if_neg (by omega)]
 | c :: l, k, cells, h => by
  simp only [List.length_cons] at h
  simp only [List.zipIdx_cons, List.foldl_cons]
  rw [qQ9 off l (k + 1) _ (by rw [Array.size_setIfInBounds]; omega)]
  apply Array.ext_getElem?
  intro j
  rw [wJ (by rw [Array.size_setIfInBounds]; omega), wJ (by simp only [List.length_cons]; omega)]
  simp only [List.length_cons]
  by_cases e : j = off + k
  ·subst e
   rw [if_pos (by omega), if_neg (by omega), if_pos (by omega)]
   simp [show off + k < cells.size by omega]
  ·have e2 : (cells.setIfInBounds (off + k) c)[j]? = cells[j]? := by rw [Array.getElem?_setIfInBounds_ne (Ne.symm e)]
   simp only [e2]
   by_cases h1 : j < off + k
   ·rw [if_pos (by omega), if_pos h1]
   ·rw [if_neg (by omega), if_neg h1]
    by_cases h2 : j < off + (k + 1) + l.length
    ·rw [if_pos h2, if_pos (by omega)]
     obtain ⟨m, hm⟩ : ∃ m, j - (off + k) = m + 1 := ⟨j - (off + k) - 1, by omega⟩
     rw [hm, List.getElem?_cons_succ]
     congr 1; omega
    ·rw [if_neg h2, if_neg (by omega)]
theorem qM1 (place : Nat → Option (Nat × Nat)) (cells : Array Value) (i : Nat) (v : Value) (rest : List (Nat × Value)) (off size : Nat) (h : place i = some (off, size)) (h1 : v.cells.size = size) (h2 : off + size ≤ cells.size) :
  Instr.fill place cells ((i, v) :: rest) = Instr.fill place (yJ cells off v.cells.toList) rest := by
 have hc : ¬ (v.cells.size ≠ size || decide (off + v.cells.size > cells.size)) = true := by
  simp only [ne_eq, bne_iff_ne, Bool.or_eq_true, decide_eq_true_eq, not_or]
  exact ⟨fun hn => hn h1, by omega⟩
 simp only [Instr.fill, h]
 rw [if_neg hc]
 congr 1
 rw [← Array.foldl_toList, Array.toList_zipIdx]
 have := qQ9 off v.cells.toList 0 cells (by simp; omega)
 rw [Nat.add_zero] at this
 exact this
def zIx (M : zA) : (Nat × zD) → (Nat × Value) → Prop := fun p q => p.1 = q.1 ∧ zT M p.2 q.2
theorem qJj {M : zA} {place : Nat → Option (Nat × Nat)} : ∀ {parts : List (Nat × zD)} {rparts : List (Nat × Value)} {cells out : List zG} {vals : Array Value}, zO (zV M) cells vals.toList →
  zO (zIx M) parts rparts → zQy place cells parts = some out → ∃ res, Instr.fill place vals rparts = some res ∧ zO (zV M) out res.toList
 | [], [], cells, out, vals, hc, _, h => by cases h; exact ⟨vals, rfl, hc⟩
 | (i, v) :: parts, (i', rv) :: rparts, cells, out, vals, hc, hp, h => by
  obtain ⟨⟨hi, hv⟩, hp⟩ := hp
  dsimp only at hi hv
  subst hi
  unfold zQy at h
  split at h
  ·rename_i off size vs hpl hvs
   cases hb : (Nat.beq vs.length size && Nat.ble (off + size) cells.length) with
   | false => rw [hb] at h; cases h
   | true =>
    rw [hb] at h
    simp only [cond_true] at h
    simp only [Bool.and_eq_true] at hb
    have b1 := Nat.eq_of_beq_eq_true hb.1
    have b2 := Nat.le_of_ble_eq_true hb.2
    split at h
    ·rename_i cells' hput
     obtain ⟨p1, rfl⟩ := qCy _ _ _ _ hput
     have hrep := zX2 hvs hv
     have hl := hrep.length
     have hl2 := hc.length
     simp only [Array.length_toList] at hl hl2
     have qW := qIn (yG.refl M) hc hrep (off := off) (by rw [Array.length_toList]; omega)
     obtain ⟨res, h1, h2⟩ := qJj qW hp h
     exact ⟨res, by rw [qM1 place vals i rv rparts off size hpl (by omega) (by omega)]; exact h1, h2⟩
    ·cases h
  ·cases h
 | [], _ :: _, _, _, _, _, hh, _ => hh.elim
 | _ :: _, [], _, _, _, _, hh, _ => hh.elim
theorem yKi {P : Program} (w : World) : ∀ (l : List Field), l.all (fun f => (P.info? f.type).isSome) = true →
  (l.mapM fun f => (do pure (f.offset, ← sizeOf f.type) : Sem (Nat × Nat))).run P w = .ok (l.map fun f => (f.offset, P.cellsOf f.type)) w
 | [], _ => by simp
 | f :: l, h => by
  simp only [List.all_cons, Bool.and_eq_true] at h
  obtain ⟨i, hi⟩ := Option.isSome_iff_exists.1 h.1
  rw [List.mapM_cons]
  simp only [Sem.run_bind, zAu w hi, Result.andThen_ok, Sem.run_pure, yKi w l h.2, List.map_cons]
theorem yYf {P : Program} {M : zA} {w : World} (ok : Ok M) (hM : M.H = w.heap) {t : TypeId} {parts : List (Nat × zD)} {rparts : List (Nat × Value)} {v : zD} {u : zX} (hp : zO (zIx M) parts rparts)
  (h : yD (qC5 P t parts) v u) : qI P (Instr.build t rparts.toArray) M w v u := by
 unfold qC5 at h
 split at h
 ·exact h.elim
 ·rename_i zero hz
  obtain ⟨i, z, h1, h2, h3, h4, rfl⟩ := qRw hz
  have hzero := zUt M h4
  split at h
  ·rename_i fs hs
   obtain ⟨hall, h⟩ := jT h
   split at h
   ·rename_i cells hf
    obtain ⟨rfl, rfl⟩ := vL h
    have hpl : (fun (j : Nat) => (fs[j]?).map fun (f : Field) => (f.offset, P.cellsOf f.type)) = (fun (j : Nat) => (fs.toList.map fun f => (f.offset, P.cellsOf f.type)).toArray[j]?) := by
     funext j; simp
    rw [hpl] at hf
    obtain ⟨res, k1, k2⟩ := qJj hzero hp hf
    refine qI.pure ok hM (rv := .agg res) ?_ ⟨res, rfl, k2⟩
    have hm := yKi (P := P) w fs.toList hall
    simp only [Instr.build, zeroValue, Sem.run_bind, qA0 w h1, Result.andThen_ok, h2, Sem.run_pure, run_underlying hs, Array.mapM_eq_mapM_toList, Sem.run_map, hm]
    rw [k1]
    rfl
   ·exact h.elim
  ·rename_i n e hs
   obtain ⟨hall, h⟩ := jT h
   obtain ⟨y, hy⟩ := Option.isSome_iff_exists.1 hall
   split at h
   ·rename_i cells hf
    obtain ⟨rfl, rfl⟩ := vL h
    obtain ⟨res, k1, k2⟩ := qJj hzero hp hf
    refine qI.pure ok hM (rv := .agg res) ?_ ⟨res, rfl, k2⟩
    simp only [Instr.build, zeroValue, Sem.run_bind, qA0 w h1, Result.andThen_ok, h2, Sem.run_pure, run_underlying hs, zAu w hy]
    rw [k1]
    rfl
   ·exact h.elim
  ·exact h.elim
theorem qI.after {P : Program} {s : Sem Value} {M M1 : zA} {w : World} {v : zD} {u1 u2 : zX} (h1 : M1.h = qE M.h u1) (st : yO M M1) (h : qI P s M1 w v u2) : qI P s M w v (u1 ++ u2) := by
 obtain ⟨rv, w', M', a1, a2, a3, a4, a5, a6, a7, a8, a9⟩ := h
 exact ⟨rv, w', M', a1, a2, a3, a4, a5, by rw [a6, h1, zBj], a7, st.trans a8, a9⟩
theorem vY.fresh {h0 h : Hp} (hf : vY h0 h) {n : Nat} (hn : h0 n = none) : h n = none := by
 rcases hf n with e | ⟨o, t, xs, e1, _⟩ | ⟨o, xs, e1, _⟩
 ·rw [e]; exact hn
 ·rw [hn] at e1; cases e1
 ·rw [hn] at e1; cases e1
theorem qWa {t : Ty} {vs : List zG} {x : t.den} (h : zP1 t vs = some x) : vs.length = t.size ∧ zEx t t.dflt 0 vs = some x := by
 unfold zP1 at h
 cases hb : Nat.beq vs.length t.size with
 | false => rw [hb] at h; cases h
 | true => rw [hb] at h; exact ⟨Nat.eq_of_beq_eq_true hb, h⟩
theorem vHt {M : zA} {t : Ty} {vs : List zG} {us : List Value} {x : t.den} (h : zP1 t vs = some x) (hv : zO (zV M) vs us) {rd : Nat → Option Value} (hr : ∀ i, i < us.length → rd i = us[i]?) : zW M.H M.G t x rd := by
 obtain ⟨h1, h2⟩ := qWa h
 have hl := hv.length
 refine qOk t vs us t.dflt x 0 (fun j => (jX t)[j]?) rd (zPe t _ fun _ _ => rfl) h2 hv (fun i hi => by rw [Nat.zero_add]; exact hr i hi) (fun j hj hjs => by omega)
theorem qSs {h0 : Hp} {t : Ty} {n : Nat} : ∀ {parts : List (Nat × zD)} {rparts : List (Nat × Value)} {xs out : List t.den} {vals : Array Value} {u : zX} {M : zA}, Ok M → vY h0 M.h → xs.length = n → vals.size = n * t.size →
  (∀ k (h : k < xs.length), zW M.H M.G t xs[k] (fun j => vals[k * t.size + j]?)) → (∀ p ∈ parts, p.1 < n) → zO (zIx M) parts rparts → zCy h0 t xs parts = some (out, u) →
  ∃ res M', Instr.fill (fun i => some (i * t.size, t.size)) vals rparts = some res ∧ M'.H = M.H ∧ M'.h = qE M.h u ∧ Ok M' ∧ yO M M' ∧ vY h0 M'.h ∧ out.length = n ∧ res.size = n * t.size ∧
   (∀ k (h : k < out.length), zW M'.H M'.G t out[k] (fun j => res[k * t.size + j]?))
 | [], [], xs, out, vals, u, M, ok, hf, hx, hs, hE, _, _, h => by
  cases h
  exact ⟨vals, M, rfl, rfl, rfl, ok, yO.refl M, hf, hx, hs, hE⟩
 | (i, v) :: parts, (i', rv) :: rparts, xs, out, vals, u, M, ok, hf, hx, hs, hE, hlt, hp, h => by
  obtain ⟨⟨hi, hv⟩, hp⟩ := hp
  dsimp only at hi hv
  subst hi
  unfold zCy at h
  split at h
  ·rename_i vs hvs
   split at h
   ·rename_i vs' u1 hfz
    split at h
    ·rename_i x hfrom
     split at h
     ·rename_i xs' us hrest
      cases h
      have hrep := zX2 hvs hv
      obtain ⟨M1, a1, a2, a3, a4, a5, a6, a7⟩ := qBm ok hf hrep hfz
      have hl := a5.length
      simp only [Array.length_toList] at hl
      have hfl := (qWa hfrom).1
      have hin : i < n := hlt (i, v) (List.mem_cons_self ..)
      have hrow := Nat.mul_le_mul_right t.size (show i + 1 ≤ n by omega)
      rw [Nat.add_mul] at hrow
      have hfit : i * t.size + rv.cells.toList.length ≤ vals.size := by rw [Array.length_toList]; omega
      have hE1 : ∀ k (h : k < (xs.set i x).length), zW M1.H M1.G t (xs.set i x)[k] (fun j => (yJ vals (i * t.size) rv.cells.toList)[k * t.size + j]?) := by
       intro k hk
       rw [List.length_set] at hk
       by_cases e : k = i
       ·subst e
        rw [List.getElem_set_self]
        refine vHt hfrom a5 fun j hj => ?_
        rw [wJ hfit, if_neg (by omega), if_pos (by omega)]
        congr 1; omega
       ·rw [List.getElem_set_ne (Ne.symm e)]
        refine yL a4.ext.G a4.ext.sameG t _ _ _ (fun j hj => ?_) (hE k hk)
        rw [wJ hfit, Array.length_toList]
        rcases qRj (Ne.symm e) hj with h | h
        ·rw [if_pos (by omega)]
        ·rw [if_neg (by omega), if_neg (by omega)]
      obtain ⟨res, M2, b1, b2, b3, b4, b5, b6, b7, b8, b9⟩ := qSs a3 a6 (by rw [List.length_set]; exact hx) (by rw [jV hfit]; exact hs) hE1
       (fun p hp => hlt p (List.mem_cons_of_mem _ hp)) (hp.mono fun p q hpq => ⟨hpq.1, by
        obtain ⟨_, hq⟩ := hpq
        exact zT.ext a4.ext hq⟩) hrest
      exact ⟨res, M2, by rw [qM1 _ vals i rv rparts (i * t.size) t.size rfl (by omega) (by omega)]; exact b1, b2.trans a1, by rw [b3, a2, zBj], b4, a4.trans b5, b6, b7, b8, b9⟩
     ·cases h
    ·cases h
   ·cases h
  ·cases h
 | [], _ :: _, _, _, _, _, _, _, _, _, _, _, _, hh, _ => hh.elim
 | _ :: _, [], _, _, _, _, _, _, _, _, _, _, _, hh, _ => hh.elim
theorem yBu {P : Program} {w : World} {t e : TypeId} {n : Nat} {rparts : List (Nat × Value)} {ty : Ty} {i : TypeInfo} {z : Value} {res : Array Value} (hu : P.underlying t = some (.slice e)) (hi : P.info? e = some i)
  (hz : i.zero = some z) (hs : i.size = ty.size) (hsmall : n * P.cellsOf e ≤ 16777216) (hf : Instr.fill (fun j => some (j * ty.size, ty.size)) (madeCells z.cells (n * ty.size)) rparts = some res) :
  (Instr.buildSlice t n rparts.toArray).run P w = .ok (.slice (some ⟨w.heap.size, 0, none⟩) n n) (w.alloc (.cells res e)) := by
 have hc : P.cellsOf e = ty.size := by rw [qNm hi]; exact hs
 rw [hc] at hsmall
 have h1 : ¬ 2 ^ 24 < n * ty.size := by omega
 by_cases h0 : n * ty.size = 0
 ·have hm : madeCells z.cells (n * ty.size) = #[] := by rw [h0]; simp [madeCells, Array.range_zero']
  rw [hm] at hf
  simp only [Instr.buildSlice, Sem.run_bind, run_underlying hu, Result.andThen_ok, zAu w hi, hc, gt_iff_lt, h1, if_false, h0, if_true, Sem.run_pure]
  simp [Array.range_zero', hf, newRow]
 ·simp only [Instr.buildSlice, Sem.run_bind, run_underlying hu, Result.andThen_ok, zAu w hi, hc, gt_iff_lt, h1, if_false, h0, Sem.run_pure, zeroValue, qA0 w hi, hz]
  rw [show (Array.range (n * ty.size)).map (z.cells[· % z.cells.size]!) = madeCells z.cells (n * ty.size) from rfl, hf]
  simp [newRow]
theorem yE9 {parts : List (Nat × zD)} {n : Nat} (h : parts.all (fun p => Nat.blt p.1 n) = true) : ∀ p ∈ parts, p.1 < n := by
 simp only [List.all_eq_true] at h
 exact fun p hp => zV4 (h p hp)
theorem yY2 {P : Program} {M : zA} {w : World} (ok : Ok M) (hM : M.H = w.heap) {nm : Nat} {t e : TypeId} {n : Nat} {parts : List (Nat × zD)} {rparts : List (Nat × Value)} {ty : Ty} {xs : List ty.den} {u : zX}
  (hp : zO (zIx M) parts rparts) (hu : P.underlying t = some (.slice e)) (hnm : M.h nm = none) (hty : zAz P e = some ty) (hsmall : n * P.cellsOf e ≤ 16777216) (hlt : ∀ p ∈ parts, p.1 < n)
  (hf : zCy M.h ty (List.replicate n ty.dflt) parts = some (xs, u)) :
  qI P (Instr.buildSlice t n rparts.toArray) M w (.c (.osl nm none)) (u ++ [(nm, .arr true ty xs)]) := by
 obtain ⟨i, z, h1, h2, h3, h4, h5, h6, h7⟩ := zEq hty
 obtain ⟨res, M', b1, b2, b3, b4, b5, b6, b7, b8, b9⟩ := qSs (n := n) ok (vY.refl _) (by simp) (vals := madeCells z.cells (n * ty.size)) (by rw [size_madeCells])
  (fun k hk => by rw [qRf hk]; exact qXw h4 h7 (by simpa using hk)) hlt hp hf
 have hr := yBu (P := P) (w := w) hu h1 h2 h3 hsmall b1
 refine qI.after b3 b5 (yLv b4 (b2.trans hM) (b6.fresh hnm) (c := n) (us := res) (e := e) (by omega) (by omega) (fun k hk => b9 k hk) ?_)
 rw [b7]; exact hr
structure zF8 (M : zA) (J : List Nat) (n : Nat) (rows : List (List Int)) (vals : Array Value) (rc : List (Option Nat × Nat)) : Prop where
 len : rows.length = n
 size : vals.size = n
 rlen : rc.length = n
 row : ∀ k (h : k < rows.length), ∃ rb v, rc[k]? = some (rb, rows[k].length) ∧ vals[k]? = some v ∧ zB0 M.H rb rows[k].length v ∧
  (∀ R, rb = some R → ∃ rv er, M.H[R]? = some (.cells rv er (0, 0)) ∧ ∀ j (h' : j < rows[k].length), rv[j]? = some (.int .i64 rows[k][j]))
 nd : (rc.filterMap (·.1)).Nodup
 of : ∀ R ∈ rc.filterMap (·.1), ∃ j ∈ J, ∃ C, M.κ j = some C ∧ R ∈ C.fp
 js : ∀ j ∈ J, ∃ ys : List Int, M.h j = some (.arr true (.int .i64) ys)
theorem zF8.put {M : zA} (ok : Ok M) {J : List Nat} {n : Nat} {rows : List (List Int)} {vals : Array Value} {rc : List (Option Nat × Nat)} (I : zF8 M J n rows vals rc) {i : Nat} (hi : i < n) {v : zD} {rv : Value} {r : List Int} {u : zX}
  (hv : zT M v rv) (ht : zIe M.h v = some (r, u)) (hJ : ∀ p ∈ u, p.1 ∉ J) : ∃ rc', zF8 M (J ++ u.map (·.1)) n (rows.set i r) (yJ vals i rv.cells.toList) rc' ∧ rv.cells.size = 1 ∧ (∀ p ∈ u, p.2 = .gone) := by
 have hin : i < rows.length := by rw [I.len]; exact hi
 have put : ∀ (rb : Option Nat) (J' : List Nat), rv.one1 = true → zB0 M.H rb r.length rv → (∀ R, rb = some R → ∃ rv er, M.H[R]? = some (.cells rv er (0, 0)) ∧ ∀ j (h' : j < r.length), rv[j]? = some (.int .i64 r[j])) →
   (∀ R, rb = some R → R ∉ rc.filterMap (·.1)) → (∀ R, rb = some R → ∃ j ∈ J', ∃ C, M.κ j = some C ∧ R ∈ C.fp) → (∀ j ∈ J', ∃ ys : List Int, M.h j = some (.arr true (.int .i64) ys)) →
   zF8 M (J ++ J') n (rows.set i r) (yJ vals i rv.cells.toList) (rc.set i (rb, r.length)) ∧ rv.cells.size = 1 := by
  intro rb J' h1 h2 h3 h4 h5 h6
  have hcells : rv.cells = #[rv] := by cases rv <;> first | rfl | cases h1
  obtain ⟨s1, s2⟩ := zUh (x := (rb, r.length)) rc i I.nd h4
  have hfit : i + rv.cells.toList.length ≤ vals.size := by rw [hcells, I.size]; show i + 1 ≤ n; omega
  refine ⟨⟨by rw [List.length_set]; exact I.len, by rw [jV hfit]; exact I.size, by rw [List.length_set]; exact I.rlen, fun k hk => ?_, s1, fun R hR => ?_, fun j hj => ?_⟩, by rw [hcells]; rfl⟩
  ·rw [List.length_set] at hk
   by_cases e : k = i
   ·subst e
    rw [List.getElem_set_self]
    refine ⟨rb, rv, ?_, ?_, h2, h3⟩
    ·rw [List.getElem?_set_self (by rw [I.rlen]; exact hi)]
    ·rw [wJ hfit, if_neg (by omega), if_pos (by rw [hcells]; show k < k + 1; omega), hcells]
     simp
   ·rw [List.getElem_set_ne (Ne.symm e)]
    obtain ⟨rb', v', p1, p2, p3, p4⟩ := I.row k hk
    refine ⟨rb', v', by rw [List.getElem?_set_ne (Ne.symm e)]; exact p1, ?_, p3, p4⟩
    rw [wJ hfit, hcells]
    show (if k < i then vals[k]? else if k < i + 1 then _ else vals[k]?) = _
    split
    ·exact p2
    ·rw [if_neg (by omega)]; exact p2
  ·rcases s2 R hR with h | h
   ·obtain ⟨j, hj, hC⟩ := I.of R h
    exact ⟨j, List.mem_append_left _ hj, hC⟩
   ·obtain ⟨j, hj, hC⟩ := h5 R h
    exact ⟨j, List.mem_append_right _ hj, hC⟩
  ·rcases List.mem_append.1 hj with h | h
   ·exact I.js j h
   ·exact h6 j h
 unfold zIe at ht
 split at ht
 ·rename_i jd
  split at ht
  ·rename_i ys hjd
   cases ht
   obtain ⟨Cj, hCj, hOj⟩ := ok.obj jd _ hjd
   obtain ⟨jr, jf⟩ := zR5 hOj
   obtain ⟨r1, r2⟩ := qLx hCj hOj hv
   have hjs : ∀ j ∈ [jd], ∃ ys : List Int, M.h j = some (.arr true (.int .i64) ys) := fun j hj => by
    have e : j = jd := by simpa using hj
    rw [e]; exact ⟨_, hjd⟩
   have := put Cj.blk [jd] (zV.one (c := .osl jd none) hv) r1 r2 (fun R hR hm => ?_) (fun R hR => ⟨jd, by simp, Cj, hCj, wW hR⟩) (fun j hj => hjs j hj)
   ·exact ⟨_, this.1, this.2, by simp⟩
   ·obtain ⟨j, hj, C, hC, hRC⟩ := I.of R hm
    obtain ⟨ys', hj'⟩ := I.js j hj
    have hne : j ≠ jd := fun e => hJ (jd, .gone) (by simp) (e ▸ hj)
    exact ok.disj j jd _ _ C Cj R hne hj' hjd rfl rfl hC hCj hRC (wW hR)
  ·cases ht
 ·cases ht
  have e : rv = .slice none 0 0 := hv
  have := put none [] (by rw [e]; rfl) ⟨e, rfl⟩ (fun R hR => by cases hR) (fun R hR => by cases hR) (fun R hR => by cases hR) (fun j hj => by cases hj)
  exact ⟨_, by simpa using this.1, this.2, by simp⟩
 ·cases ht
theorem zM7 : ∀ {l : List Nat}, zFi l = true → l.Nodup
 | [], _ => List.nodup_nil
 | a :: l, h => by
  simp only [zFi, Bool.and_eq_true, Bool.not_eq_true'] at h
  refine List.nodup_cons.2 ⟨fun hm => ?_, zM7 h.2⟩
  have : l.any (Nat.beq a) = true := List.any_eq_true.2 ⟨a, hm, by simp⟩
  rw [this] at h; cases h.1
theorem qRp {M : zA} (ok : Ok M) {n : Nat} : ∀ {parts : List (Nat × zD)} {rparts : List (Nat × Value)} {J : List Nat} {rows out : List (List Int)} {vals : Array Value} {rc : List (Option Nat × Nat)} {u : zX}, zF8 M J n rows vals rc →
  (∀ p ∈ parts, p.1 < n) → zO (zIx M) parts rparts → zIf M.h rows parts = some (out, u) → (J ++ u.map (·.1)).Nodup →
  ∃ res rc', Instr.fill (fun i => some (i * 1, 1)) vals rparts = some res ∧ zF8 M (J ++ u.map (·.1)) n out res rc' ∧ (∀ p ∈ u, p.2 = .gone)
 | [], [], J, rows, out, vals, rc, u, I, _, _, h, _ => by
  cases h
  exact ⟨vals, rc, rfl, by simpa using I, by simp⟩
 | (i, v) :: parts, (i', rv) :: rparts, J, rows, out, vals, rc, u, I, hlt, hp, h, hnd => by
  obtain ⟨⟨hi, hv⟩, hp⟩ := hp
  dsimp only at hi hv
  subst hi
  unfold zIf at h
  split at h
  ·rename_i r u1 ht
   split at h
   ·rename_i rows' us hrest
    cases h
    rw [List.map_append, ← List.append_assoc] at hnd
    have hin : i < n := hlt (i, v) (List.mem_cons_self ..)
    obtain ⟨rc', I', h1, hg⟩ := I.put ok hin hv ht (fun p hp hm => by
     have := (List.nodup_append.1 (List.nodup_append.1 hnd).1).2.2 p.1 hm p.1 (List.mem_map_of_mem hp)
     exact this rfl)
    obtain ⟨res, rc2, b1, b2, b3⟩ := qRp ok I' (fun p hp => hlt p (List.mem_cons_of_mem _ hp)) hp hrest hnd
    refine ⟨res, rc2, ?_, by rw [List.map_append, ← List.append_assoc]; exact b2, fun p hp => ?_⟩
    ·rw [qM1 _ vals i rv rparts (i * 1) 1 rfl h1 (by rw [I.size]; omega), Nat.mul_one]; exact b1
    ·rcases List.mem_append.1 hp with hp | hp
     ·exact hg p hp
     ·exact b3 p hp
   ·cases h
  ·cases h
 | [], _ :: _, _, _, _, _, _, _, _, _, hh, _, _ => hh.elim
 | _ :: _, [], _, _, _, _, _, _, _, _, hh, _, _ => hh.elim
theorem qDa {j : Nat} : ∀ {u : zX} {h : Hp}, (∀ p ∈ u, p.2 = .gone) → j ∈ u.map (·.1) → qE h u j = some .gone
 | (id, o) :: u, h, hg, hj => by
  have ho : o = .gone := hg (id, o) (List.mem_cons_self ..)
  subst ho
  by_cases hm : j ∈ u.map (·.1)
  ·exact qDa (u := u) (fun p hp => hg p (List.mem_cons_of_mem _ hp)) hm
  ·have e : j = id := by
    simp only [List.map_cons, List.mem_cons] at hj
    exact hj.resolve_right hm
   subst e
   show qE (yC h j .gone) u j = _
   rw [zZn]
   ·exact yB _ _ _
   ·rw [Bool.eq_false_iff]
    intro hc
    obtain ⟨p, hp, hb⟩ := List.any_eq_true.1 hc
    exact hm (List.mem_map.2 ⟨p, hp, Nat.eq_of_beq_eq_true hb⟩)
theorem zK8 {n : Nat} {u : zX} {h : Hp} (hn : n ∉ u.map (·.1)) : qE h u n = h n := by
 refine zZn h ?_
 rw [Bool.eq_false_iff]
 intro hc
 obtain ⟨p, hp, hb⟩ := List.any_eq_true.1 hc
 exact hn (List.mem_map.2 ⟨p, hp, Nat.eq_of_beq_eq_true hb⟩)
theorem vGm {P : Program} {M : zA} {w : World} (ok : Ok M) (hM : M.H = w.heap) {nm n c : Nat} {rows : List (List Int)} {res : Array Value} {rc : List (Option Nat × Nat)} {J : List Nat} {u : zX} {e : TypeId} {s : Sem Value}
  (hnm : M.h nm = none) (I : zF8 M J n rows (res.extract 0 n) rc) (hJ : ∀ j, j ∈ J → j ∈ u.map (·.1)) (hg : ∀ p ∈ u, p.2 = .gone ∧ ∃ o, M.h p.1 = some o ∧ o.owned = true) (hc : n ≤ c) (hs : c ≤ res.size)
  (w' : World) (hw : w'.heap = w.heap.push (.cells res e) ∧ w'.os = w.os ∧ w'.tape = w.tape ∧ w'.output = w.output)
  (hr : s.run P w = .ok (.slice (some ⟨w.heap.size, 0, none⟩) n c) w') : qI P s M w (.c (.osl nm none)) (u ++ [(nm, .mat 0 rows)]) := by
 let C : zR := ⟨some M.H.size, n, 1, 0, rc⟩
 have hnJ : nm ∉ u.map (·.1) := fun hm => by
  obtain ⟨p, hp, e⟩ := List.mem_map.1 hm
  obtain ⟨_, o, ho, _⟩ := hg p hp
  rw [e, hnm] at ho; cases ho
 have hrow : ∀ R ∈ rc.filterMap (·.1), ∃ j C, (j ∈ u.map (·.1)) ∧ M.κ j = some C ∧ R ∈ C.fp := fun R hR => by
  obtain ⟨j, hj, C, hC, hm⟩ := I.of R hR
  exact ⟨j, C, hJ j hj, hC, hm⟩
 have hrlt : ∀ R ∈ rc.filterMap (·.1), R < M.H.size := fun R hR => by
  obtain ⟨j, hj, C, hC, hm⟩ := I.of R hR
  obtain ⟨ys, hy⟩ := I.js j hj
  exact (ok.own R ⟨j, _, C, hy, rfl, hC, hm⟩).2
 have hh : ∀ n', (qE M.h (u ++ [(nm, .mat 0 rows)])) n' = if n' = nm then some (.mat 0 rows) else qE M.h u n' := fun n' => by
  rw [zBj, qL5]
  by_cases e : n' = nm
  ·rw [if_pos e, e, yB]
  ·rw [if_neg e, yE _ _ e]
 have := zA.move_ok (M := M) (nm := nm) (o' := .mat 0 rows) (C' := C) (h' := qE M.h (u ++ [(nm, .mat 0 rows)])) (H' := M.H.push (.cells res e)) ok (fun j => j ∈ u.map (·.1)) hnm
  (fun j hj => by
   obtain ⟨p, hp, e⟩ := List.mem_map.1 hj
   obtain ⟨_, o, ho, hoo⟩ := hg p hp
   refine ⟨o, by rw [← e]; exact ho, hoo, ?_⟩
   have hne : j ≠ nm := fun e' => hnJ (by rw [← e']; exact hj)
   rw [hh, if_neg hne]
   exact qDa (fun p hp => (hg p hp).1) hj)
  (by rw [hh, if_pos rfl]) (fun n' h1 h2 => by rw [hh, if_neg h2]; exact zK8 h1) (by simp) (fun b hb _ => zCa hb) (fun b hb => zK5 (zCa hb))
  (fun b hb => by
   simp only [C, zR.fp, Option.toList_some, List.singleton_append, List.mem_cons] at hb
   rcases hb with rfl | hb
   ·exact .inl ⟨Nat.le_refl _, by simp⟩
   ·exact .inr (by
     obtain ⟨j, C, h1, h2, h3⟩ := hrow b hb
     exact ⟨j, C, h1, h2, h3⟩))
  (fun x => by
   refine ⟨rfl, I.len.symm, rfl, by rw [I.len]; exact I.rlen, ?_, res, e, zIt, by rw [I.len]; omega, fun k hk => ?_⟩
   ·simp only [C, zR.fp, Option.toList_some, List.singleton_append]
    exact List.nodup_cons.2 ⟨fun hm => by have := hrlt _ hm; omega, I.nd⟩
   ·obtain ⟨rb, v, p1, p2, p3, p4⟩ := I.row k hk
    have hkn : k < n := by rw [← I.len]; exact hk
    refine ⟨rb, v, p1, ?_, p3.ext x, fun R hR => ?_⟩
    ·rw [Array.getElem?_extract] at p2
     split at p2
     ·simpa using p2
     ·cases p2
    ·obtain ⟨rv, er, p5, p6⟩ := p4 R hR
     refine ⟨rv, er, ?_, p6⟩
     have : R < M.H.size := hrlt R (List.mem_filterMap.2 ⟨_, List.mem_of_getElem? p1, hR⟩)
     show (M.H.push _)[R]? = _
     rw [zCa this]; exact p5)
 refine ⟨_, _, _, hr, hw.2.1, hw.2.2.1, hw.2.2.2, by show M.H.push _ = _; rw [hw.1, hM], rfl, this.1, this.2, C, κset_same _ _ _, _, c, rfl, ?_⟩
 refine ⟨hc, 0, by rw [hM], .inr (by simp), ?_⟩
 have : qR (M.H.push (.cells res e)) M.H.size = res.size := by simp [qR]
 show (0 + c) * 1 ≤ qR (M.H.push (.cells res e)) M.H.size
 rw [this]; omega
theorem yWy {P : Program} {M : zA} {w : World} (ok : Ok M) (hM : M.H = w.heap) {mat : Bool} {nm : Nat} {t : TypeId} {n : Nat} {parts : List (Nat × zD)} {rparts : List (Nat × Value)} {v : zD} {u : zX}
  (hp : zO (zIx M) parts rparts) (h : yD (zNm P mat nm M.h t n parts) v u) : qI P (Instr.buildSlice t n rparts.toArray) M w v u := by
 unfold zNm at h
 split at h
 ·rename_i e hu hnm
  obtain ⟨hsmall, h⟩ := jT h
  have hsmall := Nat.le_of_ble_eq_true hsmall
  cases mat with
  | true =>
   simp only [cond_true] at h
   split at h
   ·rename_i rows u' hty hf
    obtain ⟨hb, h⟩ := jT h
    simp only [Bool.and_eq_true] at hb
    obtain ⟨_, rfl, rfl⟩ := jZ h
    obtain ⟨i, z, h1, h2, h3, h4, h5, h6, h7⟩ := zEq hty
    have hz0 : z.cells.toList = [.slice none 0 0] := h4
    have hz1 : z.cells.size = 1 := h7
    have I0 : zF8 M [] n (List.replicate n []) (madeCells z.cells (n * 1)) (List.replicate n (none, 0)) := by
     have hfm : (List.replicate n ((none, 0) : Option Nat × Nat)).filterMap (·.1) = [] := by
      rw [List.filterMap_eq_nil_iff]
      intro a ha
      rw [List.eq_of_mem_replicate ha]
     refine ⟨by simp, by rw [size_madeCells, Nat.mul_one], by simp, fun k hk => ?_, by rw [hfm]; exact List.nodup_nil, by rw [hfm]; simp, by simp⟩
     have hkn : k < n := by simpa using hk
     refine ⟨none, .slice none 0 0, by simp [hkn], ?_, ⟨rfl, by simp⟩, fun R hR => by cases hR⟩
     simp only [madeCells, Nat.mul_one]
     rw [Array.getElem?_map, Array.getElem?_range]
     simp only [hkn, if_true, Option.map_some, hz1, Nat.mod_one]
     rw [getElem!_pos z.cells 0 (by omega)]
     have : z.cells.toList[0]'(by simp; omega) = .slice none 0 0 := by simp only [hz0, List.getElem_cons_zero]
     simpa using this
    obtain ⟨res, rc, b1, b2, b3⟩ := qRp ok I0 (yE9 hb.2) hp hf (by simpa using zM7 hb.1)
    rw [List.nil_append] at b2
    have hr := yBu (P := P) (w := w) (ty := .sl (.int .i64)) hu h1 h2 h3 hsmall b1
    have hext : res.extract 0 n = res := by
     have := b2.size
     apply Array.ext_getElem?
     intro j
     rw [Array.getElem?_extract]
     split
     ·simp
     ·rw [Array.getElem?_eq_none (by omega)]
    refine vGm ok hM hnm (by rw [hext]; exact b2) (fun j hj => hj) (fun p hp => ⟨b3 p hp, ?_⟩) (Nat.le_refl n) (by rw [b2.size]; exact Nat.le_refl _) (w.alloc (.cells res e)) ⟨rfl, rfl, rfl, rfl⟩ hr
    obtain ⟨ys, hy⟩ := b2.js p.1 (List.mem_map_of_mem hp)
    exact ⟨_, hy, rfl⟩
   ·exact h.elim
  | false =>
   simp only [cond_false] at h
   split at h
   ·rename_i ty hty
    split at h
    ·rename_i xs u' hf
     obtain ⟨hb, h⟩ := jT h
     obtain ⟨_, rfl, rfl⟩ := jZ h
     exact yY2 ok hM hp hu hnm hty hsmall (yE9 hb) hf
    ·exact h.elim
   ·exact h.elim
 ·exact h.elim
theorem qA9 {H : Array Go.Obj} {F : Nat → Prop} : ∀ (t : Ty) (x : t.den) (rd : Nat → Option Value), zW H F t x rd → ∀ j, j < t.size → ∃ v, rd j = some v ∧ v.one1 = true
 | .int k, x, rd, h, j, hj => by
  simp only [Ty.size] at hj
  obtain rfl : j = 0 := by omega
  exact ⟨_, h, rfl⟩
 | .bool, x, rd, h, j, hj => by
  simp only [Ty.size] at hj
  obtain rfl : j = 0 := by omega
  exact ⟨_, h, rfl⟩
 | .sl t, x, rd, h, j, hj => by
  simp only [Ty.size] at hj
  obtain rfl : j = 0 := by omega
  simp only [zW] at h
  obtain ⟨A, n, c, h1, _⟩ := h
  exact ⟨_, h1, rfl⟩
 | .pair a b, x, rd, h, j, hj => by
  simp only [zW] at h
  simp only [Ty.size] at hj
  by_cases hlt : j < a.size
  ·exact qA9 a _ _ h.1 j hlt
  ·have := qA9 b _ _ h.2 (j - a.size) (by omega)
   rwa [show j - a.size + a.size = j by omega] at this
def Rd (H : Array Go.Obj) (v : Value) (n size : Nat) (news : List Value) : Prop := ∃ A c, v = .slice A n c ∧ news.length = n * size ∧ (∀ u ∈ news, u.one1 = true) ∧ (match A with
 | none => n = 0
 | some a => n = 0 ∨ a.spot = none ∧ ∀ j u, news[j]? = some u → qW H a.block (a.off + j) = some u)
theorem Rd.first {P : Program} {H : Array Go.Obj} {v : Value} {n size : Nat} {news : List Value} (h : Rd H v n size news) (w : World) (hw : w.heap = H) : (Builtin.firstCells size n v).run P w = .ok news.toArray w := by
 obtain ⟨A, c, rfl, hl, _, h⟩ := h
 cases A with
 | none =>
  have h0 : n = 0 := h
  subst h0
  have : news = [] := List.eq_nil_of_length_eq_zero (by simpa using hl)
  subst this
  exact run_firstCells_none w size 0 0 c
 | some a =>
  rcases h with h0 | ⟨hs, h⟩
  ·subst h0
   have : news = [] := List.eq_nil_of_length_eq_zero (by simpa using hl)
   subst this
   simp [Builtin.firstCells, loadCells, loadCellsFrom]
  ·obtain ⟨B, o, sp⟩ := a
   cases hs
   exact run_firstCells_some w size n ⟨B, o, none⟩ n c news hl (fun j u hu => by rw [Addr.add_lit, zFt, hw]; exact h j u hu)
theorem qMc {H : Array Go.Obj} {F : Nat → Prop} {t : Ty} {ys : List t.den} {B o c : Nat} (hc : ys.length ≤ c) (h : ∀ i (hi : i < ys.length), zW H F t ys[i] (fun j => qW H B (o + i * t.size + j))) :
  ∃ news, Rd H (.slice (some ⟨B, o, none⟩) ys.length c) ys.length t.size news ∧ ∀ i (hi : i < ys.length), zW H F t ys[i] (fun j => news[i * t.size + j]?) := by
 have tot : ∀ k, k < ys.length * t.size → ∃ v, qW H B (o + k) = some v ∧ v.one1 = true := by
  intro k hk
  have hi : k / t.size < ys.length := Nat.div_lt_of_lt_mul (by rw [Nat.mul_comm]; exact hk)
  obtain ⟨v, h1, h2⟩ := qA9 t _ _ (h _ hi) (k % t.size) (Nat.mod_lt _ t.size_pos)
  refine ⟨v, ?_, h2⟩
  rw [Nat.add_assoc, Nat.mul_comm, Nat.div_add_mod] at h1
  exact h1
 refine ⟨(List.range (ys.length * t.size)).map fun k => (qW H B (o + k)).getD undef, ⟨_, c, rfl, by simp, fun u hu => ?_, .inr ⟨rfl, fun j u hu => ?_⟩⟩, fun i hi => ?_⟩
 ·obtain ⟨k, hk, rfl⟩ := List.mem_map.1 hu
  obtain ⟨v, h1, h2⟩ := tot k (List.mem_range.1 hk)
  rw [h1]; exact h2
 ·have hj : j < ys.length * t.size := by
   rcases Nat.lt_or_ge j (ys.length * t.size) with h | h
   ·exact h
   ·rw [List.getElem?_eq_none (by simpa using h)] at hu; cases hu
  obtain ⟨v, h1, h2⟩ := tot j hj
  simp only [List.getElem?_map, List.getElem?_range hj, Option.map_some, h1, Option.getD_some, Option.some.injEq] at hu
  rw [← hu]; exact h1
 ·refine yL (fun _ h => h) (fun _ _ => rfl) t _ _ _ (fun j hj => ?_) (h i hi)
  have hrow := Nat.mul_le_mul_right t.size (show i + 1 ≤ ys.length by omega)
  rw [Nat.add_mul] at hrow
  have hk : i * t.size + j < ys.length * t.size := by omega
  obtain ⟨v, h1, h2⟩ := tot _ hk
  simp only [List.getElem?_map, List.getElem?_range hk, Option.map_some, h1, Option.getD_some]
  rw [Nat.add_assoc]; exact h1.symm
theorem zP3 {H : Array Go.Obj} {F : Nat → Prop} {t : Ty} {A : Option Addr} {c : Nat} : ∃ news, Rd H (.slice A 0 c) 0 t.size news ∧ ∀ i (hi : i < ([] : List t.den).length), zW H F t ([] : List t.den)[i] (fun j => news[i * t.size + j]?) :=
 ⟨[], ⟨A, c, rfl, by simp, by simp, by cases A with
  | none => rfl
  | some a => exact .inl rfl⟩, fun i hi => by simp at hi⟩
theorem qHa {H : Array Go.Obj} {F : Nat → Prop} {t : Ty} {ys : List t.den} {v : Value} (h : zW H F (.sl t) ys (fun _ => some v)) :
  ∃ news, Rd H v ys.length t.size news ∧ ∀ i (hi : i < ys.length), zW H F t ys[i] (fun j => news[i * t.size + j]?) := by
 simp only [zW, Option.some.injEq] at h
 obtain ⟨A, n, c, rfl, rfl, hc, h⟩ := h
 rcases h with ⟨rfl, _⟩ | ⟨B, o, rfl, hB, hE⟩
 ·exact zP3
 ·exact qMc hc hE
theorem zH3 {M : zA} {own : Bool} {t : Ty} {xs : List t.den} {C : zR} {id : Nat} {r : Option (Nat × Nat)} {v : Value} (hC : M.κ id = some C) (hO : yM M (.arr own t xs) C) (hv : zV M (.osl id r) v) :
  ∃ news, Rd M.H v (rng xs r).length t.size news ∧ ∀ i (hi : i < (rng xs r).length), zW M.H M.G t (rng xs r)[i] (fun j => news[i * t.size + j]?) := by
 obtain ⟨h1, h2, h3, h4⟩ := hO
 obtain ⟨C', hC', hv⟩ := hv
 rw [hC] at hC'; cases hC'
 have key : ∀ lo n, lo + n ≤ C.len → vV M.H C lo n v → ∃ news, Rd M.H v (qY xs lo n).length t.size news ∧ ∀ i (hi : i < (qY xs lo n).length), zW M.H M.G t (qY xs lo n)[i] (fun j => news[i * t.size + j]?) := by
  intro lo n hn hS
  obtain ⟨A, c, rfl, hS⟩ := hS
  have hl := zMk (xs := xs) (lo := lo) (n := n) (by omega)
  by_cases h0 : n = 0
  ·subst h0
   have e : qY xs lo 0 = [] := by simp [qY]
   rw [e]; exact zP3
  ·cases hB : C.blk with
   | none => rw [hB] at hS; omega
   | some B =>
    rw [hB] at hS h4
    obtain ⟨hc, a, rfl, ha, _⟩ := hS
    obtain ⟨vals, e, h5, h6, h7, h8⟩ := h4
    have ha' : a = lo * C.sz := by rcases ha with ha | ha <;> omega
    have := qMc (H := M.H) (F := M.G) (ys := qY xs lo n) (B := B) (o := a) (c := c) (by omega) (fun i hi => by
     obtain ⟨hi', e1⟩ := zTu hi
     rw [e1]
     refine yL (fun _ h => h) (fun _ _ => rfl) t _ _ _ (fun j hj => ?_) (h8 (lo + i) hi')
     rw [ha', h2, ← Nat.add_mul]
     simp only [qW, h5])
    obtain ⟨news, k1, k2⟩ := this
    rw [hl] at k1
    exact ⟨news, by rw [hl]; exact k1, k2⟩
 cases r with
 | none =>
  have := key 0 C.len (by omega) hv
  rw [h1, yB2] at this
  exact this
 | some p => exact key p.1 p.2 hv.1 hv.2.1
theorem zEi {P : Program} {w : World} {t e : TypeId} {i : TypeInfo} {A : Option Addr} {sLen sCap n size : Nat} {x : Value} {news : List Value} (T : TypeId) (hu : P.underlying t = some (.slice e)) (hi : P.info? e = some i) (hs : i.size = size)
  (hx : Rd w.heap x n size news) (hroom : sLen + n ≤ sCap) (w' : World) (hw : match A with
   | none => w' = w
   | some a => (storeCells (a.add (sLen * size)) news).run P w = .ok () w') :
  (Builtin.append_ #[t, t] T #[.slice A sLen sCap, x]).run P w = .ok (.slice A (sLen + n) sCap) w' := by
 have hf := hx.first (P := P) w rfl
 obtain ⟨X, c, rfl, _⟩ := hx
 subst hs
 cases A with
 | none =>
  subst hw
  simp [Builtin.append_, run_underlying hu, sizeOf, typeInfo, hi, Builtin.lenOf, hroom, hf]
 | some a => simp [Builtin.append_, run_underlying hu, sizeOf, typeInfo, hi, Builtin.lenOf, hroom, hf, hw]
theorem qFa {P : Program} {w : World} {t e : TypeId} {i : TypeInfo} {z : Value} {A : Option Addr} {sLen sCap n size : Nat} {x : Value} {olds news : List Value} (T : TypeId) (hu : P.underlying t = some (.slice e)) (hi : P.info? e = some i) (hz : i.zero = some z)
  (hs : i.size = size) (hb : Rd w.heap (.slice A sLen sCap) sLen size olds) (hx : Rd w.heap x n size news) (hg : sCap < sLen + n) (h46 : (sLen + n) * i.bytes ≤ 140737488355328) (hn46 : sLen + n ≤ 140737488355328) :
  (Builtin.append_ #[t, t] T #[.slice A sLen sCap, x]).run P w =
   .ok (.slice (some ⟨w.heap.size, 0, none⟩) (sLen + n) (grownCap w (sLen + n) sCap e)) (w.drew.alloc (.cells (olds.toArray ++ news.toArray ++ Builtin.zeroCells z.cells (grownCap w (sLen + n) sCap e - (sLen + n))) e)) := by
 have hf := hx.first (P := P) w.drew rfl
 have hfo := hb.first (P := P) w.drew rfl
 obtain ⟨X, c, rfl, _⟩ := hx
 subst hs
 have hn : ¬ (sLen + n ≤ sCap) := by omega
 have h63' : ¬ (9223372036854775807 < ((sLen : Int) + (n : Int))) := by omega
 have h48' : ¬ (281474976710656 < Builtin.nextslicecap (sLen + n) sCap * i.bytes) := by
  have h1 := Nat.mul_le_mul_right i.bytes (nextslicecap_le hg)
  rw [Nat.mul_assoc] at h1
  omega
 simp [Builtin.append_, run_underlying hu, sizeOf, typeInfo, zeroValue, hi, hz, Builtin.lenOf, hn, h63', h48', Question.forced, hf, hfo, newRow, grownCap]
 congr 2
 apply Array.ext'
 simp [List.append_assoc]
theorem zKm (z : Array Value) (n : Nat) : (Builtin.zeroCells z n).size = n * z.size := by simp [Builtin.zeroCells]
theorem qCz {H : Array Go.Obj} {F : Nat → Prop} {t : Ty} {xs ys : List t.den} {olds news : List Value} (hl : olds.length = xs.length * t.size) (hx : ∀ i (h : i < xs.length), zW H F t xs[i] (fun j => olds[i * t.size + j]?))
  (hy : ∀ i (h : i < ys.length), zW H F t ys[i] (fun j => news[i * t.size + j]?)) : ∀ i (h : i < (xs ++ ys).length), zW H F t (xs ++ ys)[i] (fun j => (olds ++ news)[i * t.size + j]?) := by
 intro i hi
 by_cases h : i < xs.length
 ·rw [List.getElem_append_left h]
  refine yL (fun _ h => h) (fun _ _ => rfl) t _ _ _ (fun j hj => ?_) (hx i h)
  have := Nat.mul_le_mul_right t.size (show i + 1 ≤ xs.length by omega)
  rw [Nat.add_mul] at this
  rw [List.getElem?_append_left (by omega)]
 ·rw [List.getElem_append_right (by omega)]
  refine yL (fun _ h => h) (fun _ _ => rfl) t _ _ _ (fun j hj => ?_) (hy (i - xs.length) (by rw [List.length_append] at hi; omega))
  have := Nat.mul_le_mul_right t.size (show xs.length ≤ i by omega)
  rw [List.getElem?_append_right (by omega), hl]
  congr 1
  rw [Nat.sub_mul]; omega
def zPj (M : zA) (w : World) (v : zD) (u : zX) (rv : Value) (w' : World) : Prop :=
 ∃ M', w'.os = w.os ∧ w'.tape = w.tape ∧ w'.output = w.output ∧ M'.H = w'.heap ∧ M'.h = qE M.h u ∧ Ok M' ∧ yO M M' ∧ zT M' v rv
theorem zPj.runs {P : Program} {s : Sem Value} {M : zA} {w w' : World} {v : zD} {u : zX} {rv : Value} (h : zPj M w v u rv w') (hr : s.run P w = .ok rv w') : qI P s M w v u := by
 obtain ⟨M', h⟩ := h
 exact ⟨_, _, M', hr, h⟩
theorem qVi {M : zA} {w : World} (ok : Ok M) (hM : M.H = w.heap) {nm : Nat} {t : Ty} {zs : List t.den} {us : Array Value} {e : TypeId} {c : Nat} {u : zX} (hnm : M.h nm = none)
  (hg : ∀ p ∈ u, p.2 = .gone ∧ ∃ o, M.h p.1 = some o ∧ o.owned = true) (hc : zs.length ≤ c) (hs : c * t.size ≤ us.size) (hx : ∀ i (h : i < zs.length), zW M.H M.G t zs[i] (fun j => us[i * t.size + j]?))
  {w' : World} (hw : w'.heap = w.heap.push (.cells us e) ∧ w'.os = w.os ∧ w'.tape = w.tape ∧ w'.output = w.output) :
  zPj M w (.c (.osl nm none)) (u ++ [(nm, .arr true t zs)]) (.slice (some ⟨w.heap.size, 0, none⟩) zs.length c) w' := by
 let C : zR := ⟨some M.H.size, zs.length, t.size, 0, []⟩
 have hnJ : nm ∉ u.map (·.1) := fun hm => by
  obtain ⟨p, hp, e⟩ := List.mem_map.1 hm
  obtain ⟨_, o, ho, _⟩ := hg p hp
  rw [e, hnm] at ho; cases ho
 have hh : ∀ n', (qE M.h (u ++ [(nm, .arr true t zs)])) n' = if n' = nm then some (.arr true t zs) else qE M.h u n' := fun n' => by
  rw [zBj, qL5]
  by_cases e : n' = nm
  ·rw [if_pos e, e, yB]
  ·rw [if_neg e, yE _ _ e]
 have hle := Nat.mul_le_mul_right t.size hc
 have := zA.move_ok (M := M) (nm := nm) (o' := .arr true t zs) (C' := C) (h' := qE M.h (u ++ [(nm, .arr true t zs)])) (H' := M.H.push (.cells us e)) ok (fun j => j ∈ u.map (·.1)) hnm
  (fun j hj => by
   obtain ⟨p, hp, e⟩ := List.mem_map.1 hj
   obtain ⟨_, o, ho, hoo⟩ := hg p hp
   refine ⟨o, by rw [← e]; exact ho, hoo, ?_⟩
   have hne : j ≠ nm := fun e' => hnJ (by rw [← e']; exact hj)
   rw [hh, if_neg hne]
   exact qDa (fun p hp => (hg p hp).1) hj)
  (by rw [hh, if_pos rfl]) (fun n' h1 h2 => by rw [hh, if_neg h2]; exact zK8 h1) (by simp) (fun b hb _ => zCa hb) (fun b hb => zK5 (zCa hb))
  (fun b hb => by
   simp only [C, zR.fp, Option.toList_some, List.filterMap_nil, List.append_nil, List.mem_singleton] at hb
   subst hb
   exact .inl ⟨Nat.le_refl _, by simp⟩)
  (fun x => ⟨rfl, rfl, fun _ => rfl, us, e, zIt, fun h => (by cases h), by omega, fun i hi => yL x.G x.sameG t _ _ _ (fun _ _ => rfl) (hx i hi)⟩)
 refine ⟨_, hw.2.1, hw.2.2.1, hw.2.2.2, by show M.H.push _ = _; rw [hw.1, hM], rfl, this.1, this.2, C, κset_same _ _ _, _, c, rfl, ?_⟩
 refine ⟨hc, 0, by rw [hM], .inr (by simp), ?_⟩
 have : qR (M.H.push (.cells us e)) M.H.size = us.size := by simp [qR]
 show (0 + c) * t.size ≤ qR (M.H.push (.cells us e)) M.H.size
 rw [this, Nat.zero_add]; exact hs
theorem qQ3 {P : Program} {M : zA} {w : World} (ok : Ok M) (hM : M.H = w.heap) {nm : Nat} {t : Ty} {zs : List t.den} {us : Array Value} {e : TypeId} {s : Sem Value} {c : Nat} {u : zX} (hnm : M.h nm = none)
  (hg : ∀ p ∈ u, p.2 = .gone ∧ ∃ o, M.h p.1 = some o ∧ o.owned = true) (hc : zs.length ≤ c) (hs : c * t.size ≤ us.size) (hx : ∀ i (h : i < zs.length), zW M.H M.G t zs[i] (fun j => us[i * t.size + j]?))
  {w' : World} (hr : s.run P w = .ok (.slice (some ⟨w.heap.size, 0, none⟩) zs.length c) w') (hw : w'.heap = w.heap.push (.cells us e) ∧ w'.os = w.os ∧ w'.tape = w.tape ∧ w'.output = w.output) :
  qI P s M w (.c (.osl nm none)) (u ++ [(nm, .arr true t zs)]) :=
 (qVi ok hM hnm hg hc hs hx hw).runs hr
theorem yD5 {M : zA} {w : World} (ok : Ok M) (hM : M.H = w.heap) {id nm : Nat} {t : Ty} {xs0 zs : List t.den} {C : zR} {H' : Array Go.Obj} {c : Nat} {A : Option Addr} {w' : World}
  (hid : M.h id = some (.arr true t xs0)) (hC : M.κ id = some C) (hnm : M.h nm = none) (hsz : H'.size = M.H.size) (hH : ∀ b, b ∉ C.fp → H'[b]? = M.H[b]?) (hbs : ∀ b, qR H' b = qR M.H b)
  (hx : ∀ M', yG M M' → M'.H = H' → M'.G = M.G → match C.blk with
   | none => zs = []
   | some B => ∃ vals e, H'[B]? = some (.cells vals e (0, 0)) ∧ zs.length * t.size ≤ vals.size ∧ ∀ i (h : i < zs.length), zW M'.H M'.G t zs[i] (fun j => vals[i * t.size + j]?))
  (hA : match C.blk with
   | none => A = none ∧ zs.length = 0 ∧ c = 0
   | some B => zs.length ≤ c ∧ ∃ a, A = some ⟨B, a, none⟩ ∧ (c = 0 ∨ a = 0) ∧ c * t.size ≤ qR M.H B)
  (hw : w'.heap = H' ∧ w'.os = w.os ∧ w'.tape = w.tape ∧ w'.output = w.output) :
  zPj M w (.c (.osl nm none)) [(id, .gone), (nm, .arr true t zs)] (.slice A zs.length c) w' := by
 obtain ⟨C0, hC0, hO⟩ := ok.obj id _ hid
 rw [hC] at hC0; cases hC0
 obtain ⟨fr, ff⟩ := zR5 hO
 have hne : id ≠ nm := fun e => by rw [e, hnm] at hid; cases hid
 let C' : zR := ⟨C.blk, zs.length, t.size, 0, []⟩
 have hh : ∀ n', (qE M.h [(id, .gone), (nm, .arr true t zs)]) n' = if n' = nm then some (.arr true t zs) else if n' = id then some .gone else M.h n' := fun n' => by
  show (yC (yC M.h id .gone) nm _) n' = _
  by_cases e : n' = nm
  ·rw [if_pos e, e, yB]
  ·rw [if_neg e, yE _ _ e]
   by_cases e2 : n' = id
   ·rw [if_pos e2, e2, yB]
   ·rw [if_neg e2, yE _ _ e2]
 have := zA.move_ok (M := M) (nm := nm) (o' := .arr true t zs) (C' := C') (h' := qE M.h [(id, .gone), (nm, .arr true t zs)]) (H' := H') ok (fun j => j = id) hnm
  (fun j hj => ⟨.arr true t xs0, by rw [hj]; exact hid, rfl, by rw [hh, hj, if_neg hne, if_pos rfl]⟩)
  (by rw [hh, if_pos rfl]) (fun n' h1 h2 => by rw [hh, if_neg h2, if_neg h1]) (by omega) (fun b hb hn => hH b (hn id C rfl hC)) (fun b _ => hbs b)
  (fun b hb => .inr ⟨id, C, rfl, hC, by
   simp only [C', zR.fp, List.filterMap_nil, List.append_nil] at hb
   rw [ff]; exact hb⟩)
  (fun x => by
   refine ⟨rfl, rfl, fun _ => rfl, ?_⟩
   have := hx _ x rfl rfl
   show match C.blk with
    | none => _
    | some B => _
   cases hB : C.blk with
   | none => rw [hB] at this; exact this
   | some B =>
    rw [hB] at this
    obtain ⟨vals, e, h1, h2, h3⟩ := this
    exact ⟨vals, e, h1, fun h => (by cases h), h2, h3⟩)
 refine ⟨_, hw.2.1, hw.2.2.1, hw.2.2.2, by rw [hw.1]; rfl, rfl, this.1, this.2, C', κset_same _ _ _, _, c, rfl, ?_⟩
 show match C.blk with
  | none => _
  | some B => _
 cases hB : C.blk with
 | none => rw [hB] at hA; exact hA
 | some B =>
  rw [hB] at hA
  obtain ⟨h1, a, h2, h3, h4⟩ := hA
  refine ⟨h1, a, h2, by simpa using h3, ?_⟩
  show (0 + c) * t.size ≤ qR H' B
  rw [hbs, Nat.zero_add]; exact h4
theorem qI2 {P : Program} {M : zA} {w : World} (ok : Ok M) (hM : M.H = w.heap) {id nm : Nat} {t : Ty} {xs0 zs : List t.den} {C : zR} {H' : Array Go.Obj} {s : Sem Value} {c : Nat} {A : Option Addr} {w' : World}
  (hid : M.h id = some (.arr true t xs0)) (hC : M.κ id = some C) (hnm : M.h nm = none) (hsz : H'.size = M.H.size) (hH : ∀ b, b ∉ C.fp → H'[b]? = M.H[b]?) (hbs : ∀ b, qR H' b = qR M.H b)
  (hx : ∀ M', yG M M' → M'.H = H' → M'.G = M.G → match C.blk with
   | none => zs = []
   | some B => ∃ vals e, H'[B]? = some (.cells vals e (0, 0)) ∧ zs.length * t.size ≤ vals.size ∧ ∀ i (h : i < zs.length), zW M'.H M'.G t zs[i] (fun j => vals[i * t.size + j]?))
  (hA : match C.blk with
   | none => A = none ∧ zs.length = 0 ∧ c = 0
   | some B => zs.length ≤ c ∧ ∃ a, A = some ⟨B, a, none⟩ ∧ (c = 0 ∨ a = 0) ∧ c * t.size ≤ qR M.H B)
  (hw : w'.heap = H' ∧ w'.os = w.os ∧ w'.tape = w.tape ∧ w'.output = w.output) (hr : s.run P w = .ok (.slice A zs.length c) w') :
  qI P s M w (.c (.osl nm none)) [(id, .gone), (nm, .arr true t zs)] :=
 (yD5 ok hM hid hC hnm hsz hH hbs hx hA hw).runs hr
theorem zPg {n : Nat} {b : Nat} (h : (Nat.ble (n * b) 140737488355328 && Nat.ble n 140737488355328) = true) : n * b ≤ 140737488355328 ∧ n ≤ 140737488355328 := by
 rw [Bool.and_eq_true] at h
 exact ⟨Nat.le_of_ble_eq_true h.1, Nat.le_of_ble_eq_true h.2⟩
theorem qL6 {H H' : Array Go.Obj} {F F' : Nat → Prop} : ∀ (t : Ty) (x : t.den) (rd : Nat → Option Value), t.flat = true → zW H F t x rd → zW H' F' t x rd
 | .int k, n, rd, _, h => h
 | .bool, n, rd, _, h => h
 | .sl t, xs, rd, hf, _ => by cases hf
 | .pair a b, p, rd, hf, h => by
  simp only [Ty.flat, Bool.and_eq_true] at hf
  exact ⟨qL6 a _ _ hf.1 h.1, qL6 b _ _ hf.2 h.2⟩
theorem qPk {M : zA} {sh : Bool} {s : Ty} {xs : List s.den} {v : Value} (hs : (sh || s.flat) = true) (hv : zW M.H (bif sh then M.G else M.F) (.sl s) xs (fun _ => some v)) :
  ∃ news, Rd M.H v xs.length s.size news ∧ ∀ i (hi : i < xs.length), zW M.H M.G s xs[i] (fun j => news[i * s.size + j]?) := by
 obtain ⟨news, h1, h2⟩ := qHa hv
 refine ⟨news, h1, fun i hi => ?_⟩
 cases sh with
 | true => exact h2 i hi
 | false => exact qL6 _ _ _ hs (h2 i hi)
theorem qTc {M : zA} (ok : Ok M) {t : Ty} {x : zG} {ys : List t.den} {u : zX} {v : Value} (hv : zV M x v) (h : zFg M.h t x = some (ys, u)) :
  u = [] ∧ ∃ news, Rd M.H v ys.length t.size news ∧ ∀ i (hi : i < ys.length), zW M.H M.G t ys[i] (fun j => news[i * t.size + j]?) := by
 unfold zFg at h
 split at h
 ·cases h
  have e : v = .slice none 0 0 := hv
  subst e
  exact ⟨rfl, zP3⟩
 ·rename_i sh s xs
  cases hs : (sh || s.flat) with
  | false => rw [hs] at h; cases h
  | true =>
   rw [hs] at h
   simp only [cond_true, Option.map_eq_some_iff, Prod.mk.injEq] at h
   obtain ⟨zs, hz, rfl, rfl⟩ := h
   obtain ⟨e, hz⟩ := zBg hz
   subst e
   subst hz
   exact ⟨rfl, qPk hs hv⟩
 ·rename_i sh s xs
  cases hs : (sh || s.flat) with
  | false => rw [hs] at h; cases h
  | true =>
   rw [hs] at h
   simp only [cond_true, Option.map_eq_some_iff, Prod.mk.injEq] at h
   obtain ⟨zs, hz, rfl, rfl⟩ := h
   obtain ⟨e, hz⟩ := zBg hz
   subst e
   subst hz
   exact ⟨rfl, qPk hs hv.2⟩
 ·rename_i id r
  split at h
  ·rename_i own s xs hid
   simp only [Option.map_eq_some_iff, Prod.mk.injEq] at h
   obtain ⟨zs, hz, rfl, rfl⟩ := h
   obtain ⟨e, hz⟩ := zBg hz
   subst e
   subst hz
   obtain ⟨C, hC, hO⟩ := ok.obj _ _ hid
   exact ⟨rfl, zH3 hC hO hv⟩
  ·cases h
 ·cases h
theorem yQ3 {P : Program} {M : zA} {w : World} (ok : Ok M) (hM : M.H = w.heap) {nm : Nat} {t e T : TypeId} {ty : Ty} {x : Value} {ys : List ty.den} {news : List Value} (hu : P.underlying t = some (.slice e)) (hty : zAz P e = some ty) (hnm : M.h nm = none)
  (hx : Rd M.H x ys.length ty.size news) (hE : ∀ i (hi : i < ys.length), zW M.H M.G ty ys[i] (fun j => news[i * ty.size + j]?)) (hroom : ys.length * P.bytesOf e ≤ 140737488355328 ∧ ys.length ≤ 140737488355328) :
  qI P (Builtin.append_ #[t, t] T #[.slice none 0 0, x]) M w (.c (.osl nm none)) [(nm, .arr true ty ys)] := by
 obtain ⟨i, z, h1, h2, h3, h4, h5, h6, h7⟩ := zEq hty
 by_cases h0 : ys.length = 0
 ·have hy : ys = [] := List.eq_nil_of_length_eq_zero h0
  subst hy
  have hr := zEi (P := P) (w := w) (A := none) (sLen := 0) (sCap := 0) T hu h1 h3 (by rw [← hM]; exact hx) (by simp) w rfl
  let C : zR := ⟨none, 0, ty.size, 0, []⟩
  have := zA.move_ok (M := M) (nm := nm) (o' := .arr true ty []) (C' := C) (h' := yC M.h nm (.arr true ty [])) (H' := M.H) ok (fun _ => False) hnm (fun _ h => h.elim) (yB _ _ _)
   (fun n' _ h2 => yE _ _ h2) (Nat.le_refl _) (fun _ _ _ => rfl) (fun _ _ => rfl) (fun b hb => by simp [C, zR.fp] at hb) (fun x => ⟨rfl, rfl, fun _ => rfl, rfl⟩)
  exact ⟨_, _, M.move nm C (yC M.h nm (.arr true ty [])) M.H, hr, rfl, rfl, rfl, hM, rfl, this.1, this.2, C, κset_same _ _ _, _, _, rfl, rfl, rfl, rfl⟩
 ·have hb : Rd w.heap (.slice none 0 0) 0 ty.size [] := ⟨none, 0, rfl, by simp, by simp, rfl⟩
  have hr := qFa (P := P) (w := w) T hu h1 h2 h3 hb (by rw [← hM]; exact hx) (by omega) (by rw [h6] at hroom; rw [Nat.zero_add]; exact hroom.1) (by omega)
  simp only [Nat.zero_add] at hr
  have hlen : news.length = ys.length * ty.size := hx.choose_spec.choose_spec.2.1
  have hge := grownCap_ge w ys.length 0 e
  refine qQ3 (u := []) ok hM hnm (by simp) hge ?_ (fun i hi => ?_) hr ⟨rfl, rfl, rfl, rfl⟩
  ·simp only [Array.size_append, List.size_toArray, List.length_nil, zKm, h7, hlen, Nat.zero_add, ← Nat.add_mul]
   exact Nat.le_of_eq (by congr 1; omega)
  ·refine yL (fun _ h => h) (fun _ _ => rfl) ty _ _ _ (fun j hj => ?_) (hE i hi)
   have := Nat.mul_le_mul_right ty.size (show i + 1 ≤ ys.length by omega)
   rw [Nat.add_mul] at this
   rw [Array.getElem?_append_left (by simp; omega)]
   simp
theorem qL0 {P : Program} {M : zA} {w : World} (ok : Ok M) (hM : M.H = w.heap) {id nm : Nat} {t e T : TypeId} {ty : Ty} {x b : Value} {xs0 ys : List ty.den} {r : Option (Nat × Nat)} {news : List Value} (hu : P.underlying t = some (.slice e)) (hty : zAz P e = some ty)
  (hnm : M.h nm = none) (hid : M.h id = some (.arr true ty xs0)) (hb : zV M (.osl id r) b) (hr0 : match r with | none => True | some (lo, _) => lo = 0)
  (hx : Rd M.H x ys.length ty.size news) (hE : ∀ i (hi : i < ys.length), zW M.H M.G ty ys[i] (fun j => news[i * ty.size + j]?))
  (hroom : ((rng xs0 r).length + ys.length) * P.bytesOf e ≤ 140737488355328 ∧ (rng xs0 r).length + ys.length ≤ 140737488355328) :
  qI P (Builtin.append_ #[t, t] T #[b, x]) M w (.c (.osl nm none)) [(id, .gone), (nm, .arr true ty (rng xs0 r ++ ys))] := by
 obtain ⟨i, z, h1, h2, h3, h4, h5, h6, h7⟩ := zEq hty
 obtain ⟨C, hC, hO⟩ := ok.obj id _ hid
 obtain ⟨olds, ho, hEo⟩ := zH3 hC hO hb
 have hlen : news.length = ys.length * ty.size := hx.choose_spec.choose_spec.2.1
 have hleno : olds.length = (rng xs0 r).length * ty.size := ho.choose_spec.choose_spec.2.1
 obtain ⟨C', hC', hS⟩ := hb
 rw [hC] at hC'; cases hC'
 have hSl : ∃ n, (rng xs0 r).length = n ∧ vV M.H C 0 n b := by
  cases r with
  | none => exact ⟨C.len, by rw [hO.1]; rfl, hS⟩
  | some p =>
   obtain ⟨lo, n⟩ := p
   have : lo = 0 := hr0
   subst this
   exact ⟨n, zMk (by have := hO.1; have := hS.1; omega), hS.2.1⟩
 obtain ⟨n, hn, A, sCap, rfl, hSl⟩ := hSl
 rw [hn] at hleno ho hroom
 have hall := qCz (H := M.H) (F := M.G) (t := ty) (xs := rng xs0 r) (ys := ys) (olds := olds) (news := news) (by rw [hn]; exact hleno) hEo hE
 have hlz : (rng xs0 r ++ ys).length = n + ys.length := by rw [List.length_append, hn]
 by_cases hroom' : n + ys.length ≤ sCap
 ·
  cases hB : C.blk with
  | none =>
   rw [hB] at hSl
   obtain ⟨rfl, rfl, rfl⟩ := hSl
   have hr := zEi (P := P) (w := w) (A := none) (sLen := 0) (sCap := 0) T hu h1 h3 (by rw [← hM]; exact hx) hroom' w rfl
   rw [← hlz] at hr
   refine qI2 (s := Builtin.append_ #[t, t] T #[.slice none 0 0, x]) (H' := M.H) ok hM hid hC hnm rfl (fun _ _ => rfl) (fun _ => rfl) (fun M' _ _ _ => ?_) ?_ ⟨hM.symm, rfl, rfl, rfl⟩ hr
   ·rw [hB]
    exact List.eq_nil_of_length_eq_zero (by omega)
   ·rw [hB]
    exact ⟨rfl, by omega, rfl⟩
  | some B =>
   rw [hB] at hSl
   obtain ⟨hc, a, rfl, ha, hs⟩ := hSl
   obtain ⟨k1, k2, k3, k4⟩ := hO
   rw [hB] at k4
   obtain ⟨vals, ev, k5, k6, k7, k8⟩ := k4
   rw [Nat.zero_mul] at ha
   rw [Nat.zero_add, k2] at hs
   have hbs : qR M.H B = vals.size := by simp only [qR, k5]
   rw [hbs] at hs
   have hwB : w.heap[B]? = some (.cells vals ev (0, 0)) := by rw [← hM]; exact k5
   by_cases h0 : sCap = 0
   ·
    have hn0 : n = 0 := by omega
    have hy0 : ys.length = 0 := by omega
    have hr := zEi (P := P) (w := w) (A := some ⟨B, a, none⟩) (sLen := n) (sCap := sCap) T hu h1 h3 (by rw [← hM]; exact hx) hroom' w (by
     have : news = [] := List.eq_nil_of_length_eq_zero (by rw [hlen, hy0, Nat.zero_mul])
     rw [this]; rfl)
    rw [← hlz] at hr
    have hz0 : rng xs0 r ++ ys = [] := List.eq_nil_of_length_eq_zero (by omega)
    refine qI2 (s := Builtin.append_ #[t, t] T #[.slice (some ⟨B, a, none⟩) n sCap, x]) (H' := M.H) ok hM hid hC hnm rfl (fun _ _ => rfl) (fun _ => rfl) (fun M' _ _ _ => ?_) ?_ ⟨hM.symm, rfl, rfl, rfl⟩ hr
    ·rw [hB]
     refine ⟨vals, ev, k5, by rw [hz0]; simp, fun i hi => ?_⟩
     rw [hz0] at hi; simp at hi
    ·rw [hB]
     exact ⟨by omega, a, rfl, .inl h0, by rw [h0]; simp⟩
   ·have ha0 : a = 0 := by rcases ha with ha | ha <;> omega
    subst ha0
    have hle := Nat.mul_le_mul_right ty.size hroom'
    rw [Nat.add_mul] at hle
    have hfit : n * ty.size + news.length ≤ vals.size := by omega
    have hst := run_storeCells_at (P := P) B (n * ty.size) ev news 0 vals w hwB (by simpa using hfit) (fun v hv => zHu (hx.choose_spec.choose_spec.2.2.1 v hv))
    simp only [Nat.add_zero] at hst
    have hr := zEi (P := P) (w := w) (A := some ⟨B, 0, none⟩) (sLen := n) (sCap := sCap) T hu h1 h3 (by rw [← hM]; exact hx) hroom' (w.setRow B (yJ vals (n * ty.size) news)) (by show (storeCells (Addr.add ⟨B, 0, none⟩ (n * ty.size)) news).run P w = _; rw [Addr.add_lit, Nat.zero_add]; exact hst)
    rw [← hlz] at hr
    obtain ⟨f1, f2, f3, f4⟩ := zCp hwB (new := yJ vals (n * ty.size) news) (jV hfit)
    refine qI2 (s := Builtin.append_ #[t, t] T #[.slice (some ⟨B, 0, none⟩) n sCap, x]) (H' := (w.setRow B (yJ vals (n * ty.size) news)).heap) ok hM hid hC hnm (by rw [hM]; exact f1)
     (fun b hb => by rw [hM]; exact f3 b fun e => hb (e ▸ wW hB)) (fun b => by rw [hM]; exact f4 b) (fun M' xt hH hG => ?_) ?_ ⟨rfl, rfl, rfl, rfl⟩ hr
    ·rw [hB]
     refine ⟨_, ev, f2, by rw [hlz, jV hfit, Nat.add_mul]; omega, fun i hi => ?_⟩
     refine yL xt.G xt.sameG ty _ _ _ (fun j hj => ?_) (hall i hi)
     have hrow := Nat.mul_le_mul_right ty.size (show i + 1 ≤ n + ys.length by omega)
     rw [Nat.add_mul, Nat.add_mul] at hrow
     rw [wJ hfit]
     by_cases hlt : i * ty.size + j < n * ty.size
     ·rw [if_pos hlt, List.getElem?_append_left (by omega)]
      obtain ⟨A', c', e1, _, _, hold⟩ := ho
      simp only [Value.slice.injEq] at e1
      obtain ⟨rfl, _, rfl⟩ := e1
      rcases hold with hn0 | ⟨_, hold⟩
      ·rw [hn0] at hlt; omega
      ·have hjl : i * ty.size + j < olds.length := by omega
       have := hold (i * ty.size + j) olds[i * ty.size + j] (List.getElem?_eq_getElem hjl)
       rw [List.getElem?_eq_getElem hjl, ← this]
       simp only [qW, k5, Nat.zero_add]
     ·rw [if_neg hlt, if_pos (by omega), List.getElem?_append_right (by omega), hleno]
    ·rw [hB]
     exact ⟨by omega, 0, rfl, .inr rfl, by rw [hbs]; exact hs⟩
 ·
  have hr := qFa (P := P) (w := w) T hu h1 h2 h3 (by rw [← hM]; exact ho) (by rw [← hM]; exact hx) (by omega) (by rw [h6] at hroom; exact hroom.1) hroom.2
  have hge := grownCap_ge w (n + ys.length) sCap e
  rw [← hlz] at hr hge
  refine qQ3 (s := Builtin.append_ #[t, t] T #[.slice A n sCap, x]) (u := [(id, .gone)]) ok hM hnm (fun p hp => ?_) hge ?_ (fun i hi => ?_) hr ⟨rfl, rfl, rfl, rfl⟩
  ·simp only [List.mem_singleton] at hp
   subst hp
   exact ⟨rfl, _, hid, rfl⟩
  ·simp only [Array.size_append, List.size_toArray, zKm, h7, hlen, hleno, ← Nat.add_mul]
   exact Nat.le_of_eq (by congr 1; omega)
  ·refine yL (fun _ h => h) (fun _ _ => rfl) ty _ _ _ (fun j hj => ?_) (hall i hi)
   have := Nat.mul_le_mul_right ty.size (show i + 1 ≤ n + ys.length by omega)
   rw [Nat.add_mul, Nat.add_mul] at this
   rw [Array.getElem?_append_left (by simp; omega)]
   simp
def zNp (H : Array Go.Obj) (row : List Int) (m : Option (Option Nat × Nat)) (c : Option Value) : Prop := ∃ rb v, m = some (rb, row.length) ∧ c = some v ∧ zB0 H rb row.length v ∧
 (∀ R, rb = some R → ∃ rv er, H[R]? = some (.cells rv er (0, 0)) ∧ ∀ j (h' : j < row.length), rv[j]? = some (.int .i64 row[j]))
theorem qQa {M : zA} {ver : Nat} {xs : List (List Int)} {C : zR} (h : yM M (.mat ver xs) C) : C.len = xs.length ∧ C.sz = 1 ∧ C.rows.length = xs.length ∧ C.fp.Nodup ∧
  ∃ heads : List Value, heads.length = xs.length ∧ (∀ k (h : k < xs.length), zNp M.H xs[k] C.rows[k]? heads[k]?) ∧
   (match C.blk with
    | none => xs = []
    | some B => ∃ vals e, M.H[B]? = some (.cells vals e (0, 0)) ∧ xs.length ≤ vals.size ∧ ∀ k, k < xs.length → vals[k]? = heads[k]?) := by
 obtain ⟨h1, h2, h3, h4, h5, h6⟩ := h
 refine ⟨h2, h3, h4, h5, ?_⟩
 cases hB : C.blk with
 | none =>
  rw [hB] at h6
  subst h6
  exact ⟨[], rfl, fun k hk => by simp at hk, rfl⟩
 | some B =>
  rw [hB] at h6
  obtain ⟨vals, e, h7, h8, h9⟩ := h6
  have hg : ∀ k, k < xs.length → (vals.toList.take xs.length)[k]? = vals[k]? := fun k hk => by
   rw [List.getElem?_take, if_pos hk]; simp
  refine ⟨vals.toList.take xs.length, by simp; omega, fun k hk => ?_, vals, e, h7, h8, fun k hk => (hg k hk).symm⟩
  obtain ⟨rb, v, k1, k2, k3, k4⟩ := h9 k hk
  exact ⟨rb, v, k1, by rw [hg k hk]; exact k2, k3, k4⟩
theorem zNp.one {H : Array Go.Obj} {row : List Int} {m : Option (Option Nat × Nat)} {v : Value} (h : zNp H row m (some v)) : v.one1 = true := by
 obtain ⟨rb, v', _, e, h, _⟩ := h
 cases e
 exact h.one
theorem yJp {M : zA} {xs : List (List Int)} {C : zR} {id : Nat} {v : Value} (hC : M.κ id = some C) (hv : zV M (.osl id none) v) {heads : List Value} (hl : heads.length = xs.length) (hlen : C.len = xs.length) (hsz : C.sz = 1)
  (hone : ∀ u ∈ heads, u.one1 = true) (hb : match C.blk with
    | none => xs = []
    | some B => ∃ vals e, M.H[B]? = some (.cells vals e (0, 0)) ∧ xs.length ≤ vals.size ∧ ∀ k, k < xs.length → vals[k]? = heads[k]?) : Rd M.H v xs.length 1 heads := by
 obtain ⟨C', hC', A, c, rfl, hS⟩ := hv
 rw [hC] at hC'; cases hC'
 rw [hlen]
 refine ⟨A, c, rfl, by omega, hone, ?_⟩
 cases hB : C.blk with
 | none =>
  rw [hB] at hS
  obtain ⟨rfl, h0, _⟩ := hS
  show xs.length = 0
  omega
 | some B =>
  rw [hB] at hS hb
  obtain ⟨hc, a, rfl, ha, _⟩ := hS
  obtain ⟨vals, e, h1, h2, h3⟩ := hb
  by_cases h0 : xs.length = 0
  ·exact .inl h0
  ·refine .inr ⟨rfl, fun j u hu => ?_⟩
   have ha0 : a = 0 := by rcases ha with ha | ha <;> omega
   subst ha0
   have hj : j < xs.length := by
    rcases Nat.lt_or_ge j xs.length with h | h
    ·exact h
    ·rw [List.getElem?_eq_none (by omega)] at hu; cases hu
   simp only [qW, h1, Nat.zero_add]
   rw [h3 j hj]; exact hu
theorem qWe {C D : zR} (hC : C.fp.Nodup) (hD : D.fp.Nodup) (hdis : ∀ b, b ∈ C.fp → b ∉ D.fp) : ((C.rows ++ D.rows).filterMap (·.1)).Nodup := by
 rw [List.filterMap_append]
 refine List.nodup_append.2 ⟨(List.nodup_append.1 hC).2.1, (List.nodup_append.1 hD).2.1, fun a ha b hb e => ?_⟩
 subst e
 exact hdis a (by simp only [zR.fp, List.mem_append]; exact .inr ha) (by simp only [zR.fp, List.mem_append]; exact .inr hb)
theorem zTb {P : Program} {M : zA} {w w' : World} (ok : Ok M) (hM : M.H = w.heap) {id jd nm : Nat} {v1 v2 : Nat} {xs ys : List (List Int)} {C Cj C' : zR} {s : Sem Value} {A : Option Addr} {c : Nat} {H' : Array Go.Obj}
  (hid : M.h id = some (.mat v1 xs)) (hjd : M.h jd = some (.mat v2 ys)) (hne : id ≠ jd) (hC : M.κ id = some C) (hCj : M.κ jd = some Cj) (hnm : M.h nm = none) (hsz : M.H.size ≤ H'.size)
  (hH : ∀ b, b < M.H.size → C.blk ≠ some b → H'[b]? = M.H[b]?) (hbs : ∀ b, b < M.H.size → qR H' b = qR M.H b)
  (hl : C'.len = (xs ++ ys).length) (hs1 : C'.sz = 1) (hv0 : C'.ver = 0) (hrows : C'.rows = C.rows ++ Cj.rows) (hblk : ∀ B, C'.blk = some B → (M.H.size ≤ B ∧ B < H'.size) ∨ C.blk = some B)
  (hx : match C'.blk with
   | none => xs ++ ys = []
   | some B => ∃ vals e, H'[B]? = some (.cells vals e (0, 0)) ∧ (xs ++ ys).length ≤ vals.size ∧ ∀ k (h : k < (xs ++ ys).length), zNp M.H (xs ++ ys)[k] (C.rows ++ Cj.rows)[k]? vals[k]?)
  (hA : vV H' C' 0 C'.len (.slice A (xs ++ ys).length c))
  (hw : w'.heap = H' ∧ w'.os = w.os ∧ w'.tape = w.tape ∧ w'.output = w.output) (hr : s.run P w = .ok (.slice A (xs ++ ys).length c) w') :
  qI P s M w (.c (.osl nm none)) [(id, .gone), (jd, .gone), (nm, .mat 0 (xs ++ ys))] := by
 obtain ⟨C0, hC0, hO⟩ := ok.obj id _ hid
 rw [hC] at hC0; cases hC0
 obtain ⟨C1, hC1, hOj⟩ := ok.obj jd _ hjd
 rw [hCj] at hC1; cases hC1
 have ndC := hO.2.2.2.2.1
 have ndD := hOj.2.2.2.2.1
 have hdis : ∀ b, b ∈ C.fp → b ∉ Cj.fp := fun b h1 h2 => ok.disj id jd _ _ C Cj b hne hid hjd rfl rfl hC hCj h1 h2
 have hni : id ≠ nm := fun e => by rw [e, hnm] at hid; cases hid
 have hnj : jd ≠ nm := fun e => by rw [e, hnm] at hjd; cases hjd
 have hh : ∀ n', (qE M.h [(id, .gone), (jd, .gone), (nm, .mat 0 (xs ++ ys))]) n' = if n' = nm then some (.mat 0 (xs ++ ys)) else if n' = jd then some .gone else if n' = id then some .gone else M.h n' := fun n' => by
  show (yC (yC (yC M.h id .gone) jd .gone) nm _) n' = _
  by_cases e : n' = nm
  ·rw [if_pos e, e, yB]
  ·rw [if_neg e, yE _ _ e]
   by_cases e2 : n' = jd
   ·rw [if_pos e2, e2, yB]
   ·rw [if_neg e2, yE _ _ e2]
    by_cases e3 : n' = id
    ·rw [if_pos e3, e3, yB]
    ·rw [if_neg e3, yE _ _ e3]
 have hownC : ∀ b ∈ C.fp, b < M.H.size := fun b hb => (ok.own b ⟨id, _, C, hid, rfl, hC, hb⟩).2
 have hownD : ∀ b ∈ Cj.fp, b < M.H.size := fun b hb => (ok.own b ⟨jd, _, Cj, hjd, rfl, hCj, hb⟩).2
 have hmem : ∀ R ∈ (C.rows ++ Cj.rows).filterMap (·.1), R ∈ C.fp ∧ C.blk ≠ some R ∨ R ∈ Cj.fp := fun R hR => by
  rw [List.filterMap_append] at hR
  rcases List.mem_append.1 hR with h | h
  ·refine .inl ⟨by simp only [zR.fp, List.mem_append]; exact .inr h, fun e => ?_⟩
   exact (List.nodup_append.1 ndC).2.2 R (by simp [e]) R h rfl
  ·exact .inr (by simp only [zR.fp, List.mem_append]; exact .inr h)
 have hrowH : ∀ R ∈ (C.rows ++ Cj.rows).filterMap (·.1), R < M.H.size ∧ C.blk ≠ some R := fun R hR => by
  rcases hmem R hR with ⟨h1, h2⟩ | h
  ·exact ⟨hownC R h1, h2⟩
  ·exact ⟨hownD R h, fun e => hdis R (wW e) h⟩
 have nd' : C'.fp.Nodup := by
  simp only [zR.fp, hrows]
  cases hB : C'.blk with
  | none => simpa using qWe ndC ndD hdis
  | some B =>
   simp only [Option.toList_some, List.singleton_append]
   refine List.nodup_cons.2 ⟨fun hm => ?_, qWe ndC ndD hdis⟩
   have := hrowH B hm
   rcases hblk B hB with h | h
   ·omega
   ·exact this.2 h
 have := zA.move_ok (M := M) (nm := nm) (o' := .mat 0 (xs ++ ys)) (C' := C') (h' := qE M.h [(id, .gone), (jd, .gone), (nm, .mat 0 (xs ++ ys))]) (H' := H') ok (fun j => j = id ∨ j = jd) hnm
  (fun j hj => by
   rcases hj with rfl | rfl
   ·exact ⟨_, hid, rfl, by rw [hh, if_neg hni, if_neg hne, if_pos rfl]⟩
   ·exact ⟨_, hjd, rfl, by rw [hh, if_neg hnj, if_pos rfl]⟩)
  (by rw [hh, if_pos rfl]) (fun n' h1 h2 => by rw [hh, if_neg h2, if_neg (fun e => h1 (.inr e)), if_neg (fun e => h1 (.inl e))]) hsz
  (fun b hb hn => hH b hb fun e => hn id C (.inl rfl) hC (wW e)) hbs
  (fun b hb => by
   simp only [zR.fp, hrows, List.mem_append] at hb
   rcases hb with hb | hb
   ·cases hB : C'.blk with
    | none => rw [hB] at hb; simp at hb
    | some B =>
     rw [hB] at hb
     simp at hb
     subst hb
     rcases hblk b hB with h | h
     ·exact .inl h
     ·exact .inr ⟨id, C, .inl rfl, hC, wW h⟩
   ·rcases hmem b hb with h | h
    ·exact .inr ⟨id, C, .inl rfl, hC, h.1⟩
    ·exact .inr ⟨jd, Cj, .inr rfl, hCj, h⟩)
  (fun x => by
   refine ⟨hv0, hl, hs1, ?_, nd', ?_⟩
   ·rw [hrows, List.length_append, hO.2.2.2.1, hOj.2.2.2.1, List.length_append]
   ·cases hB : C'.blk with
    | none => rw [hB] at hx; exact hx
    | some B =>
     rw [hB] at hx
     obtain ⟨vals, e, k1, k2, k3⟩ := hx
     refine ⟨vals, e, k1, k2, fun k hk => ?_⟩
     obtain ⟨rb, v, q1, q2, q3, q4⟩ := k3 k hk
     refine ⟨rb, v, by rw [hrows]; exact q1, q2, q3.ext x, fun R hR => ?_⟩
     obtain ⟨rv, er, q5, q6⟩ := q4 R hR
     have hRm := hrowH R (List.mem_filterMap.2 ⟨_, List.mem_of_getElem? q1, hR⟩)
     exact ⟨rv, er, by show H'[R]? = _; rw [hH R hRm.1 hRm.2]; exact q5, q6⟩)
 exact ⟨_, _, M.move nm C' (qE M.h [(id, .gone), (jd, .gone), (nm, .mat 0 (xs ++ ys))]) H', hr, hw.2.1, hw.2.2.1, hw.2.2.2, hw.1.symm, rfl, this.1, this.2, C', κset_same _ _ _, by rw [hl] at hA ⊢; exact hA⟩
theorem qLm {H : Array Go.Obj} {xs : List (List Int)} {rc : List (Option Nat × Nat)} {heads : List Value} (hl : heads.length = xs.length) (h : ∀ k (h : k < xs.length), zNp H xs[k] rc[k]? heads[k]?) : ∀ u ∈ heads, u.one1 = true := by
 intro u hu
 obtain ⟨k, hk, rfl⟩ := List.getElem_of_mem hu
 have := h k (by omega)
 rw [List.getElem?_eq_getElem hk] at this
 exact this.one
theorem yO6 {P : Program} {M : zA} {w : World} (ok : Ok M) (hM : M.H = w.heap) {id jd nm : Nat} {v1 v2 : Nat} {t e T : TypeId} {x b : Value} {xs ys : List (List Int)} (hu : P.underlying t = some (.slice e)) (hty : zAz P e = some (.sl (.int .i64)))
  (hnm : M.h nm = none) (hid : M.h id = some (.mat v1 xs)) (hjd : M.h jd = some (.mat v2 ys)) (hne : id ≠ jd) (hb : zV M (.osl id none) b) (hx : zV M (.osl jd none) x)
  (hroom : (xs.length + ys.length) * P.bytesOf e ≤ 140737488355328 ∧ xs.length + ys.length ≤ 140737488355328) :
  qI P (Builtin.append_ #[t, t] T #[b, x]) M w (.c (.osl nm none)) [(id, .gone), (jd, .gone), (nm, .mat 0 (xs ++ ys))] := by
 obtain ⟨i, z, h1, h2, h3, h4, h5, h6, h7⟩ := zEq hty
 obtain ⟨C, hC, hO⟩ := ok.obj id _ hid
 obtain ⟨Cj, hCj, hOj⟩ := ok.obj jd _ hjd
 obtain ⟨a1, a2, a3, a4, olds, a5, a6, a7⟩ := qQa hO
 obtain ⟨b1, b2, b3, b4, news, b5, b6, b7⟩ := qQa hOj
 have ho := yJp hC hb a5 a1 a2 (qLm a5 a6) a7
 have hn := yJp hCj hx b5 b1 b2 (qLm b5 b6) b7
 have hlz : (xs ++ ys).length = xs.length + ys.length := List.length_append
 have hone := qLm b5 b6
 have hall : ∀ k (h : k < (xs ++ ys).length), zNp M.H (xs ++ ys)[k] (C.rows ++ Cj.rows)[k]? (olds ++ news)[k]? := by
  intro k hk
  by_cases hlt : k < xs.length
  ·rw [List.getElem_append_left hlt, List.getElem?_append_left (by omega), List.getElem?_append_left (by omega)]
   exact a6 k hlt
  ·rw [List.getElem_append_right (by omega), List.getElem?_append_right (by omega), List.getElem?_append_right (by omega), a3, a5]
   exact b6 _ (by omega)
 obtain ⟨C', hC', A, sCap, rfl, hSl⟩ := hb
 rw [hC] at hC'; cases hC'
 rw [a1] at ho hSl
 have hsz1 : i.size = 1 := h3
 have hz1 : z.cells.size = 1 := h7
 by_cases hroom' : xs.length + ys.length ≤ sCap
 ·cases hB : C.blk with
  | none =>
   rw [hB] at hSl
   obtain ⟨rfl, h0, rfl⟩ := hSl
   have hr := zEi (P := P) (w := w) (A := none) (sLen := xs.length) (sCap := 0) T hu h1 hsz1 (by rw [← hM]; exact hn) hroom' w rfl
   rw [← hlz] at hr
   have hnil : xs ++ ys = [] := List.eq_nil_of_length_eq_zero (by omega)
   rw [a1]
   refine zTb (C' := ⟨none, (xs ++ ys).length, 1, 0, C.rows ++ Cj.rows⟩) (H' := M.H) ok hM hid hjd hne hC hCj hnm (Nat.le_refl _) (fun _ _ _ => rfl) (fun _ _ => rfl) rfl rfl rfl rfl (fun B hB => by cases hB) hnil ⟨none, 0, rfl, rfl, (by show (xs ++ ys).length = 0; omega), rfl⟩ ⟨hM.symm, rfl, rfl, rfl⟩ hr
  | some B =>
   rw [hB] at hSl a7
   obtain ⟨hc, a, rfl, ha, hs⟩ := hSl
   obtain ⟨vals, ev, k5, k6, k7⟩ := a7
   rw [Nat.zero_mul] at ha
   rw [Nat.zero_add, a2, Nat.mul_one] at hs
   have hbs : qR M.H B = vals.size := by simp only [qR, k5]
   rw [hbs] at hs
   have hwB : w.heap[B]? = some (.cells vals ev (0, 0)) := by rw [← hM]; exact k5
   by_cases h0 : sCap = 0
   ·have hr := zEi (P := P) (w := w) (A := some ⟨B, a, none⟩) (sLen := xs.length) (sCap := sCap) T hu h1 hsz1 (by rw [← hM]; exact hn) hroom' w (by
     have : news = [] := List.eq_nil_of_length_eq_zero (by omega)
     rw [this]; rfl)
    rw [← hlz] at hr
    have hnil : xs ++ ys = [] := List.eq_nil_of_length_eq_zero (by omega)
    rw [a1]
    refine zTb (C' := ⟨some B, (xs ++ ys).length, 1, 0, C.rows ++ Cj.rows⟩) (H' := M.H) ok hM hid hjd hne hC hCj hnm (Nat.le_refl _) (fun _ _ _ => rfl) (fun _ _ => rfl) rfl rfl rfl rfl (fun B' hB' => .inr (by cases hB'; exact hB))
     ⟨vals, ev, k5, by rw [hnil]; simp, fun k hk => by rw [hnil] at hk; simp at hk⟩ ⟨_, sCap, rfl, (by show (xs ++ ys).length ≤ sCap; omega), a, rfl, .inl h0, by rw [h0]; simp⟩ ⟨hM.symm, rfl, rfl, rfl⟩ hr
   ·have ha0 : a = 0 := by rcases ha with ha | ha <;> omega
    subst ha0
    have hfit : xs.length + news.length ≤ vals.size := by omega
    have hst := run_storeCells_at (P := P) B xs.length ev news 0 vals w hwB (by simpa using hfit) (fun v hv => zHu (hone v hv))
    simp only [Nat.add_zero] at hst
    have hr := zEi (P := P) (w := w) (A := some ⟨B, 0, none⟩) (sLen := xs.length) (sCap := sCap) T hu h1 hsz1 (by rw [← hM]; exact hn) hroom' (w.setRow B (yJ vals xs.length news))
     (by show (storeCells (Addr.add ⟨B, 0, none⟩ (xs.length * 1)) news).run P w = _; rw [Addr.add_lit, Nat.zero_add, Nat.mul_one]; exact hst)
    rw [← hlz] at hr
    obtain ⟨f1, f2, f3, f4⟩ := zCp hwB (new := yJ vals xs.length news) (jV hfit)
    rw [a1]
    refine zTb (C' := ⟨some B, (xs ++ ys).length, 1, 0, C.rows ++ Cj.rows⟩) (H' := (w.setRow B (yJ vals xs.length news)).heap) ok hM hid hjd hne hC hCj hnm (by rw [hM, f1]; exact Nat.le_refl _) (fun b hb hn => by rw [hM]; exact f3 b fun e => hn (e ▸ hB))
     (fun b _ => by rw [hM]; exact f4 b) rfl rfl rfl rfl (fun B' hB' => .inr (by cases hB'; exact hB)) ⟨_, ev, f2, by rw [jV hfit]; omega, fun k hk => ?_⟩ ⟨_, sCap, rfl, (by show (xs ++ ys).length ≤ sCap; omega), 0, rfl, .inr (by simp), by show (0 + sCap) * 1 ≤ qR _ B; rw [f4, ← hM, hbs]; omega⟩ ⟨rfl, rfl, rfl, rfl⟩ hr
    have := hall k hk
    rw [wJ hfit]
    by_cases hlt : k < xs.length
    ·rw [if_pos hlt, k7 k hlt]
     rw [List.getElem?_append_left (l₁ := olds) (by omega)] at this
     exact this
    ·rw [if_neg hlt, if_pos (by omega)]
     rw [List.getElem?_append_right (l₁ := olds) (by omega), a5] at this
     exact this
 ·have hr := qFa (P := P) (w := w) T hu h1 h2 hsz1 (by rw [← hM]; exact ho) (by rw [← hM]; exact hn) (by omega) (by rw [h6] at hroom; exact hroom.1) hroom.2
  have hge := grownCap_ge w (xs.length + ys.length) sCap e
  rw [← hlz] at hr hge
  generalize hus : olds.toArray ++ news.toArray ++ Builtin.zeroCells z.cells (grownCap w (xs ++ ys).length sCap e - (xs ++ ys).length) = us at hr
  have hus1 : us.size = grownCap w (xs ++ ys).length sCap e := by
   rw [← hus]
   simp only [Array.size_append, List.size_toArray, zKm, hz1]
   omega
  have hus2 : ∀ k, k < (xs ++ ys).length → us[k]? = (olds ++ news)[k]? := fun k hk => by
   rw [← hus, Array.getElem?_append_left (by simp; omega)]
   simp
  have hbz : ∀ us : Array Value, qR (M.H.push (.cells us e)) M.H.size = us.size := fun us => by simp [qR]
  rw [a1]
  refine zTb (C' := ⟨some M.H.size, (xs ++ ys).length, 1, 0, C.rows ++ Cj.rows⟩) (H' := M.H.push (.cells us e)) (w' := w.drew.alloc (.cells us e)) ok hM hid hjd hne hC hCj hnm (by simp) (fun b hb _ => zCa hb) (fun b hb => zK5 (zCa hb)) rfl rfl rfl rfl
   (fun B' hB' => .inl (by cases hB'; exact ⟨Nat.le_refl _, by simp⟩)) ⟨us, e, zIt, by omega, fun k hk => ?_⟩ ⟨_, _, rfl, hge, 0, by rw [hM], .inr (by simp), (by rw [hbz, hus1]; show (0 + _) * 1 ≤ _; omega)⟩ ⟨(by rw [hM]; rfl), rfl, rfl, rfl⟩ hr
  rw [hus2 k hk]
  exact hall k hk
theorem zHy {c : Bool} {s : yA} {v : zD} {u : zX} (h : yD (bif c then s else .stuck) v u) : c = true ∧ yD s v u := by
 cases c with
 | true => exact ⟨rfl, h⟩
 | false => exact h.elim
theorem yCr {c : Bool} {a b : yA} {v : zD} {u : zX} (h : yD (bif c then a else b) v u) : (c = true ∧ yD a v u) ∨ (c = false ∧ yD b v u) := by
 cases c with
 | true => exact .inl ⟨rfl, h⟩
 | false => exact .inr ⟨rfl, h⟩
theorem yC0 {z : Value} {t : Ty} (h : z.cells.toList = jX t) (hs : z.cells.size = t.size) {n i j : Nat} (hj : j < t.size) (hi : i < n) : (Builtin.zeroCells z.cells n).toList[i * t.size + j]? = (jX t)[j]? := by
 have hrow := Nat.mul_le_mul_right t.size (show i + 1 ≤ n by omega)
 rw [Nat.add_mul] at hrow
 rw [List.getElem?_eq_getElem (l := jX t) (by rw [zHc]; exact hj), ← yGs h hs (i := i) hj]
 simp only [Builtin.zeroCells, Array.getElem?_toList]
 rw [Array.getElem?_map, Array.getElem?_range, if_pos (by rw [hs]; omega)]
 rfl
theorem vC3 {z : Value} {t : Ty} (h : z.cells.toList = jX t) (hs : z.cells.size = t.size) {n : Nat} : ∀ v ∈ (Builtin.zeroCells z.cells n).toList, v.one1 = true := by
 intro v hv
 have hz : ∀ u ∈ jX t, u.one1 = true := by
  clear h hs hv
  induction t with
  | pair a b iha ihb =>
   intro u hu
   rcases List.mem_append.1 hu with hu | hu
   ·exact iha u hu
   ·exact ihb u hu
  | _ =>
   intro u hu
   rw [List.mem_singleton.1 hu]; rfl
 obtain ⟨k, hk, rfl⟩ := List.getElem_of_mem hv
 have hk' : k < n * t.size := by rw [Array.length_toList, zKm, hs] at hk; exact hk
 have h0 := t.size_pos
 have := yC0 h hs (n := n) (i := k / t.size) (j := k % t.size) (Nat.mod_lt _ h0) (by
  rw [Nat.div_lt_iff_lt_mul h0]; exact hk')
 rw [Nat.div_add_mod' k t.size, List.getElem?_eq_getElem hk, List.getElem?_eq_getElem (by rw [zHc]; exact Nat.mod_lt _ h0), Option.some.injEq] at this
 rw [this]
 exact hz _ (List.getElem_mem _)
theorem qN8 {P : Program} {M : zA} {w : World} (ok : Ok M) (hM : M.H = w.heap) {id nm n' : Nat} {t : Ty} {xs0 zs : List t.den} {C : zR} {H' : Array Go.Obj} {s : Sem Value} {c : Nat} {A : Option Addr} {w' : World}
  (hid : M.h id = some (.arr true t xs0)) (hC : M.κ id = some C) (hnm : M.h nm = none) (hsz : H'.size = M.H.size) (hH : ∀ b, b ∉ C.fp → H'[b]? = M.H[b]?) (hbs : ∀ b, qR H' b = qR M.H b)
  (hx : ∀ M', yG M M' → M'.H = H' → M'.G = M.G → match C.blk with
   | none => zs = []
   | some B => ∃ vals e, H'[B]? = some (.cells vals e (0, 0)) ∧ zs.length * t.size ≤ vals.size ∧ ∀ i (h : i < zs.length), zW M'.H M'.G t zs[i] (fun j => vals[i * t.size + j]?))
  (hn : n' ≤ zs.length) (hc : zs.length ≤ c) (hA : match C.blk with
   | none => A = none ∧ n' = 0 ∧ c = 0
   | some B => ∃ a, A = some ⟨B, a, none⟩ ∧ (c = 0 ∨ a = 0) ∧ c * t.size ≤ qR M.H B)
  (hw : w'.heap = H' ∧ w'.os = w.os ∧ w'.tape = w.tape ∧ w'.output = w.output) (hr : s.run P w = .ok (.slice A n' c) w') :
  qI P s M w (.c (.osl nm (some (0, n')))) [(id, .gone), (nm, .arr true t zs)] := by
 obtain ⟨C0, hC0, hO⟩ := ok.obj id _ hid
 rw [hC] at hC0; cases hC0
 obtain ⟨fr, ff⟩ := zR5 hO
 have hne : id ≠ nm := fun e => by rw [e, hnm] at hid; cases hid
 let C' : zR := ⟨C.blk, zs.length, t.size, 0, []⟩
 have hh : ∀ n', (qE M.h [(id, .gone), (nm, .arr true t zs)]) n' = if n' = nm then some (.arr true t zs) else if n' = id then some .gone else M.h n' := fun n' => by
  show (yC (yC M.h id .gone) nm _) n' = _
  by_cases e : n' = nm
  ·rw [if_pos e, e, yB]
  ·rw [if_neg e, yE _ _ e]
   by_cases e2 : n' = id
   ·rw [if_pos e2, e2, yB]
   ·rw [if_neg e2, yE _ _ e2]
 have := zA.move_ok (M := M) (nm := nm) (o' := .arr true t zs) (C' := C') (h' := qE M.h [(id, .gone), (nm, .arr true t zs)]) (H' := H') ok (fun j => j = id) hnm
  (fun j hj => ⟨.arr true t xs0, by rw [hj]; exact hid, rfl, by rw [hh, hj, if_neg hne, if_pos rfl]⟩)
  (by rw [hh, if_pos rfl]) (fun n' h1 h2 => by rw [hh, if_neg h2, if_neg h1]) (by omega) (fun b hb hn => hH b (hn id C rfl hC)) (fun b _ => hbs b)
  (fun b hb => .inr ⟨id, C, rfl, hC, by
   simp only [C', zR.fp, List.filterMap_nil, List.append_nil] at hb
   rw [ff]; exact hb⟩)
  (fun x => by
   refine ⟨rfl, rfl, fun _ => rfl, ?_⟩
   have := hx _ x rfl rfl
   show match C.blk with
    | none => _
    | some B => _
   cases hB : C.blk with
   | none => rw [hB] at this; exact this
   | some B =>
    rw [hB] at this
    obtain ⟨vals, e, h1, h2, h3⟩ := this
    exact ⟨vals, e, h1, fun h => (by cases h), h2, h3⟩)
 refine ⟨_, _, _, hr, hw.2.1, hw.2.2.1, hw.2.2.2, by rw [hw.1]; rfl, rfl, this.1, this.2, C', κset_same _ _ _, by show 0 + n' ≤ zs.length; omega, ⟨_, c, rfl, ?_⟩, _, _, _, rfl, by show zs.length ≤ 0 + c; omega⟩
 show match C.blk with
  | none => _
  | some B => _
 cases hB : C.blk with
 | none => rw [hB] at hA; exact hA
 | some B =>
  rw [hB] at hA
  obtain ⟨a, h2, h3, h4⟩ := hA
  refine ⟨by omega, a, h2, by simpa using h3, ?_⟩
  show (0 + c) * t.size ≤ qR H' B
  rw [hbs, Nat.zero_add]; exact h4
theorem yQl {P : Program} {M : zA} {w : World} (ok : Ok M) (hM : M.H = w.heap) {id nm i j m : Nat} {t e T : TypeId} {ty : Ty} {x b : Value} {xs : List ty.den} (hu : P.underlying t = some (.slice e)) (hty : zAz P e = some ty)
  (hnm : M.h nm = none) (hid : M.h id = some (.arr true ty xs)) (hb : zV M (.osl id (some (0, i))) b) (hx : zV M (.osl id (some (j, m))) x) (hij : i ≤ j) :
  qI P (Builtin.append_ #[t, t] T #[b, x]) M w (.c (.osl nm (some (0, i + m)))) [(id, .gone), (nm, .arr true ty (xs.take i ++ qY xs j m ++ xs.drop (i + m)))] := by
 obtain ⟨inf, z, h1, h2, h3, h4, h5, h6, h7⟩ := zEq hty
 obtain ⟨C, hC, hO⟩ := ok.obj id _ hid
 obtain ⟨news, hR, hE⟩ := zH3 hC hO hx
 obtain ⟨C1, hC1, hx1, _⟩ := hx
 rw [hC] at hC1; cases hC1
 obtain ⟨C1, hC1, hb1, ⟨A, c, rfl, hS⟩, hcap⟩ := hb
 rw [hC] at hC1; cases hC1
 obtain ⟨_, _, _, hcap, hcl⟩ := hcap
 cases hcap
 have hlen := hO.1
 have hsm : (rng xs (some (j, m))).length = m := zMk (by omega)
 rw [hsm] at hR
 have hnl : news.length = m * ty.size := hR.choose_spec.choose_spec.2.1
 have hst1 : (qY xs j m).length = m := hsm
 have hti : (xs.take i).length = i := by rw [List.length_take]; omega
 have hzl : (xs.take i ++ qY xs j m ++ xs.drop (i + m)).length = xs.length := by
  rw [List.length_append, List.length_append, hst1, hti, List.length_drop]; omega
 have hroom : i + m ≤ c := by omega
 cases hB : C.blk with
 | none =>
  rw [hB] at hS
  obtain ⟨rfl, rfl, rfl⟩ := hS
  have hr := zEi (P := P) (w := w) (A := none) (sLen := 0) (sCap := 0) T hu h1 h3 (by rw [← hM]; exact hR) hroom w rfl
  refine qN8 (s := Builtin.append_ #[t, t] T #[.slice none 0 0, x]) (H' := M.H) ok hM hid hC hnm rfl (fun _ _ => rfl) (fun _ => rfl) (fun M' _ _ _ => ?_) (by omega) (by omega) ?_ ⟨hM.symm, rfl, rfl, rfl⟩ hr
  ·rw [hB]
   exact List.eq_nil_of_length_eq_zero (by omega)
  ·rw [hB]
   exact ⟨rfl, by omega, rfl⟩
 | some B =>
  rw [hB] at hS
  obtain ⟨hc, a, rfl, ha, hs⟩ := hS
  obtain ⟨k1, k2, k3, k4⟩ := hO
  rw [hB] at k4
  obtain ⟨vals, ev, k5, k6, k7, k8⟩ := k4
  rw [Nat.zero_mul] at ha
  rw [Nat.zero_add, k2] at hs
  have hbs : qR M.H B = vals.size := by simp only [qR, k5]
  have hwB : w.heap[B]? = some (.cells vals ev (0, 0)) := by rw [← hM]; exact k5
  by_cases h0 : c = 0
  ·have hm0 : m = 0 := by omega
   have hr := zEi (P := P) (w := w) (A := some ⟨B, a, none⟩) (sLen := i) (sCap := c) T hu h1 h3 (by rw [← hM]; exact hR) hroom w (by
    have : news = [] := List.eq_nil_of_length_eq_zero (by rw [hnl, hm0, Nat.zero_mul])
    rw [this]; rfl)
   refine qN8 (s := Builtin.append_ #[t, t] T #[.slice (some ⟨B, a, none⟩) i c, x]) (H' := M.H) ok hM hid hC hnm rfl (fun _ _ => rfl) (fun _ => rfl) (fun M' _ _ _ => ?_) (by omega) (by omega) ?_ ⟨hM.symm, rfl, rfl, rfl⟩ hr
   ·rw [hB]
    refine ⟨vals, ev, k5, by rw [hzl]; exact k7, fun p hp => ?_⟩
    rw [hzl] at hp; omega
   ·rw [hB]
    exact ⟨a, rfl, .inl h0, by rw [h0]; simp⟩
  ·have ha0 : a = 0 := by rcases ha with ha | ha <;> omega
   subst ha0
   have hle := Nat.mul_le_mul_right ty.size (show i + m ≤ xs.length by omega)
   rw [Nat.add_mul] at hle
   have hfit : i * ty.size + news.length ≤ vals.size := by omega
   have hst := run_storeCells_at (P := P) B (i * ty.size) ev news 0 vals w hwB (by simpa using hfit) (fun v hv => zHu (hR.choose_spec.choose_spec.2.2.1 v hv))
   simp only [Nat.add_zero] at hst
   have hr := zEi (P := P) (w := w) (A := some ⟨B, 0, none⟩) (sLen := i) (sCap := c) T hu h1 h3 (by rw [← hM]; exact hR) hroom (w.setRow B (yJ vals (i * ty.size) news)) (by show (storeCells (Addr.add ⟨B, 0, none⟩ (i * ty.size)) news).run P w = _; rw [Addr.add_lit, Nat.zero_add]; exact hst)
   obtain ⟨f1, f2, f3, f4⟩ := zCp hwB (new := yJ vals (i * ty.size) news) (jV hfit)
   refine qN8 (s := Builtin.append_ #[t, t] T #[.slice (some ⟨B, 0, none⟩) i c, x]) (H' := (w.setRow B (yJ vals (i * ty.size) news)).heap) ok hM hid hC hnm (by rw [hM]; exact f1)
    (fun b hb => by rw [hM]; exact f3 b fun e => hb (e ▸ wW hB)) (fun b => by rw [hM]; exact f4 b) (fun M' xt hH hG => ?_) (by omega) (by omega) ?_ ⟨rfl, rfl, rfl, rfl⟩ hr
   ·rw [hB]
    refine ⟨_, ev, f2, by rw [hzl, jV hfit]; exact k7, fun p hp => ?_⟩
    rw [hzl] at hp
    have hrow := Nat.mul_le_mul_right ty.size (show p + 1 ≤ xs.length by omega)
    rw [Nat.add_mul] at hrow
    have old : (xs.take i ++ qY xs j m ++ xs.drop (i + m))[p]? = xs[p]? → (∀ q, q < ty.size → (yJ vals (i * ty.size) news)[p * ty.size + q]? = vals[p * ty.size + q]?) → zW M'.H M'.G ty ((xs.take i ++ qY xs j m ++ xs.drop (i + m))[p]'(by omega)) (fun q => (yJ vals (i * ty.size) news)[p * ty.size + q]?) := fun e1 e2 => by
     have e3 : (xs.take i ++ qY xs j m ++ xs.drop (i + m))[p]'(by omega) = xs[p] := by
      rw [List.getElem?_eq_getElem (by omega), List.getElem?_eq_getElem hp, Option.some.injEq] at e1
      exact e1
     rw [e3]
     exact yL xt.G xt.sameG ty _ _ _ e2 (k8 p hp)
    by_cases hp1 : p < i
    ·refine old ?_ fun q hq => ?_
     ·rw [List.append_assoc, List.getElem?_append_left (by omega), List.getElem?_take, if_pos hp1]
     ·have := Nat.mul_le_mul_right ty.size (show p + 1 ≤ i by omega)
      rw [Nat.add_mul] at this
      rw [wJ hfit, if_pos (by omega)]
    ·by_cases hp2 : p < i + m
     ·have e3 : (xs.take i ++ qY xs j m ++ xs.drop (i + m))[p]'(by omega) = (rng xs (some (j, m)))[p - i]'(by omega) := by
       rw [List.getElem_append_left (by rw [List.length_append, hti, hst1]; exact hp2), List.getElem_append_right (by omega)]
       simp only [hti]; rfl
      rw [e3]
      refine yL xt.G xt.sameG ty _ _ _ (fun q hq => ?_) (hE (p - i) (by omega))
      have q1 := Nat.mul_le_mul_right ty.size (show i ≤ p by omega)
      have q2 := Nat.mul_le_mul_right ty.size (show p - i + 1 ≤ m by omega)
      rw [Nat.add_mul] at q2
      have q3 : (p - i) * ty.size = p * ty.size - i * ty.size := Nat.sub_mul ..
      rw [wJ hfit, if_neg (by omega), if_pos (by omega)]
      congr 1; omega
     ·refine old ?_ fun q hq => ?_
      ·rw [List.getElem?_append_right (by rw [List.length_append, hti, hst1]; omega), List.getElem?_drop]
       congr 1
       rw [List.length_append, hti, hst1]; omega
      ·have := Nat.mul_le_mul_right ty.size (show i + m ≤ p by omega)
       rw [Nat.add_mul] at this
       rw [wJ hfit, if_neg (by omega), if_neg (by omega)]
   ·rw [hB]
    exact ⟨0, rfl, .inr rfl, by rw [← k2] at hs ⊢; exact hs⟩
theorem yUs {P : Program} {M : zA} {w : World} (ok : Ok M) (hM : M.H = w.heap) {t T : TypeId} {id lo n : Nat} {rx : Value} {v : zD} {u : zX} (hx : zV M (.osl id (some (lo, n))) rx)
  (h : yD (zY8 P M.h t id lo n) v u) : qI P (Builtin.clear_ #[t] T #[rx]) M w v u := by
 unfold zY8 at h
 split at h
 case h_2 => exact h.elim
 rename_i e s xs hu hid
 split at h
 case h_2 => exact h.elim
 rename_i ty hty
 obtain ⟨heq, h⟩ := zHy h
 have := zMj heq
 subst this
 obtain ⟨_, rfl, rfl⟩ := jZ h
 obtain ⟨inf, z, h1, h2, h3, h4, h5, h6, h7⟩ := zEq hty
 obtain ⟨C, hC, hx1, ⟨A, c, rfl, hS⟩, _⟩ := hx
 obtain ⟨C1, hC1, hO⟩ := ok.obj id _ hid
 rw [hC] at hC1; cases hC1
 by_cases hn0 : n = 0
 ·subst hn0
  have e0 : xs.take lo ++ List.replicate 0 ty.dflt ++ xs.drop (lo + 0) = xs := by simp
  rw [e0]
  refine ⟨.tuple #[], w, M, ?_, rfl, rfl, rfl, hM, ?_, ok, yO.refl M, trivial⟩
  ·cases A with
   | none => simp [Builtin.clear_, run_underlying hu]
   | some a => simp [Builtin.clear_, run_underlying hu]
  ·rw [qL5, zL7 hid]
 ·obtain ⟨k1, k2, k3, k4⟩ := hO
  cases hB : C.blk with
  | none => rw [hB] at hS; omega
  | some B =>
   rw [hB] at hS k4
   obtain ⟨hc, a, rfl, ha, hs⟩ := hS
   obtain ⟨vals, ev, k5, k6, k7, k8⟩ := k4
   have ha' : a = lo * ty.size := by rw [← k2]; rcases ha with ha | ha <;> omega
   subst ha'
   have hwB : w.heap[B]? = some (.cells vals ev (0, 0)) := by rw [← hM]; exact k5
   have hzl : (Builtin.zeroCells z.cells n).toList.length = n * ty.size := by rw [Array.length_toList, zKm, h7]
   have hle := Nat.mul_le_mul_right ty.size (show lo + n ≤ xs.length by omega)
   rw [Nat.add_mul] at hle
   have hfit : lo * ty.size + (Builtin.zeroCells z.cells n).toList.length ≤ vals.size := by omega
   have hone : ∀ v ∈ (Builtin.zeroCells z.cells n).toList, v.one1 = true := vC3 h4 h7
   have hst := run_storeCells_at (P := P) B (lo * ty.size) ev (Builtin.zeroCells z.cells n).toList 0 vals w hwB (by simpa using hfit) (fun v hv => zHu (hone v hv))
   simp only [Nat.add_zero] at hst
   obtain ⟨f1, f2, f3, f4⟩ := zCp hwB (new := yJ vals (lo * ty.size) (Builtin.zeroCells z.cells n).toList) (jV hfit)
   have hrun : (Builtin.clear_ #[t] T #[.slice (some ⟨B, lo * ty.size, none⟩) n c]).run P w = .ok (.tuple #[]) (w.setRow B (yJ vals (lo * ty.size) (Builtin.zeroCells z.cells n).toList)) := by
    obtain ⟨n', rfl⟩ : ∃ n', n = n' + 1 := ⟨n - 1, by omega⟩
    have e : (storeCells ⟨B, lo * ty.size, none⟩ (Builtin.zeroCells z.cells (n' + 1)).toList).run P w = .ok () (w.setRow B (yJ vals (lo * ty.size) (Builtin.zeroCells z.cells (n' + 1)).toList)) := hst
    simp [Builtin.clear_, run_underlying hu, zeroValue, typeInfo, h1, h2, e]
   have hH : ∀ b, b ∉ C.fp → (w.setRow B (yJ vals (lo * ty.size) (Builtin.zeroCells z.cells n).toList)).heap[b]? = M.H[b]? := fun b hbn => by
    rw [hM]; exact f3 b fun e => hbn (e ▸ wW hB)
   have hbs : ∀ b, b < M.H.size → qR (w.setRow B (yJ vals (lo * ty.size) (Builtin.zeroCells z.cells n).toList)).heap b = qR M.H b := fun b _ => by rw [hM]; exact f4 b
   have hol : (xs.take lo ++ List.replicate n ty.dflt ++ xs.drop (lo + n)).length = xs.length := by
    simp only [List.length_append, List.length_take, List.length_replicate, List.length_drop]; omega
   have x := zA.write_ext ok hid rfl hC C.le_refl hH hbs (.arr true ty (xs.take lo ++ List.replicate n ty.dflt ++ xs.drop (lo + n)))
   have := zA.write_ok ok hid rfl hC C.le_refl (fun _ h => h) (by rw [hM]; exact f1) hH hbs (o' := .arr true ty (xs.take lo ++ List.replicate n ty.dflt ++ xs.drop (lo + n))) (by
    refine ⟨by rw [hol]; exact k1, k2, k3, ?_⟩
    rw [hB]
    refine ⟨_, ev, f2, fun h => (by cases h), by rw [hol, jV hfit]; exact k7, fun p hp => ?_⟩
    rw [hol] at hp
    have hrow := Nat.mul_le_mul_right ty.size (show p + 1 ≤ xs.length by omega)
    rw [Nat.add_mul] at hrow
    have htl : (xs.take lo).length = lo := by rw [List.length_take]; omega
    have old : (xs.take lo ++ List.replicate n ty.dflt ++ xs.drop (lo + n))[p]? = xs[p]? → (∀ q, q < ty.size → (yJ vals (lo * ty.size) (Builtin.zeroCells z.cells n).toList)[p * ty.size + q]? = vals[p * ty.size + q]?) →
      zW (M.write id (.arr true ty (xs.take lo ++ List.replicate n ty.dflt ++ xs.drop (lo + n))) C (w.setRow B (yJ vals (lo * ty.size) (Builtin.zeroCells z.cells n).toList)).heap).H (M.write id (.arr true ty (xs.take lo ++ List.replicate n ty.dflt ++ xs.drop (lo + n))) C (w.setRow B (yJ vals (lo * ty.size) (Builtin.zeroCells z.cells n).toList)).heap).G ty ((xs.take lo ++ List.replicate n ty.dflt ++ xs.drop (lo + n))[p]'(by omega)) (fun q => (yJ vals (lo * ty.size) (Builtin.zeroCells z.cells n).toList)[p * ty.size + q]?) := fun e1 e2 => by
     have e3 : (xs.take lo ++ List.replicate n ty.dflt ++ xs.drop (lo + n))[p]'(by omega) = xs[p] := by
      rw [List.getElem?_eq_getElem (by omega), List.getElem?_eq_getElem hp, Option.some.injEq] at e1
      exact e1
     rw [e3]
     exact yL x.G x.sameG ty _ _ _ e2 (k8 p hp)
    by_cases hp1 : p < lo
    ·refine old ?_ fun q hq => ?_
     ·rw [List.append_assoc, List.getElem?_append_left (by omega), List.getElem?_take, if_pos hp1]
     ·have := Nat.mul_le_mul_right ty.size (show p + 1 ≤ lo by omega)
      rw [Nat.add_mul] at this
      rw [wJ hfit, if_pos (by omega)]
    ·by_cases hp2 : p < lo + n
     ·have e3 : (xs.take lo ++ List.replicate n ty.dflt ++ xs.drop (lo + n))[p]'(by omega) = ty.dflt := by
       rw [List.getElem_append_left (by rw [List.length_append, htl, List.length_replicate]; exact hp2), List.getElem_append_right (by omega)]
       simp
      rw [e3]
      refine zPe ty _ fun q hq => ?_
      have q1 := Nat.mul_le_mul_right ty.size (show lo ≤ p by omega)
      have q2 := Nat.mul_le_mul_right ty.size (show p - lo + 1 ≤ n by omega)
      rw [Nat.add_mul] at q2
      have q3 : (p - lo) * ty.size = p * ty.size - lo * ty.size := Nat.sub_mul ..
      rw [wJ hfit, if_neg (by omega), if_pos (by omega), show p * ty.size + q - lo * ty.size = (p - lo) * ty.size + q by omega, yC0 h4 h7 hq (by omega)]
     ·refine old ?_ fun q hq => ?_
      ·rw [List.getElem?_append_right (by rw [List.length_append, htl, List.length_replicate]; omega), List.getElem?_drop]
       congr 1
       rw [List.length_append, htl, List.length_replicate]; omega
      ·have := Nat.mul_le_mul_right ty.size (show lo + n ≤ p by omega)
       rw [Nat.add_mul] at this
       rw [wJ hfit, if_neg (by omega), if_neg (by omega)])
   exact ⟨_, _, _, hrun, rfl, rfl, rfl, rfl, rfl, this.1, this.2, trivial⟩
theorem vA1 {P : Program} {M : zA} {w : World} (ok : Ok M) (hM : M.H = w.heap) {mat : Bool} {nm : Nat} {t T : TypeId} {b x v : zD} {u : zX} {rb rx : Value}
  (hb : zT M b rb) (hx : zT M x rx) (h : yD (zK4 P mat nm M.h t b x) v u) : qI P (Builtin.append_ #[t, t] T #[rb, rx]) M w v u := by
 unfold zK4 at h
 split at h
 case h_2 => exact h.elim
 rename_i e b x hu hnm
 replace hb : zV M b rb := hb
 replace hx : zV M x rx := hx
 split at h
 ·exact h.elim
 rename_i ty hty
 dsimp only at h
 cases mat with
 | true =>
  simp only [cond_true] at h
  split at h
  ·rename_i id jd
   split at h
   ·rename_i v1 xs v2 ys hid hjd
    cases hne : Nat.beq id jd with
    | true => rw [hne] at h; exact h.elim
    | false =>
     rw [hne] at h
     obtain ⟨hr, rfl, rfl⟩ := jZ h
     exact yO6 ok hM hu hty hnm hid hjd (fun e => by subst e; simp at hne) hb hx (zPg hr)
   ·exact h.elim
  ·exact h.elim
 | false =>
  simp only [cond_false] at h
  split at h
  ·split at h
   ·rename_i ys u1 ht
    obtain ⟨hr, rfl, rfl⟩ := jZ h
    obtain ⟨rfl, news, h1, h2⟩ := qTc ok hx ht
    rw [show rb = .slice none 0 0 from hb]
    exact yQ3 ok hM hu hty hnm h1 h2 (zPg hr)
   ·exact h.elim
  ·rename_i id r
   split at h
   ·rename_i s xs hid
    split at h
    ·rename_i zs ys u1 hz ht
     obtain ⟨e1, hz⟩ := zBg hz
     subst e1
     subst hz
     obtain ⟨rfl, news, h1, h2⟩ := qTc ok hx ht
     split at h
     ·rename_i i
      rcases yCr h with ⟨hc, h⟩ | ⟨_, h⟩
      ·split at h
       ·rename_i i' jd j m zs e1 e2 _
        cases e1
        have := Nat.eq_of_beq_eq_true hc
        subst this
        obtain ⟨_, hz⟩ := zBg e2
        subst hz
        obtain ⟨hr, rfl, rfl⟩ := jZ h
        exact yQl ok hM hu hty hnm hid hb hx (Nat.le_of_ble_eq_true hr)
       ·exact h.elim
      ·obtain ⟨hr, rfl, rfl⟩ := jZ h
       exact qL0 ok hM hu hty hnm hid hb rfl h1 h2 (zPg hr)
     ·rcases yCr h with ⟨hc, h⟩ | ⟨_, h⟩
      ·exact h.elim
      ·obtain ⟨hr, rfl, rfl⟩ := jZ h
       exact qL0 ok hM hu hty hnm hid hb trivial h1 h2 (zPg hr)
     ·exact h.elim
    ·exact h.elim
   ·exact h.elim
  ·exact h.elim
theorem qLh {M : zA} (ok : Ok M) {c : zG} {v : Value} {t : Ty} {ys : List t.den} (hv : zV M c v) (h : zA5 M.h c = some ⟨t, ys⟩) {kd : IntKind} (ht : t = .int kd) :
  ∃ news, Rd M.H v ys.length t.size news ∧ ∃ F, ∀ i (hi : i < ys.length), zW M.H F t ys[i] (fun j => news[i * t.size + j]?) := by
 unfold zA5 at h
 split at h
 ·rename_i sh s xs
  cases h
  obtain ⟨news, h1, h2⟩ := qHa hv
  exact ⟨news, h1, _, h2⟩
 ·rename_i id r
  split at h
  ·rename_i own s xs hid
   cases h
   obtain ⟨C, hC, hO⟩ := ok.obj _ _ hid
   obtain ⟨news, h1, h2⟩ := zH3 hC hO hv
   exact ⟨news, h1, _, h2⟩
  ·cases r with
   | none => cases h; cases ht
   | some p => cases h
  ·cases h
 ·rename_i id i ver
  split at h
  ·rename_i v' xs hid
   cases hver : Nat.beq v' ver with
   | false => rw [hver] at h; cases h
   | true =>
    rw [hver] at h
    cases h
    have e : v' = ver := by simpa using hver
    subst e
    obtain ⟨C, hC, hO⟩ := ok.obj _ _ hid
    obtain ⟨C', hC', hone, _, hrow⟩ := hv
    rw [hC] at hC'; cases hC'
    obtain ⟨rb, rl, hr1, hr2⟩ := hrow hO.1
    by_cases hi : i < xs.length
    ·obtain ⟨B, rb', v2, k1, k2, k3, k4, k5, k6⟩ := zJm hO hi
     rw [hr1] at k3
     cases k3
     rw [show xs.getD i [] = xs[i] by simp [List.getD, hi]]
     cases rb with
     | none =>
      obtain ⟨rfl, h0⟩ := hr2
      have hnil : xs[i] = [] := List.eq_nil_of_length_eq_zero h0
      rw [hnil]
      obtain ⟨news, q1, q2⟩ := zP3 (H := M.H) (F := M.G) (t := .int .i64) (A := none) (c := 0)
      exact ⟨news, q1, _, q2⟩
     | some R =>
      obtain ⟨a, c, rfl, h1, h2, h3⟩ := hr2
      by_cases h0 : xs[i].length = 0
      ·have hnil : xs[i] = [] := List.eq_nil_of_length_eq_zero h0
       rw [hnil]
       obtain ⟨news, q1, q2⟩ := zP3 (H := M.H) (F := M.G) (t := .int .i64) (A := some ⟨R, a, none⟩) (c := c)
       exact ⟨news, q1, _, q2⟩
      ·have ha : a = 0 := by rcases h2 with h | h <;> omega
       subst ha
       obtain ⟨news, q1, q2⟩ := qMc (H := M.H) (F := fun _ => True) (t := .int .i64) (ys := xs[i]) (B := R) (o := 0) (c := c) h1 (fun j hj => by
        simp only [zW, Ty.size, Nat.zero_add, Nat.mul_one, Nat.add_zero]
        exact k6 R rfl j hj)
       exact ⟨news, q1, _, q2⟩
    ·have : C.rows[i]? = none := List.getElem?_eq_none (by have := hO.2.2.2.1; omega)
     rw [this] at hr1; cases hr1
  ·cases h
 ·cases h
theorem vDn {M : zA} (ok : Ok M) {c : zG} {v : Value} {t : Ty} {ys : List t.den} (hv : zV M c v) (h : zA5 M.h c = some ⟨t, ys⟩) : ∃ A k, v = .slice A ys.length k := by
 by_cases ht : t = .int .i64
 ·obtain ⟨news, ⟨A, k, e, _⟩, _⟩ := qLh ok hv h ht
  exact ⟨A, k, e⟩
 unfold zA5 at h
 split at h
 ·cases h
  obtain ⟨news, ⟨A, k, e, _⟩, _⟩ := qHa hv
  exact ⟨A, k, e⟩
 ·rename_i id r
  split at h
  ·rename_i own s xs hid
   cases h
   obtain ⟨C, hC, hO⟩ := ok.obj _ _ hid
   obtain ⟨news, ⟨A, k, e, _⟩, _⟩ := zH3 hC hO hv
   exact ⟨A, k, e⟩
  ·rename_i ver xs hid
   cases r with
   | none =>
    cases h
    obtain ⟨C, hC, hO⟩ := ok.obj _ _ hid
    obtain ⟨C', hC', A, k, e, _⟩ := hv
    rw [hC] at hC'; cases hC'
    exact ⟨A, k, by rw [e, hO.2.1]⟩
   | some p => cases h
  ·cases h
 ·rename_i id i ver
  split at h
  ·cases hver : Nat.beq _ ver with
   | false => rw [hver] at h; cases h
   | true => rw [hver] at h; cases h; exact absurd rfl ht
  ·cases h
 ·cases h
theorem vCw {M : zA} (ok : Ok M) {c : zG} {v : Value} {n : Nat} (hv : zV M c v) (h : zKz M.h c = some n) : ∃ A k, v = .slice A n k := by
 unfold zKz at h
 split at h
 ·cases h; exact ⟨none, 0, hv⟩
 ·cases h
  obtain ⟨C, B, _, _, e⟩ := hv
  exact ⟨_, _, e⟩
 ·split at h
  ·rename_i t xs hr
   cases h
   exact vDn ok hv hr
  ·cases h
theorem yUt {P : Program} {w : World} {t e : TypeId} {A : Option Addr} {n k : Nat} {T : TypeId} {ts : Array TypeId} (h0 : ts[0]? = some t) (hu : P.underlying t = some (.slice e)) :
  (Builtin.len_ ts T #[.slice A n k]).run P w = .ok (.int .i64 n) w := by
 have hr : (underlying t).run P w = .ok (.slice e) w := by simp [underlying, hu]
 simp [Builtin.len_, h0, hr, goInt]
theorem qSh {P : Program} {M : zA} {w : World} (ok : Ok M) (hM : M.H = w.heap) {lt : Bool} {l : List zD} {rl : Array Value} {v : zD} {u : zX} {ts : Array TypeId} {T : TypeId} (hl : zO (zT M) l rl.toList)
  (h : yD (zXa lt l) v u) : qI P (bif lt then Builtin.min_ ts T rl else Builtin.max_ ts T rl) M w v u := by
 unfold zXa at h
 split at h
 ·rename_i k x j y
  obtain ⟨rfl, rfl⟩ := vL h
  obtain ⟨rl⟩ := rl
  match rl, hl with
  | [a, b], ⟨h1, h2, _⟩ =>
   rw [show a = .int k x from h1, show b = .int j y from h2]
   refine .pure (rv := .int k (bif lt then (bif decide (y < x) then y else x) else (bif decide (y > x) then y else x))) ok hM ?_ rfl
   cases lt <;> simp [Builtin.min_, Builtin.max_, Builtin.min2, Builtin.max2, Bool.cond_decide]
 ·rename_i k x j y i z
  obtain ⟨rfl, rfl⟩ := vL h
  obtain ⟨rl⟩ := rl
  match rl, hl with
  | [a, b, c], ⟨h1, h2, h3, _⟩ =>
   rw [show a = .int k x from h1, show b = .int j y from h2, show c = .int i z from h3]
   refine .pure (rv := _) ok hM ?_ rfl
   cases lt <;> simp [Builtin.min_, Builtin.max_, Builtin.min2, Builtin.max2, Bool.cond_decide]
 ·exact h.elim
theorem yAk {M : zA} : ∀ {cs : List zG} {ns : List Int}, zHm cs = some ns → cs = ns.map (.int .i64)
 | [], ns, h => by cases h; rfl
 | .int .i64 n :: l, ns, h => by
  unfold zHm at h
  split at h
  ·rename_i r hr
   cases h
   rw [yAk (M := M) hr]; rfl
  ·cases h
theorem yLs (xs : List Int) : ∀ (ns : List Int) (i : Nat), zGu xs i (ns.map (.int .i64)) = (((xs.drop i).take ns.length) ++ ns.drop ((xs.drop i).take ns.length).length).map (.int .i64)
 | [], i => by simp [zGu]
 | n :: ns, i => by
  simp only [List.map_cons, zGu, yLs xs ns (i + 1)]
  by_cases hi : i < xs.length
  ·have hb : Nat.blt i xs.length = true := by simpa [Nat.blt_eq] using hi
   rw [hb, List.drop_eq_getElem_cons hi]
   simp only [cond_true, List.length_cons, List.take_succ_cons, List.drop_succ_cons, List.cons_append, List.map_cons]
   rw [show xs.getD i 0 = xs[i] by simp [List.getD, hi]]
  ·have hb : Nat.blt i xs.length = false := by
    cases h : Nat.blt i xs.length with
    | false => rfl
    | true => exact absurd (by simpa [Nat.blt_eq] using h) hi
   have e1 : xs.drop i = [] := List.drop_eq_nil_of_le (by omega)
   have e2 : xs.drop (i + 1) = [] := List.drop_eq_nil_of_le (by omega)
   rw [hb, e1, e2]
   simp
theorem yWp {P : Program} {M : zA} {w : World} (ok : Ok M) (hM : M.H = w.heap) {t e : TypeId} {ts : Array TypeId} {T : TypeId} {d s v : zD} {u : zX} {rd rs : Value} (h0 : ts[0]? = some t) (hu : P.underlying t = some (.slice e)) (he : P.cellsOf e = 1)
  (hd : zT M d rd) (hs : zT M s rs) (h : yD (zKq M.h d s) v u) : qI P (Builtin.copy_ ts T #[rd, rs]) M w v u := by
 unfold zKq at h
 split at h
 case h_2 => exact h.elim
 rename_i id off n s
 split at h
 case h_2 => exact h.elim
 rename_i cells ys hid hsrc
 split at h
 case h_2 => exact h.elim
 rename_i vs hcut
 split at h
 case h_2 => exact h.elim
 rename_i ns hns
 obtain ⟨_, rfl, rfl⟩ := jZ h
 clear h
 obtain ⟨C, B, hC, hB, rfl⟩ := hd
 obtain ⟨C', hC', B', vals, ev, k1, k2, k3, k4, k5⟩ := ok.obj id _ hid
 rw [hC] at hC'; cases hC'
 rw [hB] at k1; cases k1
 obtain ⟨c1, c2, c3⟩ := zO0 hcut
 obtain ⟨i, hi⟩ := zDr (P := P) (t := e) (by omega)
 obtain ⟨A, k, rfl, hrd⟩ : ∃ A k, rs = .slice A ys.length k ∧ ∃ news, Rd M.H (.slice A ys.length k) ys.length 1 news ∧ news = ys.map (.int .i64) := by
  split at hsrc
  ·cases hsrc
   exact ⟨none, 0, hs, [], ⟨none, 0, rfl, rfl, by simp, rfl⟩, rfl⟩
  ·obtain ⟨news, hR, F, hE⟩ := qLh ok hs hsrc rfl
   obtain ⟨A, k, e, hl, r⟩ := hR
   refine ⟨A, k, e, news, ⟨A, k, rfl, hl, r⟩, ?_⟩
   refine List.ext_getElem (by simpa [Ty.size] using hl) fun j h1 h2 => ?_
   have := hE j (by simpa using h2)
   simp only [zW, Ty.size, Nat.mul_one, Nat.add_zero] at this
   rw [List.getElem?_eq_getElem h1, Option.some.injEq] at this
   rw [this]; simp
 obtain ⟨news, ⟨A', k', e', hl, hone, hrd⟩, hnews⟩ := hrd
 cases e'
 let m := min ys.length n
 have hm : Nat.min ys.length n = m := rfl
 have hfirst : (Builtin.firstCells 1 m (.slice A ys.length k)).run P w = .ok (news.take m).toArray w := by
  have : Rd M.H (.slice A m k) m 1 (news.take m) := by
   refine ⟨A, k, rfl, ?_, fun u hu => hone u (List.mem_of_mem_take hu), ?_⟩
   ·rw [List.length_take, hl]; omega
   ·cases A with
    | none => have : ys.length = 0 := hrd; omega
    | some a =>
     rcases hrd with h | ⟨h1, h2⟩
     ·left; omega
     ·refine .inr ⟨h1, fun j u hu => h2 j u ?_⟩
      rw [List.getElem?_take] at hu
      split at hu
      ·exact hu
      ·cases hu
  have := this.first (P := P) w hM.symm
  cases A <;> exact this
 have hbw : w.heap[B]? = some (.cells vals ev (0, 0)) := by rw [← hM]; exact k3
 have hkl := k4.length
 have hnl : (news.take m).length = m := by rw [List.length_take, hl]; omega
 have hfit : off + (news.take m).length ≤ vals.size := by
  rw [hnl]; simp at hkl; omega
 have hst := run_storeCells_at (P := P) B off ev (news.take m) 0 vals w hbw (by simpa using hfit) (fun v hv => zHu (hone v (List.mem_of_mem_take hv)))
 simp only [Nat.add_zero] at hst
 have hrun : (Builtin.copy_ ts T #[.slice (some ⟨B, off, none⟩) n n, .slice A ys.length k]).run P w = .ok (.int .i64 (m : Nat)) (w.setRow B (yJ vals off (news.take m))) := by
  simp [Builtin.copy_, h0, run_underlying hu, Builtin.lenOf, zAu w hi, he, hm, hfirst, goInt]
  have e : (storeCells ⟨B, off, none⟩ (news.take m)).run P w = .ok () (w.setRow B (yJ vals off (news.take m))) := hst
  rw [e]; rfl
 obtain ⟨f1, f2, f3, f4⟩ := zCp hbw (new := yJ vals off (news.take m)) (jV hfit)
 have hH : ∀ b, b ∉ C.fp → (w.setRow B (yJ vals off (news.take m))).heap[b]? = M.H[b]? := fun b hbn => by
  rw [hM]; exact f3 b fun e => hbn (e ▸ wW hB)
 have hbs : ∀ b, b < M.H.size → qR (w.setRow B (yJ vals off (news.take m))).heap b = qR M.H b := fun b _ => by rw [hM]; exact f4 b
 let o' : Obj := .box true (cells.take off ++ zGu ys 0 vs ++ cells.drop (off + n))
 have x := zA.write_ext ok hid rfl hC C.le_refl hH hbs o'
 have hcells : cells.take off ++ zGu ys 0 vs ++ cells.drop (off + n) = cells.take off ++ (ys.take m).map (.int .i64) ++ cells.drop (off + ((ys.take m).map (zG.int .i64)).length) := by
  have hv := yAk (M := M) hns
  have hnn : ns.length = n := by rw [← c3, hv]; simp
  have htake : (ys.drop 0).take ns.length = ys.take m := by
   rw [List.drop_zero, hnn]
   by_cases h : ys.length ≤ n
   ·rw [List.take_of_length_le h, List.take_of_length_le (by omega)]
   ·rw [show m = n by omega]
  rw [hv, yLs, htake, List.map_append, List.map_drop, ← hv, List.append_assoc, List.append_assoc, List.append_assoc]
  congr 2
  have hlm : (ys.take m).length = m := by rw [List.length_take]; omega
  have e1 : cells.drop (off + n) = (cells.drop (off + m)).drop (n - m) := by
   rw [List.drop_drop]; congr 1; omega
  rw [List.length_map, hlm, c2, List.drop_take, List.drop_drop, e1, List.take_append_drop]
 have := zA.write_ok ok hid rfl hC C.le_refl (fun _ h => h) (by rw [hM]; exact f1) hH hbs (o' := o') (by
  refine ⟨B, _, ev, hB, k2, f2, ?_, fun h => (by cases h)⟩
  rw [hcells]
  refine qIn x k4 (us := news.take m) ?_ (by simpa using hfit)
  rw [hnews]
  refine zO.of_get (by simp) fun j h1 h2 => ?_
  simp [zV])
 exact ⟨_, _, _, hrun, rfl, rfl, rfl, rfl, rfl, this.1, this.2, rfl⟩
theorem yGt {P : Program} {t : TypeId} (h : zRj P t = true) : ∃ k e i, P.underlying t = some (.map k e) ∧ P.underlying k = some (.int .i64) ∧ P.info? e = some i ∧ i.zero = some (.bool false) := by
 unfold zRj at h
 split at h
 ·rename_i k e hu
  split at h
  ·rename_i hk hz
   obtain ⟨i, h1, h2⟩ := Option.bind_eq_some_iff.1 hz
   exact ⟨k, e, i, hu, hk, h1, h2⟩
  ·cases h
 ·cases h
theorem yQk {P : Program} {M : zA} {w : World} (ok : Ok M) (hM : M.H = w.heap) {nm : Nat} {t : TypeId} {v : zD} {u : zX} (h : yD (zJa P nm M.h t) v u) : qI P (Instr.makeMap t none) M w v u := by
 unfold zJa at h
 split at h
 case h_2 => exact h.elim
 rename_i hnm
 obtain ⟨_, h⟩ := zHy h
 obtain ⟨_, rfl, rfl⟩ := jZ h
 let C : zR := ⟨some M.H.size, 0, 0, 0, []⟩
 have := zA.new_ok ok hnm (.imap []) C (.map #[] 0) (by simp [C, zR.fp]) (by
  refine ⟨M.H.size, #[], 0, rfl, rfl, zIt, fun e he => (by simp at he), fun n => rfl⟩)
 refine ⟨.map (some w.heap.size), w.alloc (.map #[] 0), _, ?_, rfl, rfl, rfl, ?_, rfl, this.1, this.2, C, M.H.size, κset_same _ _ _, rfl, by rw [hM]⟩
 ·simp only [Instr.makeMap, Sem.run_bind, Sem.run_pure]; rfl
 ·show M.H.push _ = w.heap.push _
  rw [hM]
theorem qEy {n : Int} : ∀ {es : List MapEntry} {i : Nat}, (∀ e ∈ es, ∃ m b, e.key = .int .i64 m ∧ e.val = .bool b) →
  (wT n es = none ∧ Instr.findNow (.int .i64) (.int .i64 n) es i = some none) ∨
  (∃ j b e, wT n es = some (.bool b) ∧ Instr.findNow (.int .i64) (.int .i64 n) es i = some (some (i + j, .bool b)) ∧ es[j]? = some e ∧ e.key = .int .i64 n ∧
   ∀ f : MapEntry → MapEntry, (∀ e, (f e).key = .int .i64 n) → wT n (es.modify j f) = some (f e).val ∧ (∀ m, m ≠ n → wT m (es.modify j f) = wT m es) ∧ ∀ e' ∈ es.modify j f, e' ∈ es ∨ e' = f e)
 | [], i, _ => .inl ⟨rfl, rfl⟩
 | e :: es, i, h => by
  obtain ⟨m, b, h1, h2⟩ := h e (List.mem_cons_self ..)
  by_cases hm : n = m
  ·subst hm
   refine .inr ⟨0, b, e, ?_, ?_, rfl, h1, fun f hf => ⟨?_, fun m hne => ?_, fun e' he => ?_⟩⟩
   ·simp [wT, h1, h2]
   ·simp [Instr.findNow, Instr.sameNow, h1, h2]
   ·simp [wT, hf]
   ·simp [wT, hf, h1, hne]
   ·simp only [List.modify_zero_cons, List.mem_cons] at he ⊢
    rcases he with h | h
    ·exact .inr h
    ·exact .inl (.inr h)
  ·have hs : Instr.findNow (.int .i64) (.int .i64 n) (e :: es) i = Instr.findNow (.int .i64) (.int .i64 n) es (i + 1) := by
    have hb : (n == m) = false := by simp [hm]
    simp [Instr.findNow, Instr.sameNow, h1, hb]
   have hf : wT n (e :: es) = wT n es := by simp [wT, h1, hm]
   rcases qEy (es := es) (i := i + 1) (fun e he => h e (List.mem_cons_of_mem _ he)) with ⟨k1, k2⟩ | ⟨j, b', e', k1, k2, k3, k4, k5⟩
   ·exact .inl ⟨hf.trans k1, hs.trans k2⟩
   ·refine .inr ⟨j + 1, b', e', hf.trans k1, by rw [hs, k2]; congr 3; omega, by simpa using k3, k4, fun f hfk => ?_⟩
    obtain ⟨q1, q2, q3⟩ := k5 f hfk
    refine ⟨by rw [List.modify_succ_cons]; simp [wT, h1, hm, q1], fun m' hne => ?_, fun e'' he => ?_⟩
    ·rw [List.modify_succ_cons]
     simp only [wT, h1, q2 m' hne]
    ·rw [List.modify_succ_cons, List.mem_cons] at he
     rcases he with he | he
     ·exact .inl (by rw [he]; exact List.mem_cons_self ..)
     ·exact (q3 e'' he).imp (List.mem_cons_of_mem _) fun h => h
theorem zZl {P : Program} {w : World} {r : Nat} {es : Array MapEntry} {ck : Nat} (h : w.heap[r]? = some (.map es ck)) : (getObj r).run P w = .ok (.map es ck) w := by
 simp [getObj, Sem.run, h]
theorem qWy {P : Program} {w : World} {r : Nat} {es : Array MapEntry} {ck : Nat} (o : Go.Obj) (h : w.heap[r]? = some (.map es ck)) : (setObj r o).run P w = .ok () { w with heap := w.heap.setIfInBounds r o } := by
 simp [setObj, Sem.run, h]
theorem zS3 {P : Program} {w : World} {k : TypeId} {b : Bool} {n : Int} (h : P.underlying k = some (.int .i64)) : (Instr.checkKey b 10000 k (.int .i64 n)).run P w = .ok () w := by
 unfold Instr.checkKey
 simp [run_underlying h]
theorem zSl {P : Program} {w : World} {k : TypeId} {n : Int} {es : List MapEntry} {r : Option (Nat × Value)} (h : P.underlying k = some (.int .i64)) (hf : Instr.findNow (.int .i64) (.int .i64 n) es 0 = some r) : (Instr.findKey k (.int .i64 n) es).run P w = .ok r w := by
 unfold Instr.findKey
 simp [run_underlying h, hf]
theorem yVh {P : Program} {M : zA} {w : World} (ok : Ok M) (hM : M.H = w.heap) {t : TypeId} {x i v : zD} {u : zX} {rx ri : Value} (hx : zT M x rx) (hi : zT M i ri) (h : yD (zNc P M.h t x i) v u) : qI P (Instr.lookup t rx ri false) M w v u := by
 unfold zNc at h
 split at h
 case h_2 => exact h.elim
 rename_i id n
 split at h
 case h_2 => exact h.elim
 rename_i kvs hid
 obtain ⟨hb, h⟩ := zHy h
 obtain ⟨rfl, rfl⟩ := vL h
 obtain ⟨k, e, inf, h1, h2, h3, h4⟩ := yGt hb
 obtain ⟨C, B, hC, hB, rfl⟩ := hx
 obtain ⟨C', hC', B', es, ck, k1, k2, k3, k4, k5⟩ := ok.obj id _ hid
 rw [hC] at hC'; cases hC'
 rw [hB] at k1; cases k1
 have hri : ri = .int .i64 n := hi
 subst hri
 rw [hM] at k3
 refine .pure (rv := .bool ((kvs.lookup n).getD false)) ok hM ?_ rfl
 have h5 := k5 n
 unfold Instr.lookup
 rcases qEy (n := n) (i := 0) k4 with ⟨q1, q2⟩ | ⟨j, b, e', q1, q2, q3, q4, q5⟩
 ·rw [q1] at h5
  have : kvs.lookup n = none := by cases hl : kvs.lookup n with | none => rfl | some b => rw [hl] at h5; cases h5
  simp [run_underlying h1, zZl k3, zS3 h2, zSl h2 q2, zeroValue, typeInfo, h3, h4, this]
 ·rw [q1] at h5
  have : kvs.lookup n = some b := by cases hl : kvs.lookup n with | none => rw [hl] at h5; cases h5 | some b => rw [hl] at h5; cases h5; rfl
  simp [run_underlying h1, zZl k3, zS3 h2, zSl h2 q2, this]
theorem qCv {n : Int} {b : Bool} {c : Nat} : ∀ {es : List MapEntry}, wT n es = none → ∀ m, wT m (es ++ [⟨.int .i64 n, .bool b, c⟩]) = if m = n then some (.bool b) else wT m es
 | [], _, m => by simp [wT]
 | e :: es, h, m => by
  rw [List.cons_append]
  have hstep : ∀ (m : Int) (l : List MapEntry), wT m (e :: l) = match e.key with | .int .i64 k => if m = k then some e.val else wT m l | _ => wT m l := fun m l => rfl
  rw [hstep] at h
  rw [hstep, hstep]
  split at h
  ·rename_i k hk
   split at h
   ·cases h
   ·rename_i hne
    by_cases hm : m = k
    ·subst hm
     rw [if_pos rfl, if_neg (fun e => hne e.symm), if_pos rfl]
    ·rw [if_neg hm, qCv h m, if_neg hm]
  ·exact qCv h m
theorem yXa {P : Program} {M : zA} {w : World} (ok : Ok M) (hM : M.H = w.heap) {t : TypeId} {x i y v : zD} {u : zX} {rx ri ry : Value} (hx : zT M x rx) (hi : zT M i ri) (hy : zT M y ry) (h : yD (zJ7 P M.h t x i y) v u) :
  v = .undef ∧ zB7 P (Instr.mapUpdate t rx ri ry) M w u := by
 unfold zJ7 at h
 split at h
 case h_2 => exact h.elim
 rename_i id n b
 split at h
 case h_2 => exact h.elim
 rename_i kvs hid
 obtain ⟨hb, h⟩ := zHy h
 obtain ⟨_, rfl, rfl⟩ := jZ h
 obtain ⟨k, e, inf, h1, h2, h3, h4⟩ := yGt hb
 obtain ⟨C, B, hC, hB, rfl⟩ := hx
 obtain ⟨C', hC', B', es, ck, k1, k2, k3, k4, k5⟩ := ok.obj id _ hid
 rw [hC] at hC'; cases hC'
 rw [hB] at k1; cases k1
 have hri : ri = .int .i64 n := hi
 subst hri
 have hry : ry = .bool b := hy
 subst hry
 have k3' := k3
 rw [hM] at k3
 have hlt : B < w.heap.size := (Array.getElem?_eq_some_iff.1 k3).1
 have write : ∀ (es' : Array MapEntry) (ck' : Nat), (Instr.mapUpdate t (.map (some B)) (.int .i64 n) (.bool b)).run P w = .ok () { w with heap := w.heap.setIfInBounds B (.map es' ck') } →
   (∀ e ∈ es'.toList, ∃ m b, e.key = .int .i64 m ∧ e.val = .bool b) → (∀ m, wT m es'.toList = if m = n then some (.bool b) else wT m es.toList) → zB7 P (Instr.mapUpdate t (.map (some B)) (.int .i64 n) (.bool b)) M w [(id, .imap ((n, b) :: kvs))] := by
  intro es' ck' hr he hf
  have hat : ∀ c, (w.heap.setIfInBounds B (.map es' ck'))[c]? = if c = B then some (.map es' ck') else w.heap[c]? := fun c => by
   rw [Array.getElem?_setIfInBounds]
   by_cases hc : B = c
   ·subst hc; simp [hlt]
   ·rw [if_neg hc, if_neg (fun e => hc e.symm)]
  have hH : ∀ c, c ∉ C.fp → (w.heap.setIfInBounds B (.map es' ck'))[c]? = M.H[c]? := fun c hc => by
   rw [hat, if_neg (fun (e : c = B) => hc (by rw [e]; exact wW hB)), hM]
  have hbs : ∀ c, c < M.H.size → qR (w.heap.setIfInBounds B (.map es' ck')) c = qR M.H c := fun c _ => by
   unfold qR
   rw [hat, hM]
   by_cases hc : c = B
   ·subst hc; rw [if_pos rfl, k3]
   ·rw [if_neg hc]
  have := zA.write_ok ok hid rfl hC C.le_refl (fun _ h => h) (by rw [hM]; simp) hH hbs (o' := .imap ((n, b) :: kvs)) (by
   refine ⟨B, es', ck', hB, k2, ?_, he, fun m => ?_⟩
   ·show (w.heap.setIfInBounds B (.map es' ck'))[B]? = _
    rw [hat, if_pos rfl]
   ·rw [hf m, List.lookup_cons]
    by_cases hm : m = n
    ·subst hm; simp
    ·have : (m == n) = false := by simp [hm]
     rw [if_neg hm, this, k5 m])
  exact ⟨_, _, hr, rfl, rfl, rfl, rfl, rfl, this.1, this.2⟩
 refine ⟨rfl, ?_⟩
 rcases qEy (n := n) (i := 0) k4 with ⟨q1, q2⟩ | ⟨j, b', e', q1, q2, q3, q4, q5⟩
 ·refine write (es.push ⟨.int .i64 n, .bool b, ck⟩) (ck + 1) ?_ (fun e he => ?_) fun m => ?_
  ·unfold Instr.mapUpdate
   simp [run_underlying h1, zZl k3, zS3 h2, zSl h2 q2, qWy _ k3]
  ·rw [Array.toList_push, List.mem_append, List.mem_singleton] at he
   rcases he with he | he
   ·exact k4 e he
   ·exact ⟨n, b, by rw [he], by rw [he]⟩
  ·rw [Array.toList_push]
   exact qCv q1 m
 ·obtain ⟨r1, r2, r3⟩ := q5 (fun e => { e with key := .int .i64 n, val := .bool b }) fun _ => rfl
  refine write (es.modify j fun e => { e with key := .int .i64 n, val := .bool b }) ck ?_ (fun e he => ?_) fun m => ?_
  ·have hkey : ((es[j]?).map (·.key)).getD (.int .i64 n) = .int .i64 n := by
    have : es[j]? = some e' := by simpa using q3
    rw [this]; exact q4
   unfold Instr.mapUpdate
   rw [Nat.zero_add] at q2
   simp only [Array.getElem?_toList] at q3
   simp [run_underlying h1, zZl k3, zS3 h2, zSl h2 q2, qWy _ k3, q3, q4, Instr.keyThatStays, Instr.sameBits]
  ·rw [Array.toList_modify] at he
   rcases r3 e he with he | he
   ·exact k4 e he
   ·exact ⟨n, b, by rw [he], by rw [he]⟩
  ·rw [Array.toList_modify]
   by_cases hm : m = n
   ·subst hm; rw [if_pos rfl]; exact r1
   ·rw [if_neg hm]; exact r2 m hm
theorem yA9 : ∀ (ns : List Int) (b : ByteArray), ns.foldl (fun r n => r.push (UInt8.ofNat n.toNat)) b = ⟨(b.data.toList ++ zB2 ns).toArray⟩
 | [], b => by simp [zB2]
 | n :: ns, b => by
  rw [List.foldl_cons, yA9 ns]
  simp [ByteArray.push, zB2]
theorem yYo {P : Program} {M : zA} (ok : Ok M) {c : zG} {v : Value} {xs : List Int} (hv : zV M c v) (h : zMb M.h c = some xs) {w : World} (hM : M.H = w.heap) :
  ∃ A n k, v = .slice A n k ∧ (Conv.bytesToString v).run P w = .ok (.string ⟨(zB2 xs).toArray⟩) w := by
 unfold zMb at h
 split at h
 ·cases h
  refine ⟨none, 0, 0, hv, ?_⟩
  rw [show v = .slice none 0 0 from hv]
  simp [Conv.bytesToString, zB2, Sem.run_pure]
  rfl
 ·split at h
  ·rename_i ys hr
   obtain rfl : ys = xs := by simpa using h
   obtain ⟨news, ⟨A, k, e, hl, hone, hrd⟩, F, hE⟩ := qLh ok hv hr rfl
   refine ⟨A, _, k, e, ?_⟩
   have hn : news = ys.map (Value.int .u8) := by
    refine List.ext_getElem (by simpa [Ty.size] using hl) fun j h1 h2 => ?_
    have := hE j (by simpa using h2)
    simp only [zW, Ty.size, Nat.mul_one, Nat.add_zero] at this
    rw [List.getElem?_eq_getElem h1, Option.some.injEq] at this
    rw [this]; simp
   subst e
   cases A with
   | none =>
    have h0 : ys.length = 0 := hrd
    have h1 : ys = [] := List.eq_nil_of_length_eq_zero h0
    subst h1
    simp [Conv.bytesToString, zB2, Sem.run_pure]
    rfl
   | some a =>
    have hload : (loadCells a ys.length).run P w = .ok (ys.map (Value.int .u8)).toArray w := by
     rcases hrd with h0 | ⟨h1, h2⟩
     ·have h1 : ys = [] := List.eq_nil_of_length_eq_zero h0
      subst h1
      simp [loadCells, loadCellsFrom, Sem.run_pure]
     ·have := Rd.first (P := P) (H := M.H) (v := .slice (some a) ys.length k) (n := ys.length) (size := 1) (news := news) ⟨_, k, rfl, by simpa [Ty.size] using hl, hone, .inr ⟨h1, h2⟩⟩ w hM.symm
      rw [hn] at this
      simpa [Builtin.firstCells] using this
    rw [run_bytesToString w a _ k ys hload, yA9]
    simp [ByteArray.empty, ByteArray.emptyWithCapacity]
    rfl
  ·cases h
structure zE4 (M : zA) (w : World) (u : zX) (M' : zA) (w' : World) : Prop where
 os : w'.os = w.os
 tape : w'.tape = w.tape
 output : w'.output = w.output
 H : M'.H = w'.heap
 h : M'.h = qE M.h u
 ok : Ok M'
 step : yO M M'
def zFk (P : Program) (f : Nat) (args : List zD) (h : Hp) (v : zD) (u : zX) : Prop :=
 ∀ (M : zA) (w : World) (vs : Array Value), M.h = h → M.H = w.heap → Ok M → zO (zT M) args vs.toList →
  ((callFunc f vs).run P w = .ok (.enter f vs) w ∧ Calls P f vs w fun
   | .returned rv, w' => ∃ M', zE4 M w u M' w' ∧ zT M' v rv
   | _, _ => False) ∨ ∃ rv w' M', (callFunc f vs).run P w = .ok (.value rv) w' ∧ zE4 M w u M' w' ∧ zT M' v rv
def yH3 (P : Program) (S : zSv) : Prop := ∀ k nm f args h v u, yD (S k nm f args h) v u → zFk P f args h v u
structure jI (E : qA) : Prop where
 eq : zSz E.P E.eqT
 sums : yH3 E.P E.sums
section
variable {P : Program} {Q : Exit → Act → World → Prop} {o : Oper} {a : Act} {w : World} {M : zA} {next : Act → World → Prop} {v : zD} {u : zX}
theorem zAb {s : Sem Value} (hr : qI P s M w v u) (he : execOp a.eval o = (do pure (.value (← s)) : Sem Next)) (hn : ∀ M' w' rv, zE4 M w u M' w' → zT M' v rv → next (a.put o.dst rv) w') :
  o.wp P a w next Q := by
 obtain ⟨rv, w', M', h1, h2, h3, h4, h5, h6, h7, h8, h9⟩ := hr
 unfold Oper.wp
 rw [he]
 simp only [Sem.run_bind, h1, Result.andThen_ok, Sem.run_pure]
 exact hn M' w' rv ⟨h2, h3, h4, h5, h6, h7, h8⟩ h9
theorem qXa {s : Sem Unit} (hr : zB7 P s M w u) (he : execOp a.eval o = (do s; pure .skip : Sem Next)) (hn : ∀ M' w' rv, zE4 M w u M' w' → zT M' .undef rv → next (a.put o.dst rv) w') :
  o.wp P a w next Q := by
 obtain ⟨w', M', h1, h2, h3, h4, h5, h6, h7, h8⟩ := hr
 unfold Oper.wp
 rw [he]
 simp only [Sem.run_bind, h1, Result.andThen_ok, Sem.run_pure]
 exact hn M' w' undef ⟨h2, h3, h4, h5, h6, h7, h8⟩ trivial
theorem zEk (ok : Ok M) (hM : M.H = w.heap) {rv : Value} (hu : u = []) (hv : zT M v rv) (he : (execOp a.eval o).run P w = .ok (.value rv) w) (hn : ∀ M' w' rv, zE4 M w u M' w' → zT M' v rv → next (a.put o.dst rv) w') :
  o.wp P a w next Q := by
 unfold Oper.wp
 rw [he]
 subst hu
 exact hn M w rv ⟨rfl, rfl, rfl, hM, rfl, ok, .refl M⟩ hv
end
theorem zN4 {α β : Type} (f : α → Option β) : ∀ (l : List α) (r : List β), l.mapM f = some r → zO (fun a b => f a = some b) l r
 | [], r, h => by simp at h; subst h; trivial
 | a :: l, r, h => by
  simp only [List.mapM_cons, Option.bind_eq_bind, Option.bind_eq_some_iff] at h
  obtain ⟨b, h1, bs, h2, h3⟩ := h
  cases h3
  exact ⟨h1, zN4 f l bs h2⟩
theorem zO.map_left {α β γ : Type} {R : γ → β → Prop} {f : α → γ} : ∀ {l : List α} {m : List β}, zO (fun a b => R (f a) b) l m → zO R (l.map f) m
 | [], [], _ => trivial
 | _ :: _, _ :: _, h => ⟨h.1, zO.map_left h.2⟩
 | [], _ :: _, h => h.elim
 | _ :: _, [], h => h.elim
def _root_.Go.Operand.lit : Operand → Value
 | .const c => c
 | _ => undef
theorem yUm {P : Program} {M : zA} {w : World} {t : TypeId} {d : TypeDesc} {y : Operand} {x : zG} {rx ry : Value} {b : Bool} (hu : P.underlying t = some d) (hx : zV M x rx) (hy : ry = y.lit)
  (h : qAe d y x = some b) (op : BinOp) (hop : op = .eql ∨ op = .neq) (ox oy : Operand) :
  (eqGuard op t ox oy rx ry).run P w = .ok () w ∧ (binOp op t rx ry).run P w = .ok (.bool (zQk op b)) w := by
 have key : ∀ n, (Op.equalIn (n + 1) t rx ry).run P w = .ok b w → (eqGuard op t ox oy rx ry).run P w = .ok () w → (binOp op t rx ry = match op with | .eql => (do pure (.bool (← Op.equal t rx ry))) | _ => (do pure (.bool (!(← Op.equal t rx ry))))) →
   n = 9999 → (eqGuard op t ox oy rx ry).run P w = .ok () w ∧ (binOp op t rx ry).run P w = .ok (.bool (zQk op b)) w := by
  intro n h1 h2 h3 hn
  have h1' : (Op.equal t rx ry).run P w = .ok b w := by subst hn; exact h1
  refine ⟨h2, ?_⟩
  rw [h3]
  rcases hop with rfl | rfl <;> simp [h1', zQk]
 unfold qAe at h
 split at h <;> cases h <;> simp only [Operand.lit] at hy <;> subst hy
 all_goals (try obtain rfl : rx = _ := hx)
 all_goals (try obtain ⟨C, B, _, _, rfl⟩ := hx)
 all_goals (try obtain ⟨C, B, _, _, _, rfl⟩ := hx)
 all_goals (try obtain ⟨B, o, rfl, _⟩ := hx)
 all_goals (try obtain ⟨cv, rfl, _⟩ := hx)
 all_goals (try obtain ⟨⟨_, _, _, rfl⟩, _⟩ := hx)
 all_goals
  refine key 9999 ?_ ?_ ?_ rfl
  ·generalize 9999 = n
   unfold Op.equalIn
   simp [run_underlying hu]
  ·rcases hop with rfl | rfl <;> simp [eqGuard]
  ·rcases hop with rfl | rfl <;> rfl
theorem zZ6 {M : zA} {ev : Operand → zD} {ρ : Operand → Value} (hev : ∀ x, zT M (ev x) (ρ x)) : ∀ (l : List (Nat × Operand)), zO (zIx M) (l.map fun p => (p.1, ev p.2)) (l.map fun p => (p.1, ρ p.2))
 | [] => trivial
 | p :: l => ⟨⟨rfl, hev p.2⟩, zZ6 hev l⟩
theorem yF6 {f : Operand → Value} (parts : Array (Nat × Operand)) : (parts.map fun (i, x) => (i, f x)) = (parts.toList.map fun p => (p.1, f p.2)).toArray := by
 cases parts; simp
theorem yHo {M : zA} {ev : Operand → zD} {ρ : Operand → Value} (hev : ∀ x, zT M (ev x) (ρ x)) : ∀ {l : List Operand} {ids : List Nat}, zO (fun x id => zGa (ev x) = some id) l ids →
  zO (fun id u => ∃ C B, M.κ id = some C ∧ C.blk = some B ∧ u = .pointer (some ⟨B, 0, none⟩)) ids (l.map ρ)
 | [], [], _ => trivial
 | x :: l, id :: ids, h => by
  refine ⟨?_, yHo hev h.2⟩
  have h1 : zGa (ev x) = some id := h.1
  have hx := hev x
  unfold zGa at h1
  split at h1
  ·rename_i id' hc
   cases h1
   rw [hc] at hx
   exact hx
  ·cases h1
 | [], _ :: _, h => h.elim
 | _ :: _, [], h => h.elim
theorem yBo {M : zA} {ev : Operand → zD} {ρ : Operand → Value} (hev : ∀ x, zT M (ev x) (ρ x)) : ∀ (l : List Operand), zO (zT M) (l.map ev) (l.map ρ)
 | [] => trivial
 | x :: l => ⟨hev x, yBo hev l⟩
theorem vC6 {E : qA} (hE : jI E) {A : zZ} {k pre : Nat} {Q : Exit → Act → World → Prop} {o : Oper} {a : Act} {w : World} {M : zA} {next : Act → World → Prop} {v : zD} {u : zX} {ev : Operand → zD} (ok : Ok M) (hM : M.H = w.heap)
  (hev : ∀ x, zT M (ev x) (a.eval x)) (h : yD (opS E A k pre o ev M.h) v u) (hn : ∀ M' w' rv, zE4 M w u M' w' → zT M' v rv → next (a.put o.dst rv) w') : o.wp E.P a w next Q := by
 unfold opS at h
 dsimp only at h
 split at h
 ·rename_i x ho
  obtain ⟨rfl, rfl⟩ := vL h
  exact zEk ok hM rfl (hev x) (by cases o; cases ho; rfl) hn
 ·rename_i x ho
  obtain ⟨rfl, rfl⟩ := vL h
  exact zEk ok hM rfl (hev x) (by cases o; cases ho; rfl) hn
 ·rename_i c x y ho
  split at h
  ·rename_i cb hc
   have hcv := hev c
   rw [hc] at hcv
   have hcv : a.eval c = .bool cb := hcv
   split at h
   ·rename_i xb yb hx hy
    obtain ⟨rfl, rfl⟩ := vL h
    have h1 := hev x
    have h2 := hev y
    rw [hx] at h1
    rw [hy] at h2
    refine zEk (rv := .bool (bif cb then xb else yb)) ok hM rfl (show zT M (.c (.bool _)) (.bool _) from rfl) ?_ hn
    have h1 : a.eval x = .bool xb := h1
    have h2 : a.eval y = .bool yb := h2
    cases o
    cases ho
    show (do pure (.value (if ← asBool (a.eval c) then a.eval x else a.eval y)) : Sem Next).run E.P w = _
    cases cb <;> simp [hcv, asBool, h1, h2]
   ·refine zEk (rv := if cb then a.eval x else a.eval y) ok hM ?_ ?_ ?_ hn
    ·rcases h with ⟨_, _, rfl⟩ | ⟨_, ⟨_, _, rfl⟩ | ⟨_, h⟩⟩
     ·rfl
     ·rfl
     ·exact h.elim
    ·rcases h with ⟨rfl, rfl, _⟩ | ⟨rfl, ⟨_, rfl, _⟩ | ⟨_, h⟩⟩
     ·exact hev x
     ·exact hev y
     ·exact h.elim
    ·cases o
     cases ho
     show (do pure (.value (if ← asBool (a.eval c) then a.eval x else a.eval y)) : Sem Next).run E.P w = _
     cases cb <;> simp [hcv, asBool]
  ·exact h.elim
 ·rename_i t ho
  split at h
  ·rename_i zs hnm hz
   obtain ⟨_, rfl, rfl⟩ := jZ h
   exact zAb (vFe ok hM hnm hz) (by cases o; cases ho; rfl) hn
  ·exact h.elim
 ·rename_i t x ho
  split at h
  ·rename_i vs hnm hv
   obtain ⟨_, rfl, rfl⟩ := jZ h
   exact zAb (yX4 ok hM hnm (hev x) hv _) (by cases o; cases ho; rfl) hn
  ·exact h.elim
 ·rename_i t parts ho
  have hp := zZ6 hev parts.toList
  have := yYf ok hM hp h
  exact zAb this (by cases o; cases ho; rw [← yF6]; rfl) hn
 ·rename_i t n parts ho
  have hp := zZ6 hev parts.toList
  exact zAb (yWy ok hM hp h) (by cases o; cases ho; rw [← yF6]; rfl) hn
 ·rename_i t x ho
  exact zAb (yP0 ok hM (hev x) h) (by cases o; cases ho; rfl) hn
 ·rename_i t x y ho
  obtain ⟨rfl, hr⟩ := yPy ok hM (hev x) (hev y) h
  exact qXa hr (by cases o; cases ho; rfl) hn
 ·rename_i x ho
  have hx := hev x
  have key : ∀ c, ev x = .c c → v = .c c → u = [] → (match a.eval x with | .pointer none | .nilIface | .nilFunc => False | .func (.method _) _ _ => False | _ => True) → o.wp E.P a w next Q := by
   intro c hc hv hu hm
   rw [hc] at hx
   refine zEk (rv := a.eval x) ok hM hu (by rw [hv]; exact hx) ?_ hn
   cases o
   cases ho
   simp only [execOp]
   generalize a.eval x = r at *
   split <;> first | rfl | exact hm.elim
  split at h
  ·rename_i i j hc
   obtain ⟨rfl, rfl⟩ := vL h
   refine key _ hc rfl rfl ?_
   rw [hc] at hx
   obtain ⟨C, B, _, _, e⟩ := hx
   rw [e]; trivial
  ·rename_i i j k hc
   obtain ⟨rfl, rfl⟩ := vL h
   refine key _ hc rfl rfl ?_
   rw [hc] at hx
   obtain ⟨C, B, _, _, _, e⟩ := hx
   rw [e]; trivial
  ·rename_i i j k l hc
   obtain ⟨rfl, rfl⟩ := vL h
   refine key _ hc rfl rfl ?_
   rw [hc] at hx
   obtain ⟨B, o, e, _⟩ := hx
   rw [e]; trivial
  ·rename_i i j hc
   obtain ⟨rfl, rfl⟩ := vL h
   refine key _ hc rfl rfl ?_
   rw [hc] at hx
   obtain ⟨cv, e, _⟩ := hx
   rw [e]; trivial
  ·exact h.elim
 ·rename_i op t x y _ ho
  cases hc : (yIh y && qRr op) with
  | false =>
   rw [hc] at h
   exact zAb (yTl hE.eq ok hM (hev x) (hev y) h) (by cases o; cases ho; rfl) hn
  | true =>
   rw [hc] at h
   rw [Bool.and_eq_true] at hc
   have hop : op = .eql ∨ op = .neq := by cases op <;> first | (left; rfl) | (right; rfl) | (cases hc.2)
   split at h
   ·rename_i d cv hu hcv
    split at h
    ·rename_i b hb
     obtain ⟨rfl, rfl⟩ := vL h
     have hx := hev x
     rw [hcv] at hx
     have hy : a.eval y = y.lit := by
      cases y <;> first | rfl | (cases hc.1)
     obtain ⟨h1, h2⟩ := yUm (w := w) hu hx hy hb op hop x y
     refine zEk (rv := .bool (zQk op b)) ok hM rfl (show zT M (.c (.bool _)) (.bool _) from rfl) ?_ hn
     cases o
     cases ho
     show (do pure (.value (← (do eqGuard op t x y (a.eval x) (a.eval y); binOp op t (a.eval x) (a.eval y)))) : Sem Next).run E.P w = _
     simp only [Sem.run_bind, h1, Result.andThen_ok, h2, Sem.run_pure]
    ·exact h.elim
   ·exact h.elim
 ·rename_i op t x ho
  exact zAb (vGb ok hM (hev x) h) (by cases o; cases ho; rfl) hn
 ·rename_i s d x ho
  split at h
  ·rename_i k1 k k2 n hs hd hx
   obtain ⟨rfl, rfl⟩ := vL h
   have hxv := hev x
   rw [hx] at hxv
   have hxv : a.eval x = .int k2 n := hxv
   refine zEk (rv := .int k (k.wrap n)) ok hM rfl (show zT M (.c (.int _ _)) (.int _ _) from rfl) ?_ hn
   cases o
   cases ho
   show (do pure (.value (← convert s d (a.eval x))) : Sem Next).run E.P w = _
   simp [convert, run_underlying hs, run_underlying hd, hxv, Conv.intToInt]
  ·rename_i e c hs hd hx
   split at h
   ·rename_i xs he hxs
    obtain ⟨rfl, rfl⟩ := vL h
    have hxv := hev x
    rw [hx] at hxv
    obtain ⟨A, n, k, e1, e2⟩ := yYo (P := E.P) (w := w) ok hxv hxs hM
    refine zEk (rv := .string ⟨(zB2 xs).toArray⟩) ok hM rfl (show zT M (.c (.str xs)) _ from rfl) ?_ hn
    cases o
    cases ho
    show (do pure (.value (← convert s d (a.eval x))) : Sem Next).run E.P w = _
    rw [e1] at e2 ⊢
    simp only [Sem.run_bind, run_convert_bytes_string w s d e A n k hs he hd, e2, Result.andThen_ok, Sem.run_pure]
   ·exact h.elim
  ·exact h.elim
 ·rename_i f first captured ho
  cases hf : Nat.beq first.size 0 with
  | false => rw [hf] at h; exact h.elim
  | true =>
   rw [hf] at h
   simp only [cond_true] at h
   split at h
   ·rename_i ids hids
    obtain ⟨rfl, rfl⟩ := vL h
    have h0 : first = #[] := Array.eq_empty_of_size_eq_zero (by simpa using hf)
    refine zEk (rv := .func (.func f) #[] (captured.map a.eval)) ok hM rfl ?_ ?_ hn
    case refine_2 =>
     cases o
     cases ho
     show (do pure (.value (← Instr.makeFunc (.func f) (first.map a.eval) (captured.map a.eval))) : Sem Next).run E.P w = _
     subst h0
     simp [Instr.makeFunc]
    refine ⟨_, rfl, ?_⟩
    rw [Array.toList_map]
    exact yHo hev (zN4 _ _ _ hids)
   ·exact h.elim
 ·rename_i t l c ho
  exact zAb (yYj ok hM (hev l) (hev c) h) (by cases o; cases ho; rfl) hn
 ·rename_i t ho
  exact zAb (yQk ok hM h) (by cases o; cases ho; rfl) hn
 ·rename_i t x i ho
  exact zAb (yVh ok hM (hev x) (hev i) h) (by cases o; cases ho; rfl) hn
 ·rename_i t x i y ho
  obtain ⟨rfl, hr⟩ := yXa ok hM (hev x) (hev i) (hev y) h
  exact qXa hr (by cases o; cases ho; rfl) hn
 ·rename_i t x lo hi mx ho
  have hO : ∀ y : Option Operand, zLj M (y.map ev) (y.map a.eval) := fun y => by
   cases y with
   | none => trivial
   | some y => exact hev y
  exact zAb (yR2 ok hM (hev x) (hO lo) (hO hi) (hO mx) h) (by cases o; cases ho; rfl) hn
 ·rename_i t x f ho
  exact zAb (yRg ok hM (hev x) h) (by cases o; cases ho; rfl) hn
 ·rename_i t x f ho
  exact zAb (yP6 ok hM (hev x) h) (by cases o; cases ho; rfl) hn
 ·rename_i t x i ho
  exact zAb (yYz ok hM (hev x) (hev i) h) (by cases o; cases ho; rfl) hn
 ·rename_i t x i ho
  exact zAb (vC1 ok hM (hev x) (hev i) h) (by cases o; cases ho; rfl) hn
 ·rename_i t i ho
  have ht := hev t
  split at h
  ·rename_i xs hxs
   rw [hxs] at ht
   obtain ⟨vs, hvs, hall⟩ := ht
   split at h
   ·rename_i g cs hi
    obtain ⟨hp, rfl⟩ := qE1 h
    have hl := hall.length
    have hlt : i < xs.length := by
     rcases Nat.lt_or_ge i xs.length with h | h
     ·exact h
     ·rw [List.getElem?_eq_none h] at hi; cases hi
    have hlt' : i < vs.size := by simp at hl; omega
    have hc := hall.get i hlt (by simpa using hlt')
    rw [List.getElem?_eq_getElem hlt, Option.some.injEq] at hi
    rw [hi] at hc
    refine zEk (rv := vs[i]) ok hM rfl ?_ ?_ hn
    ·rcases qA8 hp with ⟨e1, rfl⟩ | ⟨e1, c, rfl, rfl⟩
     ·cases e1; exact hc
     ·cases e1; exact hc
    ·cases o
     cases ho
     show (do pure (.value (← Instr.extract (a.eval t) i)) : Sem Next).run E.P w = _
     rw [hvs]
     simp [Instr.extract, hlt']
   ·exact h.elim
  ·exact h.elim
 ·rename_i c ho
  have hargs := yBo hev c.args.toList
  have exec : ∀ b, c.callee = .builtin b → ∀ s : Sem Value, (∀ C, Go.builtin b c.argTypes o.type C (c.args.map a.eval) = (do pure (.value (← s)) : Sem Next)) → execOp a.eval o = (do pure (.value (← s)) : Sem Next) := fun b hb s hs => by
   cases o
   cases ho
   show (do let d ← resolve a.eval c _; invoke d.target d.args : Sem Next) = _
   unfold resolve
   rw [hb]
   exact hs _
  have hmap : c.args.map a.eval = (c.args.toList.map a.eval).toArray := by cases c.args; simp
  split at h
  ·rename_i b hcal
   unfold qKl at h
   split at h
   ·split at h
    case h_2 => exact h.elim
    rename_i x hx
    have h1 : ∃ rx, (c.args.toList.map a.eval).toArray = #[rx] ∧ zV M x rx := by
     rw [hx] at hargs
     match hl : c.args.toList.map a.eval, hargs with
     | [rx], hh => exact ⟨rx, rfl, hh.1⟩
    obtain ⟨rx, hrx, hxv⟩ := h1
    split at h
    ·rename_i e hu
     split at h
     ·rename_i n hlen
      obtain ⟨rfl, rfl⟩ := vL h
      obtain ⟨t, ht, hu⟩ := Option.bind_eq_some_iff.1 hu
      obtain ⟨A, k, rfl⟩ := vCw ok hxv hlen
      refine zAb (s := Builtin.len_ c.argTypes o.type (c.args.map a.eval)) ?_ (exec _ hcal _ fun _ => rfl) hn
      rw [hmap, hrx]
      exact .pure ok hM (yUt ht hu) rfl
     ·exact h.elim
    ·exact h.elim
   ·split at h
    case h_2 => exact h.elim
    rename_i b x hx
    have h1 : ∃ rb rx, (c.args.toList.map a.eval).toArray = #[rb, rx] ∧ zT M b rb ∧ zT M x rx := by
     rw [hx] at hargs
     match hl : c.args.toList.map a.eval, hargs with
     | [rb, rx], hh => exact ⟨rb, rx, rfl, hh.1, hh.2.1⟩
    obtain ⟨rb, rx, hrx, hbv, hxv⟩ := h1
    split at h
    ·rename_i t t' hts
     obtain ⟨htt, h'⟩ := zHy h
     have : t = t' := by simpa using htt
     subst this
     refine zAb (s := Builtin.append_ c.argTypes o.type (c.args.map a.eval)) ?_ (exec _ hcal _ fun _ => rfl) hn
     have ht : c.argTypes = #[t, t] := by
      have := congrArg List.toArray hts
      simpa using this
     rw [hmap, hrx, ht]
     exact vA1 ok hM hbv hxv h'
    ·exact h.elim
   ·split at h
    case h_2 => exact h.elim
    rename_i d s hx
    have h1 : ∃ rb rx, (c.args.toList.map a.eval).toArray = #[rb, rx] ∧ zT M d rb ∧ zT M s rx := by
     rw [hx] at hargs
     match hl : c.args.toList.map a.eval, hargs with
     | [rb, rx], hh => exact ⟨rb, rx, rfl, hh.1, hh.2.1⟩
    obtain ⟨rb, rx, hrx, hbv, hxv⟩ := h1
    split at h
    ·rename_i e hu
     obtain ⟨hce, h⟩ := zHy h
     obtain ⟨t, ht, hu⟩ := Option.bind_eq_some_iff.1 hu
     refine zAb (s := Builtin.copy_ c.argTypes o.type (c.args.map a.eval)) ?_ (exec _ hcal _ fun _ => rfl) hn
     rw [hmap, hrx]
     exact yWp ok hM ht hu (by simpa using hce) hbv hxv h
    ·exact h.elim
   ·split at h
    case h_2 => exact h.elim
    rename_i id lo n hx
    have h1 : ∃ rx, (c.args.toList.map a.eval).toArray = #[rx] ∧ zV M (.osl id (some (lo, n))) rx := by
     rw [hx] at hargs
     match hl : c.args.toList.map a.eval, hargs with
     | [rx], hh => exact ⟨rx, rfl, hh.1⟩
    obtain ⟨rx, hrx, hxv⟩ := h1
    split at h
    ·rename_i t ht
     refine zAb (s := Builtin.clear_ c.argTypes o.type (c.args.map a.eval)) ?_ (exec _ hcal _ fun _ => rfl) hn
     rw [hmap, hrx]
     obtain ⟨rv, w', M', q1, q2⟩ := yUs (T := o.type) ok hM hxv h
     refine ⟨rv, w', M', ?_, q2⟩
     have e : (Builtin.clear_ c.argTypes o.type #[rx]).run E.P w = (Builtin.clear_ #[t] o.type #[rx]).run E.P w := by
      simp only [Builtin.clear_, ht]
      rfl
     rw [e]; exact q1
    ·exact h.elim
   ·refine zAb (s := Builtin.max_ c.argTypes o.type (c.args.map a.eval)) ?_ (exec _ hcal _ fun _ => rfl) hn
    rw [hmap]
    exact qSh (lt := false) (ts := c.argTypes) (T := o.type) ok hM hargs h
   ·refine zAb (s := Builtin.min_ c.argTypes o.type (c.args.map a.eval)) ?_ (exec _ hcal _ fun _ => rfl) hn
    rw [hmap]
    exact qSh (lt := true) (ts := c.argTypes) (T := o.type) ok hM hargs h
   ·exact h.elim
  ·rename_i f hcal
   split at h
   ·rename_i fid cap hf
    have hfv := hev f
    rw [hf] at hfv
    obtain ⟨cv, hcv, hcaps⟩ := hfv
    have hall : zO (zT M) (c.args.toList.map ev ++ cap.map fun id => .c (.ptr id 0)) (c.args.map a.eval ++ cv).toList := by
     rw [Array.toList_append, Array.toList_map]
     exact hargs.append (zO.map_left hcaps)
    have hr0 : (execOp a.eval o).run E.P w = (callFunc fid (c.args.map a.eval ++ cv)).run E.P w := by
     cases o
     cases ho
     show (do let d ← resolve a.eval c _; invoke d.target d.args : Sem Next).run E.P w = _
     unfold resolve
     rw [hcal]
     simp only [hcv, Deferred.ofValue, Sem.run_bind, Sem.run_pure, Result.andThen_ok, invoke, Array.empty_append]
    rcases hE.sums k _ fid _ M.h v u h M w _ rfl hM ok hall with ⟨h1, h2⟩ | ⟨rv, w', M', h1, hB, hv⟩
    case inr =>
     unfold Oper.wp
     rw [hr0, h1]
     exact hn M' w' rv hB hv
    unfold Oper.wp
    rw [hr0, h1, Oper.upon_enter]
    refine Calls.mono h2 fun e w' he => ?_
    cases e with
    | returned rv =>
     obtain ⟨M', hB, hv⟩ := he
     exact hn M' w' rv hB hv
    | panicked _ => exact he.elim
    | outgrown => exact he.elim
   ·exact h.elim
  ·exact h.elim
 ·exact h.elim
section
variable {P : Program} {h h' : Hp}
theorem yQu {t : TypeId} {a : zD} (hh : ∀ id ∈ yK a, h id = h' id) : zLn P h t a = zLn P h' t a := by
 unfold zLn
 cases a with
 | c v => cases v <;> first | rfl | (have := hh _ (List.mem_singleton.2 rfl); simp only [this])
 | _ => rfl
theorem yEp {v : zG} (hh : ∀ id ∈ yU v, h id = h' id) : zC1 h v = zC1 h' v := by
 unfold zC1
 cases v <;> first | rfl | (have := hh _ (List.mem_singleton.2 rfl); simp only [this])
theorem qCw : ∀ {vs : List zG}, (∀ id ∈ vs.flatMap yU, h id = h' id) → zCf h vs = zCf h' vs
 | [], _ => rfl
 | v :: vs, hh => by
  simp only [List.flatMap_cons, List.mem_append] at hh
  unfold zCf
  rw [yEp fun id hi => hh id (.inl hi), qCw fun id hi => hh id (.inr hi)]
theorem qV2 {v : zD} {vs : List zG} (e : zCu v = some vs) : vs.flatMap yU = yK v := by
 unfold zCu at e
 split at e
 ·cases e; simp [yK]
 ·cases e; rfl
 ·cases e
theorem yUb {t : TypeId} {a v : zD} (ha : ∀ id ∈ yK a, h id = h' id) (hv : ∀ id ∈ yK v, h id = h' id) : zNl P h t a v = zNl P h' t a v := by
 unfold zNl
 cases e : zCu v with
 | none => rfl
 | some vs =>
  have hf : zCf h vs = zCf h' vs := qCw (by rw [qV2 e]; exact hv)
  cases a with
  | c x =>
   cases x with
   | mptr id i =>
    have h1 := ha _ (List.mem_singleton.2 rfl)
    simp only [h1]
    generalize h' id = ob
    rcases ob with _ | (_ | _ | _ | _ | _ | _ | _) <;> first | rfl | skip
    all_goals cases v with
    | c y => cases y with
     | osl jd r => cases r with
      | none =>
       have h2 := hv _ (List.mem_singleton.2 rfl)
       simp only [h2]
      | some _ => rfl
     | _ => rfl
    | _ => rfl
   | ptr id off =>
    have h1 := ha _ (List.mem_singleton.2 rfl)
    simp only [h1]
   | eptr id i off =>
    have h1 := ha _ (List.mem_singleton.2 rfl)
    simp only [h1, hf]
   | meptr id i j ver =>
    have h1 := ha _ (List.mem_singleton.2 rfl)
    simp only [h1]
   | _ => rfl
  | _ => rfl
theorem zSf {v : zG} (hh : ∀ id ∈ yU v, h id = h' id) : zA5 h v = zA5 h' v := by
 unfold zA5
 cases v <;> first | rfl | (have := hh _ (List.mem_singleton.2 rfl); simp only [this])
theorem yQq {v : zG} (hh : ∀ id ∈ yU v, h id = h' id) : zKz h v = zKz h' v := by
 have e := zSf hh
 unfold zKz
 cases v <;> first | rfl | simp only [e]
theorem yYa {t : TypeId} {x i : zD} (hh : ∀ id ∈ yK x, h id = h' id) : zNi P h t x i = zNi P h' t x i := by
 unfold zNi
 generalize P.underlying t = d
 rcases d with _ | d
 ·rfl
 ·cases d with
  | slice e =>
   cases x with
   | c v =>
    cases i with
    | c iv =>
     cases iv with
     | int k n => cases v <;> first | rfl | (have := hh _ (List.mem_singleton.2 rfl); simp only [this])
     | _ => cases v <;> rfl
    | _ => cases v <;> rfl
   | _ => rfl
  | array n e =>
   cases x with
   | c v =>
    cases v <;> cases i <;> first | rfl | (rename_i iv; cases iv <;> rfl)
   | _ => rfl
  | _ => rfl
theorem vFl {nm : Nat} {t : TypeId} (h0 : h nm = h' nm) : zJa P nm h t = zJa P nm h' t := by
 unfold zJa
 rw [h0]
theorem yYt {t : TypeId} {x i : zD} (hh : ∀ id ∈ yK x, h id = h' id) : zNc P h t x i = zNc P h' t x i := by
 unfold zNc
 split
 ·rename_i id n
  rw [hh id (by simp [yK, yU])]
 ·rfl
theorem vBx {t : TypeId} {x i y : zD} (hh : ∀ id ∈ yK x, h id = h' id) : zJ7 P h t x i y = zJ7 P h' t x i y := by
 unfold zJ7
 split
 ·rename_i id n b
  rw [hh id (by simp [yK, yU])]
 ·rfl
theorem yW4 {t : TypeId} {x : zD} {lo hi mx : Option zD} (hh : ∀ id ∈ yK x, h id = h' id) : zMx P h t x lo hi mx = zMx P h' t x lo hi mx := by
 unfold zMx
 split
 ·rfl
 ·rename_i id r _
  rw [hh id (by simp [yK, yU])]
 ·rename_i id _
  rw [hh id (by simp [yK, yU])]
 ·rename_i id off _
  rw [hh id (by simp [yK, yU])]
 ·rfl
theorem yQf {v : zD} (hh : ∀ id ∈ yK v, h id = h' id) : zIe h v = zIe h' v := by
 unfold zIe
 cases v with
 | c v => cases v with
  | osl jd r => cases r with
   | none =>
    have h2 := hh _ (List.mem_singleton.2 rfl)
    simp only [h2]
   | some _ => rfl
  | _ => rfl
 | _ => rfl
theorem yG5 : ∀ {parts : List (Nat × zD)} {rows : List (List Int)}, (∀ id ∈ (parts.map (·.2)).flatMap yK, h id = h' id) → zIf h rows parts = zIf h' rows parts
 | [], _, _ => rfl
 | (i, v) :: rest, rows, hh => by
  simp only [List.map_cons, List.flatMap_cons, List.mem_append] at hh
  unfold zIf
  rw [yQf fun id hi => hh id (.inl hi)]
  cases zIe h' v with
  | none => rfl
  | some p => simp only [yG5 fun id hi => hh id (.inr hi)]
theorem qIq {t : Ty} : ∀ {parts : List (Nat × zD)} {xs : List t.den}, (∀ id ∈ (parts.map (·.2)).flatMap yK, h id = h' id) → zCy h t xs parts = zCy h' t xs parts
 | [], _, _ => rfl
 | (i, v) :: rest, xs, hh => by
  simp only [List.map_cons, List.flatMap_cons, List.mem_append] at hh
  unfold zCy
  cases e : zCu v with
  | none => rfl
  | some vs =>
   have hf : zCf h vs = zCf h' vs := qCw (by rw [qV2 e]; exact fun id hi => hh id (.inl hi))
   simp only [hf]
   cases zCf h' vs with
   | none => rfl
   | some p =>
    dsimp only
    cases zP1 t p.1 with
    | none => rfl
    | some x => simp only [qIq fun id hi => hh id (.inr hi)]
theorem vHn {mat : Bool} {nm : Nat} {t : TypeId} {n : Nat} {parts : List (Nat × zD)} (h0 : h nm = h' nm) (hh : ∀ id ∈ (parts.map (·.2)).flatMap yK, h id = h' id) :
  zNm P mat nm h t n parts = zNm P mat nm h' t n parts := by
 have e : (fun ty => zCy h ty (List.replicate n ty.dflt) parts) = fun ty => zCy h' ty (List.replicate n ty.dflt) parts := funext fun ty => qIq hh
 have e' : ∀ ty : Ty, zCy h ty (List.replicate n ty.dflt) parts = zCy h' ty (List.replicate n ty.dflt) parts := fun ty => qIq hh
 unfold zNm
 rw [h0, yG5 hh]
 simp only [e']
theorem yV3 {mat : Bool} {nm : Nat} {t : TypeId} {l c : zD} (h0 : h nm = h' nm) : zM8 P mat nm h t l c = zM8 P mat nm h' t l c := by
 unfold zM8
 rw [h0]
theorem vEy {t : Ty} {v : zG} (hh : ∀ id ∈ yU v, h id = h' id) : zFg h t v = zFg h' t v := by
 unfold zFg
 cases v with
 | osl id r =>
  have := hh _ (List.mem_singleton.2 rfl)
  simp only [this]
 | _ => rfl
theorem yZx {mat : Bool} {nm : Nat} {t : TypeId} {b x : zD} (h0 : h nm = h' nm) (hb : ∀ id ∈ yK b, h id = h' id) (hx : ∀ id ∈ yK x, h id = h' id) : zK4 P mat nm h t b x = zK4 P mat nm h' t b x := by
 unfold zK4
 rw [h0]
 generalize P.underlying t = d
 rcases d with _ | d
 ·rfl
 cases d with
 | slice e =>
  generalize h' nm = on
  cases on with
  | some _ => rfl
  | none =>
   cases b with
   | c b =>
    cases x with
    | c x =>
     have ht : ∀ ty, zFg h ty x = zFg h' ty x := fun ty => vEy hx
     simp only [ht]
     cases b with
     | osl id r =>
      have h1 := hb _ (List.mem_singleton.2 rfl)
      simp only [h1]
      cases x with
      | osl jd r2 =>
       have h2 := hx _ (List.mem_singleton.2 rfl)
       cases mat with
       | false => rfl
       | true =>
        generalize zAz P e = et
        rcases et with _ | (_ | _ | _ | _) <;> first | rfl | skip
        rename_i t2
        cases t2 <;> first | rfl | skip
        rename_i k
        cases k <;> cases r <;> cases r2 <;> first | rfl | simp only [h1, h2]
      | _ => cases mat with
       | false => rfl
       | true =>
        generalize zAz P e = et
        rcases et with _ | (_ | _ | _ | _) <;> first | rfl | skip
        rename_i t2
        cases t2 <;> first | rfl | skip
        rename_i k
        cases k <;> cases r <;> rfl
     | _ => cases mat with
      | false => rfl
      | true =>
       generalize zAz P e = et
       rcases et with _ | (_ | _ | _ | _) <;> first | rfl | skip
       rename_i t2
       cases t2 <;> first | rfl | skip
       rename_i k
       cases k <;> rfl
    | _ => rfl
   | _ => rfl
 | _ => rfl
theorem yXy {d s : zD} (hd : ∀ id ∈ yK d, h id = h' id) (hs : ∀ id ∈ yK s, h id = h' id) : zKq h d s = zKq h' d s := by
 unfold zKq
 cases d with
 | c d =>
  cases s with
  | c s =>
   cases d with
   | bsl id off n =>
    have h1 := hd _ (List.mem_singleton.2 rfl)
    have h2 : zA5 h s = zA5 h' s := zSf hs
    simp only [h1]
    cases s <;> first | rfl | simp only [h2]
   | _ => rfl
  | _ => cases d <;> rfl
 | _ => rfl
end
theorem yQg {E : qA} {A : zZ} {k pre : Nat} {o : Oper} {ev ev' : Operand → zD} {h : Hp} (he : ∀ x ∈ o.op.operands, ev x = ev' x) : opS E A k pre o ev h = opS E A k pre o ev' h := by
 obtain ⟨dst, op, type, pos, after, guard⟩ := o
 have zAi : ∀ ps : Array (Nat × Operand), (∀ x ∈ ps.map (·.2), ev x = ev' x) → (ps.toList.map fun p => (p.1, ev p.2)) = (ps.toList.map fun p => (p.1, ev' p.2)) := fun ps hp =>
  List.map_congr_left fun p hm => by
   obtain ⟨i, x⟩ := p
   simp only [hp x (Array.mem_map.2 ⟨(i, x), by simpa using hm, rfl⟩)]
 have maps : ∀ xs : Array Operand, (∀ x ∈ xs, ev x = ev' x) → xs.toList.map ev = xs.toList.map ev' := fun xs hp => List.map_congr_left fun x hm => hp x (by simpa using hm)
 cases op <;> simp only [Op.operands] at he <;> simp only [opS]
 case build t ps => rw [zAi ps fun x hx => he x (by simpa using hx)]
 case buildSlice t n ps => rw [zAi ps fun x hx => he x (by simpa using hx)]
 case makeFunc fn first captured =>
  cases fn <;> first | rfl | skip
  have : captured.toList.mapM (fun x => zGa (ev x)) = captured.toList.mapM (fun x => zGa (ev' x)) := by
   have h2 : ∀ l : List Operand, (∀ x ∈ l, ev x = ev' x) → l.mapM (fun x => zGa (ev x)) = l.mapM (fun x => zGa (ev' x)) := fun l => by
    induction l with
    | nil => exact fun _ => rfl
    | cons y l ih => exact fun hp => by simp only [List.mapM_cons, hp y (List.mem_cons_self ..), ih fun x hx => hp x (List.mem_cons_of_mem _ hx)]
   exact h2 _ fun x hx => he x (by simp at hx; simp [hx])
  simp only [this]
 case call c =>
  obtain ⟨callee, args, ats⟩ := c
  have ha := maps args fun x hx => he x (by simp [Call.operands, hx])
  cases callee with
  | value f =>
   have hf := he f (by simp [Call.operands])
   simp only [hf, ha]
  | builtin b => simp only [ha]
  | invoke _ _ => rfl
 case makeMap t r => cases r <;> rfl
 case lookup t x i ok => cases ok <;> simp_all
 case slice t x lo hi mx =>
  have h1 := he x (by simp)
  cases lo <;> cases hi <;> cases mx <;> simp_all
 all_goals (first | rfl | (simp only [he _ (by simp : _ ∈ #[_])]; done) | (simp_all; done))
def zAt (S : zSv) : Prop := ∀ k nm f (args : List zD) h h', (args.any yQ = false → ∀ id, (id ∈ args.flatMap yK ∨ zCj nm id = true) → h id = h' id) → (args.any yQ = true → h = h') → S k nm f args h = S k nm f args h'
theorem vE6 (nm : Nat) : zCj nm nm = true := by
 simp [zCj, Nat.blt_eq]
theorem yYs {E : qA} (hS : zAt E.sums) {A : zZ} {k pre : Nat} {o : Oper} {ev : Operand → zD} {h h' : Hp}
  (hh : match zD3 ev o with | none => h = h' | some l => ∀ id, (id ∈ l ∨ zCj (zD9 pre o.dst) id = true) → h id = h' id) : opS E A k pre o ev h = opS E A k pre o ev h' := by
 have full : h = h' → opS E A k pre o ev h = opS E A k pre o ev h' := fun e => by rw [e]
 unfold zD3 at hh
 dsimp only at hh
 cases hq : qU3 o.op with
 | true =>
  obtain ⟨dst, op, type, pos, after, guard⟩ := o
  cases op <;> first | rfl | cases hq
 | false =>
 rw [hq] at hh
 simp only [cond_false] at hh
 cases hc : (qDr o.op && (o.op.operands.toList.map ev).any yQ) with
 | true => rw [hc] at hh; exact full hh
 | false =>
  rw [hc] at hh
  replace hh : ∀ id, (id ∈ (o.op.operands.toList.map ev).flatMap yK ∨ zCj (zD9 pre o.dst) id = true) → h id = h' id := hh
  have h0 : h (zD9 pre o.dst) = h' (zD9 pre o.dst) := hh _ (.inr (vE6 _))
  have hx : ∀ x ∈ o.op.operands, ∀ id ∈ yK (ev x), h id = h' id := fun x hx id hid => hh id (.inl (List.mem_flatMap.2 ⟨ev x, List.mem_map_of_mem (by simpa using hx), hid⟩))
  obtain ⟨dst, op, type, pos, after, guard⟩ := o
  dsimp only at h0 hx hc
  cases op <;> simp only [Op.operands] at hx <;> simp only [opS]
  case alloc t => rw [h0]
  case box t x => rw [h0]
  case buildSlice t n ps =>
   exact vHn h0 fun id hid => by
    simp only [List.map_map, List.mem_flatMap, List.mem_map, Function.comp] at hid
    obtain ⟨v, ⟨p, hp, rfl⟩, hid⟩ := hid
    exact hx p.2 (by simp only [List.mem_toArray, List.mem_map]; exact ⟨p, hp, rfl⟩) id hid
  case load t x => exact yQu (hx x (by simp))
  case store t x y => exact yUb (hx x (by simp)) (hx y (by simp))
  case makeSlice t l c => exact yV3 h0
  case slice t x lo hi mx => exact yW4 (hx x (by simp))
  case makeMap t r => cases r <;> first | rfl | exact vFl h0
  case lookup t x i ok => cases ok <;> first | rfl | exact yYt (hx x (by simp))
  case mapUpdate t x i y => exact vBx (hx x (by simp))
  case indexAddr t x i => exact yYa (hx x (by simp))
  case convert s d x =>
   have hx := hx x (by simp)
   have hs : ∀ v, ev x = .c v → zMb h v = zMb h' v := fun v e => by
    have := zSf (h := h) (h' := h') (v := v) fun id hid => hx id (by rw [e]; exact hid)
    unfold zMb
    cases v <;> first | rfl | simp only [this]
   split
   ·rfl
   ·rename_i e c _ _ hc
    rw [hs c hc]
   ·rfl
  case call c =>
   obtain ⟨callee, args, ats⟩ := c
   have ha : ∀ v ∈ args.toList.map ev, ∀ id ∈ yK v, h id = h' id := fun v hv => by
    obtain ⟨x, hxm, rfl⟩ := List.mem_map.1 hv
    exact hx x (by simp at hxm; simp [Call.operands, hxm])
   cases callee with
   | value f =>
    dsimp only
    cases hf : ev f with
    | c fv => cases fv with
     | fn fid cap =>
      dsimp only
      simp only [qDr, Bool.true_and] at hc
      have hcap : cap = [] := by
       have hm : ev f ∈ (Op.call ⟨.value f, args, ats⟩).operands.toList.map ev := List.mem_map_of_mem (by simp [Op.operands, Call.operands])
       have := List.any_eq_false.1 hc _ hm
       rw [hf] at this
       simpa [yQ] using this
      subst hcap
      simp only [List.map_nil, List.append_nil]
      have hb : (args.toList.map ev).any yQ = false := by
       refine List.any_eq_false.2 fun v hv => ?_
       obtain ⟨x, hxm, rfl⟩ := List.mem_map.1 hv
       exact List.any_eq_false.1 hc _ (List.mem_map_of_mem (by simp at hxm; simp [Op.operands, Call.operands, hxm]))
      refine hS _ _ _ _ _ _ (fun _ id hid => ?_) fun ht => ?_
      ·rcases hid with hid | hid
       ·obtain ⟨v, hv, hid⟩ := List.mem_flatMap.1 hid
        exact ha v hv id hid
       ·exact hh id (.inr hid)
      ·rw [hb] at ht; cases ht
     | _ => rfl
    | _ => rfl
   | invoke _ _ => rfl
   | builtin b =>
    generalize hl : args.toList.map ev = l at ha
    unfold qKl
    cases b <;> first | rfl | skip
    case len =>
     match l, ha with
     | [], _ => rfl
     | [v], ha => cases v with
      | c v =>
       have := yQq (ha (.c v) (by simp))
       simp only [this]
      | _ => rfl
     | v :: _ :: _, _ => cases v <;> rfl
    case append =>
     match l, ha with
     | [], _ | [_], _ | _ :: _ :: _ :: _, _ => rfl
     | [b, x], ha =>
      have := fun mat t => yZx (P := E.P) (mat := mat) (t := t) h0 (ha b (by simp)) (ha x (by simp))
      simp only [this]
    case clear =>
     match l, ha with
     | [], _ => rfl
     | [v], ha => cases v with
      | c v => cases v with
       | osl id r => cases r with
        | none => rfl
        | some p =>
         have e := ha (.c (.osl id (some p))) (by simp) id (by simp [yK, yU])
         dsimp only
         split
         ·unfold zY8; rw [e]
         ·rfl
       | _ => rfl
      | _ => rfl
     | v :: _ :: _, _ => cases v with
      | c v => cases v with
       | osl id r => cases r <;> rfl
       | _ => rfl
      | _ => rfl
    case copy =>
     match l, ha with
     | [], _ | [_], _ | _ :: _ :: _ :: _, _ => rfl
     | [b, x], ha =>
      have := yXy (ha b (by simp)) (ha x (by simp))
      simp only [this]
  case makeFunc fn first captured => cases fn <;> rfl
  all_goals rfl
end Go.Ab
set_option linter.unusedSectionVars false
namespace Go.Ab
structure zAs (M M' : zA) : Prop where
 F : ∀ b, M.F b → M'.F b
 G : ∀ b, M.G b → M'.G b
 same : ∀ b, M.F b → M'.H[b]? = M.H[b]?
 sameG : ∀ b, M.G b → M'.H[b]? = M.H[b]?
 bsz : ∀ b, b < M.H.size → qR M'.H b = qR M.H b
 size : M.H.size ≤ M'.H.size
 frame : ∀ b, b < M.H.size → ¬ qN M b → M'.H[b]? = M.H[b]?
 own : ∀ b, qN M' b → b < M.H.size → qN M b
 Gb : ∀ b, M'.G b → b < M.H.size → M.G b ∨ qN M b
 Fb : ∀ b, M'.F b → b < M.H.size → M.F b ∨ qN M b
theorem yO.grow {M M' : zA} (s : yO M M') : zAs M M' := ⟨s.ext.F, s.ext.G, s.ext.same, s.ext.sameG, s.ext.bsz, s.size, s.frame, s.own, s.Gb, s.Fb⟩
theorem zAs.trans {M M' M'' : zA} (x : zAs M M') (y : zAs M' M'') : zAs M M'' where
 F b h := y.F b (x.F b h)
 G b h := y.G b (x.G b h)
 same b h := (y.same b (x.F b h)).trans (x.same b h)
 sameG b h := (y.sameG b (x.G b h)).trans (x.sameG b h)
 bsz b h := (y.bsz b (by have := x.size; omega)).trans (x.bsz b h)
 size := Nat.le_trans x.size y.size
 frame b h hn := by
  have := x.size
  rw [y.frame b (by omega) fun ho => hn (x.own b ho h), x.frame b h hn]
 own b ho h := x.own b (y.own b ho (by have := x.size; omega)) h
 Gb b hg h := by
  rcases y.Gb b hg (by have := x.size; omega) with k | k
  ·exact x.Gb b k h
  ·exact .inr (x.own b k h)
 Fb b hg h := by
  rcases y.Fb b hg (by have := x.size; omega) with k | k
  ·exact x.Fb b k h
  ·exact .inr (x.own b k h)
def zTv (M M' : zA) : Prop := ∀ id C, M.κ id = some C → ∃ C', M'.κ id = some C' ∧ C'.blk = C.blk
structure zE8 (nl : Bool) (M M' : zA) : Prop where
 g : zAs M M'
 k : nl = true → zTv M M'
theorem zE8.step {nl : Bool} {M M' M'' : zA} (x : zE8 nl M M') (s : yO M' M'') : zE8 nl M M'' :=
 ⟨x.g.trans s.grow, fun h id C hC => by
  obtain ⟨C1, h1, e1⟩ := x.k h id C hC
  obtain ⟨C2, h2, le⟩ := s.ext.κ id C1 h1
  exact ⟨C2, h2, le.blk.trans e1⟩⟩
theorem zE8.trans {M M' M'' : zA} (x : zE8 false M M') (y : zAs M' M'') : zE8 false M M'' := ⟨x.g.trans y, fun h => by cases h⟩
structure vD (nl : Bool) (na nt : Nat) (a0 : Nat → Value) (M0 : zA) (w0 : World) (st : St) (a : Act) (w : World) : Prop where
 ex : ∃ M : zA, M.h = st.h ∧ M.H = w.heap ∧ Ok M ∧ zE8 nl M0 M ∧ ∀ t, zT M (st.t t) (a.tmps.getD t undef)
 defers : a.defers = []
 size : a.tmps.size = nt
 os : w.os = w0.os
 tape : w.tape = w0.tape
 output : w.output = w0.output
 keep : ∀ t, t < na → a.tmps.getD t undef = a0 t
theorem qXr {M : zA} {st : St} {a : Act} (h : ∀ t, zT M (st.t t) (a.tmps.getD t undef)) (x : Operand) : zT M (st.ev x) (a.eval x) := by
 cases x with
 | tmp t => exact h t
 | const v => exact yYe M v
 | global g => trivial
 | func f => exact ⟨#[], rfl, trivial⟩
theorem qB8 {t : Nat → zD} {s : Nat} {v : zD} (h : t s = v) : wL t s v = t := by
 funext n
 unfold wL
 cases e : Nat.beq n s with
 | false => rfl
 | true =>
  have : n = s := by simpa using e
  rw [this, h]; rfl
def zK0 (ops : Array Oper) (o : Oper) (st : St) : Option Bool := match o.guard with
 | none => some true
 | some (j, want) => match zW8 ops j with
  | none => none
  | some s => match st.t s with
   | .c (.bool b) => some (b == want)
   | .skp => some false
   | _ => none
theorem qXj {R : Type} {ops : Array Oper} {o : Oper} {st : St} {yes no : St → Option R} {out : R} (h : zTd ops o st yes no = some out) :
  ∃ b, zK0 ops o st = some b ∧ (if b = true then yes st else no st) = some out := by
 unfold zTd at h
 unfold zK0
 cases hg : o.guard with
 | none => rw [hg] at h; exact ⟨true, rfl, h⟩
 | some p =>
  obtain ⟨j, want⟩ := p
  rw [hg] at h
  dsimp only at h ⊢
  cases hs : zW8 ops j with
  | none => rw [hs] at h; cases h
  | some s =>
   rw [hs] at h
   dsimp only at h ⊢
   split at h
   ·rename_i b hb
    rw [hb]
    refine ⟨b == want, rfl, ?_⟩
    cases b with
    | true =>
     simp only [cond_true, qB8 hb] at h
     cases want <;> exact h
    | false =>
     simp only [cond_false, qB8 hb] at h
     cases want <;> exact h
   ·rename_i hb
    rw [hb]
    exact ⟨false, rfl, h⟩
   ·cases h
theorem getD_some {a : Array Value} {s : Nat} {v : Value} (h : a.getD s undef = v) (hv : v ≠ undef) : a[s]? = some v := by
 by_cases hs : s < a.size
 ·simp [Array.getD, hs] at h ⊢; exact h
 ·simp [Array.getD, hs] at h
  exact absurd h.symm hv
theorem yKg {ops : Array Oper} {o : Oper} {st : St} {b : Bool} {nl : Bool} {na nt : Nat} {a0 : Nat → Value} {M0 : zA} {w0 w : World} {a : Act} (h : zK0 ops o st = some b) (R : vD nl na nt a0 M0 w0 st a w) : Region.wanted o (yielded ops a.tmps) = b := by
 obtain ⟨M, _, _, _, _, ht⟩ := R.ex
 unfold zK0 at h
 unfold Region.wanted
 split at h
 ·rename_i hg
  rw [hg]; cases h; rfl
 ·rename_i j want hg
  rw [hg]
  split at h
  ·cases h
  ·rename_i s hs
   have hv := ht s
   have hs' : (ops[j]?).bind (·.dst) = some s := hs
   split at h
   ·rename_i b' hb
    cases h
    rw [hb] at hv
    have hv : a.tmps.getD s undef = .bool b' := hv
    have := getD_some hv (by simp [undef])
    simp only [yielded, hs', Option.bind_some, this]
    cases b' <;> cases want <;> rfl
   ·rename_i hb
    cases h
    rw [hb] at hv
    have hv : a.tmps.getD s undef = undef := hv
    simp only [yielded, hs', Option.bind_some]
    have : ∀ x : Option Value, (x = none ∨ x = some undef) → ((match x with | some (.bool b) => some b | _ => none : Option Bool) == some want) = false := fun x hx => by
     rcases hx with rfl | rfl <;> cases want <;> rfl
    refine this _ ?_
    by_cases hlt : s < a.tmps.size
    ·right
     simp [Array.getD, hlt] at hv ⊢
     exact hv
    ·left; simp; omega
   ·cases h
theorem zE4.rel {nl : Bool} {na nt : Nat} {a0 : Nat → Value} {M0 M M' : zA} {w0 w w' : World} {st : St} {a : Act} {dst : Option Nat} {v : zD} {u : zX} {rv : Value} (R : vD nl na nt a0 M0 w0 st a w) (hh : M.h = st.h) (hs : zE8 nl M0 M) (ht : ∀ t, zT M (st.t t) (a.tmps.getD t undef))
  (hd : ∀ d, dst = some d → na ≤ d ∧ d < nt) (hB : zE4 M w u M' w') (hv : zT M' v rv) : vD nl na nt a0 M0 w0 { t := zAw st.t dst v, h := qE st.h u } (a.put dst rv) w' where
 ex := by
  refine ⟨M', by rw [hB.h, hh], hB.H, hB.ok, hs.step hB.step, fun t => ?_⟩
  cases dst with
  | none => exact (ht t).ext hB.step.ext
  | some d =>
   show zT M' (wL st.t d v t) ((a.tmps.setIfInBounds d rv).getD t undef)
   have hlt : d < a.tmps.size := by rw [R.size]; exact (hd d rfl).2
   unfold wL
   cases e : Nat.beq t d with
   | true =>
    have e : t = d := by simpa using e
    subst e
    simp [hlt]
    exact hv
   | false =>
    have e : t ≠ d := fun e' => by subst e'; simp at e
    have := (ht t).ext hB.step.ext
    simp only [Array.getD_eq_getD_getElem?, Array.getElem?_setIfInBounds_ne (Ne.symm e)] at this ⊢
    exact this
 defers := by cases dst <;> exact R.defers
 size := by cases dst <;> simp [Act.put, R.size]
 os := hB.os.trans R.os
 tape := hB.tape.trans R.tape
 output := hB.output.trans R.output
 keep t h := by
  cases dst with
  | none => exact R.keep t h
  | some d =>
   have hne : d ≠ t := by have := (hd d rfl).1; omega
   rw [← R.keep t h]
   simp only [Act.put, Array.getD_eq_getD_getElem?, Array.getElem?_setIfInBounds_ne hne]
theorem vD.skip {nl : Bool} {na nt : Nat} {a0 : Nat → Value} {M0 : zA} {w0 w : World} {st : St} {a : Act} {dst : Option Nat} (hd : ∀ d, dst = some d → na ≤ d) (R : vD nl na nt a0 M0 w0 st a w) : vD nl na nt a0 M0 w0 { st with t := zAw st.t dst .skp } (a.put dst undef) w where
 ex := by
  obtain ⟨M, h1, h2, h3, h4, ht⟩ := R.ex
  refine ⟨M, h1, h2, h3, h4, fun t => ?_⟩
  cases dst with
  | none => exact ht t
  | some d =>
   show zT M (wL st.t d .skp t) ((a.tmps.setIfInBounds d undef).getD t undef)
   unfold wL
   cases e : Nat.beq t d with
   | true =>
    have e : t = d := by simpa using e
    subst e
    show (a.tmps.setIfInBounds t undef).getD t undef = undef
    by_cases h : t < a.tmps.size <;> simp [Array.getD_eq_getD_getElem?, h]
   | false =>
    have e : t ≠ d := fun e' => by subst e'; simp at e
    have := ht t
    simp only [Array.getD_eq_getD_getElem?, Array.getElem?_setIfInBounds_ne (Ne.symm e)] at this ⊢
    exact this
 defers := by cases dst <;> exact R.defers
 size := by cases dst <;> simp [Act.put, R.size]
 os := R.os
 tape := R.tape
 output := R.output
 keep t h := by
  cases dst with
  | none => exact R.keep t h
  | some d =>
   have hne : d ≠ t := by have := hd d rfl; omega
   rw [← R.keep t h]
   simp only [Act.put, Array.getD_eq_getD_getElem?, Array.getElem?_setIfInBounds_ne hne]
section
variable {E : qA} {A : zZ} {nl : Bool} {k pre na nt : Nat} {a0 : Nat → Value} {R : Type} {M0 : zA} {w0 : World} {Q : Exit → Act → World → Prop}
theorem vD.op (hE : jI E) {st : St} {a : Act} {w : World} {o : Oper} {v : zD} {u : zX} {next : Act → World → Prop} (r : vD nl na nt a0 M0 w0 st a w) (hd : ∀ d, o.dst = some d → na ≤ d ∧ d < nt) (hy : yD (opS E A k pre o st.ev st.h) v u)
  (hn : ∀ a' w', vD nl na nt a0 M0 w0 { t := zAw st.t o.dst v, h := qE st.h u } a' w' → next a' w') : o.wp E.P a w next Q := by
 obtain ⟨M, h1, h2, h3, h4, ht⟩ := r.ex
 rw [← h1] at hy
 exact vC6 hE h3 h2 (qXr ht) hy fun M' w' rv hB hv => hn _ _ (hB.rel r h1 h4 ht hd hv)
theorem qDs (hE : jI E) {dst : Option Nat} (h : zE9 na nt dst = true) : ∀ d, dst = some d → na ≤ d ∧ d < nt := fun d hd => by
 subst hd
 simp only [zE9, Bool.and_eq_true] at h
 exact ⟨Nat.le_of_ble_eq_true h.1, by simpa [Nat.blt_eq] using h.2⟩
theorem qTx (hE : jI E) {o : Oper} {st : St} {K : zD → zX → St → Option R} {out : R} (h : zWn E A k pre na nt o st K = some out) :
  (∀ d, o.dst = some d → na ≤ d ∧ d < nt) ∧ ∃ v u, yD (opS E A k pre o st.ev st.h) v u ∧ K v u { t := zAw st.t o.dst v, h := qE st.h u } = some out := by
 unfold zWn at h
 cases hc : zE9 na nt o.dst with
 | false => rw [hc] at h; cases h
 | true =>
  rw [hc] at h
  exact ⟨qDs hE hc, yA.elim_some h⟩
theorem qXu (hE : jI E) {ops : Array Oper} : ∀ (l : List (Nat × Oper)) (st : St) (K : St → Option R) (out : R) (a : Act) (w : World), (∀ p ∈ l, ops[p.1]? = some p.2) → zOs E A k pre na nt ops l st K = some out → vD nl na nt a0 M0 w0 st a w →
  (∀ st' a' w', vD nl na nt a0 M0 w0 st' a' w' → K st' = some out → Q .normal a' w') → wpOps E.P ops Q (l.map (·.1)) a w
 | [], st, K, out, a, w, _, h, r, hK => hK st a w r h
 | (i, o) :: rest, st, K, out, a, w, hl, h, r, hK => by
  have ho : ops[i]? = some o := hl (i, o) (List.mem_cons_self ..)
  have ih := fun st K out a w => qXu hE rest st K out a w fun p hp => hl p (List.mem_cons_of_mem _ hp)
  unfold zOs at h
  obtain ⟨b, hb, h⟩ := qXj h
  have hw := yKg hb r
  simp only [List.map_cons, wpOps, ho]
  cases b with
  | true =>
   rw [if_pos rfl] at h
   rw [if_pos hw]
   obtain ⟨hd, v, u, hy, h⟩ := qTx hE h
   exact .inl (vD.op hE r hd hy fun a' w' r' => ih _ _ _ _ _ h r' hK)
  | false =>
   rw [if_neg (by simp)] at h
   rw [if_neg (by simp [hw])]
   cases hc : zE9 na nt o.dst with
   | false => rw [hc] at h; cases h
   | true =>
    rw [hc] at h
    exact ih _ _ _ _ _ h (r.skip fun d hd => (qDs hE hc d hd).1) hK
end
def zMn (o : Oper) (acc : Array Nat) : Nat := o.after.foldl (fun s e => if Region.binds .any e then s ||| 2 ^ e.on ||| acc.getD e.on 0 else s) 0
theorem qYi (acc : Array Nat) (i : Nat) : ∀ (l : List Edge) (s : Nat), (l.foldl (fun s e => if Region.binds .any e then s ||| 2 ^ e.on ||| acc.getD e.on 0 else s) s).testBit i = true →
  s.testBit i = true ∨ ∃ e ∈ l, Region.binds .any e = true ∧ (e.on = i ∨ (acc.getD e.on 0).testBit i = true)
 | [], s, h => .inl h
 | e :: l, s, h => by
  rw [List.foldl_cons] at h
  rcases qYi acc i l _ h with h | ⟨e', he, h⟩
  ·split at h
   ·rename_i hb
    rw [Nat.testBit_or, Nat.testBit_or, Bool.or_eq_true, Bool.or_eq_true] at h
    rcases h with (h | h) | h
    ·exact .inl h
    ·rw [Nat.testBit_two_pow] at h
     exact .inr ⟨e, List.mem_cons_self .., hb, .inl (by simpa using h)⟩
    ·exact .inr ⟨e, List.mem_cons_self .., hb, .inr h⟩
   ·exact .inl h
  ·exact .inr ⟨e', List.mem_cons_of_mem _ he, h⟩
def zRa (ops : Array Oper) (acc : Array Nat) : Prop := ∀ j, j < acc.size → ∀ i, (acc.getD j 0).testBit i = true → ∃ o, ops[j]? = some o ∧ ∃ e ∈ o.after.toList, Region.binds .any e = true ∧ (e.on = i ∨ (e.on < j ∧ (acc.getD e.on 0).testBit i = true))
theorem yVm {ops : Array Oper} {acc : Array Nat} {o : Oper} (h : zRa ops acc) (ho : ops[acc.size]? = some o) : zRa ops (acc.push (zMn o acc)) := by
 have old : ∀ j, j < acc.size → (acc.push (zMn o acc)).getD j 0 = acc.getD j 0 := fun j hj => by
  simp [Array.getD_eq_getD_getElem?, Array.getElem?_push, Nat.ne_of_lt hj]
 intro j hj i hb
 simp only [Array.size_push] at hj
 by_cases hlt : j < acc.size
 ·rw [old j hlt] at hb
  obtain ⟨o', h1, e, h2, h3, h4⟩ := h j hlt i hb
  refine ⟨o', h1, e, h2, h3, ?_⟩
  rcases h4 with h4 | ⟨h4, h5⟩
  ·exact .inl h4
  ·exact .inr ⟨h4, by rw [old _ (by omega)]; exact h5⟩
 ·have e : j = acc.size := by omega
  subst e
  rw [show (acc.push (zMn o acc)).getD acc.size 0 = zMn o acc by simp [Array.getD_eq_getD_getElem?]] at hb
  unfold zMn at hb
  rw [← Array.foldl_toList] at hb
  rcases qYi acc i _ _ hb with hb | ⟨e, h2, h3, h4⟩
  ·simp at hb
  ·refine ⟨o, ho, e, h2, h3, ?_⟩
   rcases h4 with h4 | h4
   ·exact .inl h4
   ·have hlt' : e.on < acc.size := by
     rcases Nat.lt_or_ge e.on acc.size with h | h
     ·exact h
     ·rw [show acc.getD e.on 0 = 0 by simp [Array.getD, Nat.not_lt.2 h]] at h4
      simp at h4
    exact .inr ⟨hlt', by rw [old _ hlt']; exact h4⟩
theorem yTg (ops : Array Oper) : zRa ops (Region.before ops) := by
 have key : ∀ (l : List Oper) (acc : Array Nat), zRa ops acc → (∀ m (hm : m < l.length), ops[acc.size + m]? = some l[m]) →
   zRa ops (l.foldl (fun acc o => acc.push (zMn o acc)) acc) := by
  intro l
  induction l with
  | nil => exact fun acc h _ => h
  | cons o l ih =>
   intro acc h ho
   rw [List.foldl_cons]
   refine ih _ (yVm h (ho 0 (by simp))) fun m hm => ?_
   have := ho (m + 1) (by simp; omega)
   simp only [Array.size_push, List.getElem_cons_succ] at this ⊢
   rw [← this]; congr 1; omega
 have := key ops.toList #[] (fun j hj => by simp at hj) fun m hm => by simp at hm ⊢
 unfold Region.before
 rw [← Array.foldl_toList]
 exact this
theorem yAa {ops : Array Oper} {i j : Nat} (h : zB9 (Region.before ops) i j = true) : ∃ o, ops[j]? = some o ∧ ∃ e ∈ o.after.toList, Region.binds .any e = true ∧ (e.on = i ∨ (e.on < j ∧ zB9 (Region.before ops) i e.on = true)) := by
 unfold zB9 at h
 by_cases hj : j < (Region.before ops).size
 ·exact yTg ops j hj i h
 ·rw [show (Region.before ops).getD j 0 = 0 by simp [Array.getD, hj]] at h
  simp at h
def zOu (ops : Array Oper) (S : Nat → Bool) : Prop := ∀ j o, S j = true → ops[j]? = some o → ∀ e ∈ o.after.toList, Region.binds .any e = true → S e.on = true
theorem yLg {ops : Array Oper} {S : Nat → Bool} (hS : zOu ops S) {i : Nat} : ∀ (n j : Nat), j = n → zB9 (Region.before ops) i j = true → S j = true → S i = true := by
 intro n
 induction n using Nat.strongRecOn with
 | _ n ih =>
  intro j hj h hs
  obtain ⟨o, ho, e, he, hb, h⟩ := yAa h
  have hse := hS j o hs ho e he hb
  rcases h with h | ⟨h, hi⟩
  ·rw [← h]; exact hse
  ·exact ih e.on (by omega) e.on rfl hi hse
theorem vEm {ops : Array Oper} {S : Nat → Bool} (hS : zOu ops S) {i j : Nat} (h : zB9 (Region.before ops) i j = true) (hr : ∀ o, ops[j]? = some o → ∀ e ∈ o.after.toList, Region.binds .any e = true → S e.on = true) : S i = true := by
 obtain ⟨o, ho, e, he, hb, h⟩ := yAa h
 have hse := hr o ho e he hb
 rcases h with h | ⟨h, hi⟩
 ·rw [← h]; exact hse
 ·exact yLg hS _ _ rfl hi hse
structure It where
 i : Nat
 o : Oper
 v : zD
 u : zX
 r : Option (List Nat)
 wt : Bool
def It.dn (pre : Nat) (it : It) : zF1 := ⟨it.i, zD9 pre it.o.dst, wO it.u, it.r⟩
def vJ (st : St) (it : It) : St := { t := zAw st.t it.o.dst it.v, h := qE st.h it.u }
section
variable (E : qA) (A : zZ) (k pre na nt : Nat) (ops : Array Oper)
structure zWb (st : St) (it : It) : Prop where
 w : zK0 ops it.o st = some it.wt
 y : it.wt = true → (∀ d, it.o.dst = some d → na ≤ d ∧ d < nt) ∧ yD (opS E A k pre it.o st.ev st.h) it.v it.u ∧ it.r = zD3 st.ev it.o
 n : it.wt = false → it.v = .skp ∧ it.u = [] ∧ ∀ d, it.o.dst = some d → na ≤ d ∧ d < nt
def qCe (b : Array Nat) (x y : It) : Prop := zB9 b x.i y.i = true ∨ (zFb ops x.i y.i = true ∧ (x.wt = true → y.wt = true → zFo (x.dn pre) (y.dn pre) = false))
end
section
variable {E : qA} {A : zZ} {k pre na nt : Nat} {R : Type} {ops : Array Oper} {b : Array Nat}
theorem qAr (hE : jI E) : ∀ (rest : List (Nat × Oper)) (done : List zF1) (st : St) (K : St → Option R) (out : R), zLq E A k pre na nt ops b rest done st K = some out →
  ∃ its : List It, its.map (fun it => (it.i, it.o)) = rest ∧ K (its.foldl vJ st) = some out ∧ (∀ pfx it post, its = pfx ++ it :: post → zWb E A k pre na nt ops (pfx.foldl vJ st) it) ∧
   (∀ d ∈ done, ∀ it ∈ its, zB9 b d.i it.i = true ∨ (zFb ops d.i it.i = true ∧ (it.wt = true → zFo d (it.dn pre) = false))) ∧ its.Pairwise (qCe pre ops b)
 | [], done, st, K, out, h => ⟨[], rfl, h, fun pfx it post e => by simp at e, fun _ _ _ h => by simp at h, .nil⟩
 | (i, o) :: rest, done, st, K, out, h => by
  unfold zLq at h
  generalize hc : (done.all fun d => zB9 b d.i i || zFb ops d.i i) = c at h
  cases c with
  | false => cases h
  | true =>
   have hap : ∀ d ∈ done, zB9 b d.i i = true ∨ zFb ops d.i i = true := fun d hd => by
    have := List.all_eq_true.1 hc d hd
    simpa [Bool.or_eq_true] using this
   rw [cond_true] at h
   obtain ⟨bw, hb, h⟩ := qXj h
   cases bw with
   | true =>
    rw [if_pos rfl] at h
    obtain ⟨hd, v, u, hy, h⟩ := qTx hE h
    dsimp only at h
    generalize hc2 : (done.all fun d => zB9 b d.i i || !zFo d ⟨i, zD9 pre o.dst, wO u, zD3 st.ev o⟩) = c2 at h
    cases c2 with
    | false => exact absurd h (by simp)
    | true =>
     rw [cond_true] at h
     have hcl : ∀ d ∈ done, zB9 b d.i i = true ∨ zFo d ⟨i, zD9 pre o.dst, wO u, zD3 st.ev o⟩ = false := fun d hd => by
      have := List.all_eq_true.1 hc2 d hd
      simpa [Bool.or_eq_true] using this
     obtain ⟨its, h1, h2, h3, h4, h5⟩ := qAr hE rest _ _ K out h
     let it : It := ⟨i, o, v, u, zD3 st.ev o, true⟩
     refine ⟨it :: its, by rw [List.map_cons, h1], h2, fun pfx it' post e => ?_, fun d hd' it' hit => ?_, ?_⟩
     ·cases pfx with
      | nil =>
       simp only [List.nil_append, List.cons.injEq] at e
       obtain ⟨rfl, rfl⟩ := e
       exact ⟨hb, fun _ => ⟨hd, hy, rfl⟩, fun h => (by cases h)⟩
      | cons p pfx =>
       simp only [List.cons_append, List.cons.injEq] at e
       obtain ⟨rfl, e⟩ := e
       exact h3 pfx it' post e
     ·rcases List.mem_cons.1 hit with rfl | hit
      ·rcases hap d hd' with h | h
       ·exact .inl h
       ·rcases hcl d hd' with h' | h'
        ·exact .inl h'
        ·exact .inr ⟨h, fun _ => h'⟩
      ·exact h4 d (List.mem_cons_of_mem _ hd') it' hit
     ·refine List.pairwise_cons.2 ⟨fun y hy' => ?_, h5⟩
      rcases h4 (it.dn pre) (List.mem_cons_self ..) y hy' with h | ⟨h, h'⟩
      ·exact .inl h
      ·exact .inr ⟨h, fun _ hw => h' hw⟩
   | false =>
    rw [if_neg (by simp)] at h
    have hdst : zE9 na nt o.dst = true := by
     cases hc : zE9 na nt o.dst with
     | true => rfl
     | false => rw [hc] at h; cases h
    rw [hdst] at h
    rw [cond_true] at h
    obtain ⟨its, h1, h2, h3, h4, h5⟩ := qAr hE rest _ _ K out h
    let it : It := ⟨i, o, .skp, [], some [], false⟩
    refine ⟨it :: its, by rw [List.map_cons, h1], h2, fun pfx it' post e => ?_, fun d hd' it' hit => ?_, ?_⟩
    ·cases pfx with
     | nil =>
      simp only [List.nil_append, List.cons.injEq] at e
      obtain ⟨rfl, rfl⟩ := e
      exact ⟨hb, fun h => (by cases h), fun _ => ⟨rfl, rfl, qDs hE hdst⟩⟩
     | cons p pfx =>
      simp only [List.cons_append, List.cons.injEq] at e
      obtain ⟨rfl, e⟩ := e
      exact h3 pfx it' post e
    ·rcases List.mem_cons.1 hit with rfl | hit
     ·rcases hap d hd' with h | h
      ·exact .inl h
      ·exact .inr ⟨h, fun h => (by cases h)⟩
     ·exact h4 d (List.mem_cons_of_mem _ hd') it' hit
    ·refine List.pairwise_cons.2 ⟨fun y hy' => ?_, h5⟩
     rcases h4 (it.dn pre) (List.mem_cons_self ..) y hy' with h | ⟨h, h'⟩
     ·exact .inl h
     ·exact .inr ⟨h, fun hw => (by cases hw)⟩
end
end Go.Ab
