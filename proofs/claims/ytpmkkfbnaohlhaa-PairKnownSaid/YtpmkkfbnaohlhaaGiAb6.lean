/- Operations that look, and reckon. -/
import Derived.Test.YtpmkkfbnaohlhaaGiAb5
set_option linter.unusedVariables false
set_option linter.unusedSimpArgs false
namespace Go.Ab

theorem bif_stuck {c : Bool} {s : Sres} {v : AVal} {u : Upd} (h : Yields (bif c then s else .stuck) v u) : c = true ∧ Yields s v u := by
  cases c with
  | true => exact ⟨rfl, h⟩
  | false => exact h.elim
theorem bif_stuck' {c : Bool} {s : Sres} {v : AVal} {u : Upd} (h : Yields (bif c then .stuck else s) v u) : c = false ∧ Yields s v u := by
  cases c with
  | false => exact ⟨rfl, h⟩
  | true => exact h.elim
theorem beq_false {a b : Nat} (h : Nat.beq a b = false) : a ≠ b := fun e => by subst e; simp at h

theorem boundOk_iff {i : Int} {n : Nat} (h : boundOk i n = true) : 0 ≤ i ∧ i < n ∧ i.toNat < n := by
  simp only [boundOk, Bool.and_eq_true, decide_eq_true_eq] at h
  omega

theorem arrAlts_pick {i : Int} {mk : Nat → CVal} : ∀ {n j : Nat} {v : AVal} {u : Upd}, Pick (arrAlts i mk j n) v u → ∃ k, j ≤ k ∧ k < j + n ∧ i = (k : Int) ∧ v = .c (mk k) ∧ u = []
  | 0, _, _, _, h => h.elim
  | n + 1, j, v, u, h => by
    rcases h with ⟨h1, h2, h3⟩ | ⟨_, h⟩
    · exact ⟨j, Nat.le_refl _, by omega, of_decide_eq_true h1, h2, h3⟩
    · obtain ⟨k, k1, k2, k3⟩ := arrAlts_pick h
      exact ⟨k, by omega, by omega, k3⟩

theorem fieldAddrS_sound {P : Program} {M : Mst} {w : World} (ok : Ok M) (hM : M.H = w.heap) {s : TypeId} {a v : AVal} {f : Nat} {u : Upd} {ra : Value} (ha : VRep M a ra)
    (h : Yields (fieldAddrS P s a f) v u) : RunsV P (Instr.fieldAt s ra f) M w v u := by
  unfold fieldAddrS at h
  split at h
  · rename_i fs hs
    split at h
    · rename_i fd hf
      obtain ⟨hz, h⟩ := bif_stuck' h
      have hz := beq_false hz
      obtain ⟨i, hi⟩ := info_of_cells (P := P) (t := fd.type) (by omega)
      have hr : ∀ B o, (Instr.fieldAt s (.pointer (some ⟨B, o, none⟩)) f).run P w = .ok (.pointer (some ⟨B, o + fd.offset, none⟩)) w := by
        intro B o
        simp [Instr.fieldAt, run_underlying hs, hf, sure, fieldPlace, run_size w hi, hz, Addr.add_lit]
      split at h
      · obtain ⟨rfl, rfl⟩ := yields_one h
        obtain ⟨C, B, hC, hB, rfl⟩ := ha
        exact RunsV.pure ok hM (hr _ _) ⟨C, B, hC, hB, rfl⟩
      · obtain ⟨rfl, rfl⟩ := yields_one h
        obtain ⟨C, B, hC, hB, hi, rfl⟩ := ha
        exact RunsV.pure ok hM (hr _ _) ⟨C, B, hC, hB, hi, by rw [Nat.add_assoc]⟩
      · obtain ⟨rfl, rfl⟩ := yields_one h
        obtain ⟨B, o, rfl, hB, hE⟩ := ha
        exact RunsV.pure ok hM (hr _ _) ⟨B, o, by rw [Nat.add_assoc], hB, hE⟩
      · exact h.elim
    · exact h.elim
  · exact h.elim

theorem indexAt_slice {P : Program} {w : World} {t e : TypeId} {A : Option Addr} {n c : Nat} {k : IntKind} {i : Int} {B o : Nat} (hu : P.underlying t = some (.slice e)) (h0 : 0 ≤ i) (h1 : i < n) (he : 0 < P.cellsOf e)
    (hA : A = some ⟨B, o, none⟩) : (Instr.indexAt t (.slice A n c) (.int k i)).run P w = .ok (.pointer (some ⟨B, o + i.toNat * P.cellsOf e, none⟩)) w := by
  obtain ⟨x, hx⟩ := info_of_cells he
  subst hA
  simp [Instr.indexAt, asIntOf, run_underlying hu, h0, h1, run_size w hx, Addr.add_lit]

theorem indexAddrS_sound {P : Program} {M : Mst} {w : World} (ok : Ok M) (hM : M.H = w.heap) {t : TypeId} {x i v : AVal} {u : Upd} {rx ri : Value} (hx : VRep M x rx) (hi : VRep M i ri)
    (h : Yields (indexAddrS P M.h t x i) v u) : RunsV P (Instr.indexAt t rx ri) M w v u := by
  unfold indexAddrS at h
  split at h
  · rename_i e c k n hu
    have hri : ri = .int k n := hi
    subst hri
    split at h
    · rename_i sh ty xs
      obtain ⟨hz, h⟩ := bif_stuck h
      have hz := Nat.eq_of_beq_eq_true hz
      obtain ⟨hb, rfl, rfl⟩ := yields_when h
      obtain ⟨b0, b1, b2⟩ := boundOk_iff hb
      have hx' : ERep M.H (bif sh then M.G else M.F) (.sl ty) xs (fun _ => some rx) := hx
      simp only [ERep, Option.some.injEq] at hx'
      obtain ⟨A, m, c, rfl, rfl, hc, hx'⟩ := hx'
      rcases hx' with ⟨rfl, _⟩ | ⟨B, o, rfl, hB, hE⟩
      · simp at b2
      · refine RunsV.pure ok hM (indexAt_slice hu b0 b1 (by rw [hz]; exact ty.size_pos) rfl) ⟨B, o + n.toNat * P.cellsOf e, rfl, hB, ?_⟩
        have e1 : xs.getD n.toNat ty.dflt = xs[n.toNat] := by simp [List.getD, b2]
        rw [e1, hz]
        exact hE _ b2
    · rename_i id r
      split at h
      · rename_i own ty xs hid
        obtain ⟨hz, h⟩ := bif_stuck h
        have hz := Nat.eq_of_beq_eq_true hz
        obtain ⟨C, hC, hS⟩ := hx
        obtain ⟨C', hC', hO⟩ := ok.obj _ _ hid
        rw [hC] at hC'; cases hC'
        have hlen := hO.1
        have hsz := hO.2.1
        have key : ∀ lo m, lo + m ≤ C.len → SlV M.H C lo m rx → 0 ≤ n → n < (m : Int) → ∃ B, C.blk = some B ∧ (Instr.indexAt t rx (.int k n)).run P w = .ok (.pointer (some ⟨B, (lo + n.toNat) * C.sz + 0, none⟩)) w := by
          intro lo m hm hS' n0 n1
          clear hS
          obtain ⟨A, c, rfl, hS⟩ := hS'
          cases hB : C.blk with
          | none => rw [hB] at hS; obtain ⟨_, rfl, _⟩ := hS; omega
          | some B =>
            rw [hB] at hS
            obtain ⟨hc, a, hA, ha, _⟩ := hS
            refine ⟨B, rfl, ?_⟩
            rw [indexAt_slice hu n0 n1 (by rw [hz]; exact ty.size_pos) hA]
            have : a = lo * C.sz := by rcases ha with ha | ha <;> omega
            rw [this, hz, hsz, Nat.add_mul]; rfl
        split at h
        · obtain ⟨hb, rfl, rfl⟩ := yields_when h
          obtain ⟨b0, b1, b2⟩ := boundOk_iff hb
          obtain ⟨B, hB, hr⟩ := key 0 C.len (by omega) hS b0 (by omega)
          rw [Nat.zero_add] at hr
          exact RunsV.pure ok hM hr ⟨C, B, hC, hB, by omega, rfl⟩
        · obtain ⟨hb, rfl, rfl⟩ := yields_when h
          obtain ⟨b0, b1, b2⟩ := boundOk_iff hb
          obtain ⟨B, hB, hr⟩ := key _ _ hS.1 hS.2.1 b0 b1
          exact RunsV.pure ok hM hr ⟨C, B, hC, hB, by have := hS.1; omega, rfl⟩
      · rename_i ver xs hid
        obtain ⟨hz, h⟩ := bif_stuck h
        have hz := Nat.eq_of_beq_eq_true hz
        split at h
        · obtain ⟨hb, rfl, rfl⟩ := yields_when h
          obtain ⟨b0, b1, b2⟩ := boundOk_iff hb
          obtain ⟨C, hC, hS⟩ := hx
          obtain ⟨C', hC', hO⟩ := ok.obj _ _ hid
          rw [hC] at hC'; cases hC'
          have hlen := hO.2.1
          obtain ⟨A, c, rfl, hS⟩ := hS
          cases hB : C.blk with
          | none => rw [hB] at hS; obtain ⟨_, h0, _⟩ := hS; omega
          | some B =>
            rw [hB] at hS
            obtain ⟨hc, a, hA, ha, _⟩ := hS
            have : a = 0 := by rcases ha with ha | ha <;> omega
            have hr := indexAt_slice (P := P) (w := w) (c := c) (k := k) hu b0 (show n < (C.len : Int) by omega) (by omega) hA
            rw [this, hz, Nat.zero_add, Nat.mul_one] at hr
            exact RunsV.pure ok hM hr ⟨C, B, hC, hB, by omega, rfl⟩
        · exact h.elim
      · rename_i ver xs m hid
        obtain ⟨hz, h⟩ := bif_stuck h
        have hz := Nat.eq_of_beq_eq_true hz
        split at h
        · obtain ⟨hb, rfl, rfl⟩ := yields_when h
          obtain ⟨b0, b1, b2⟩ := boundOk_iff hb
          obtain ⟨C, hC, hS⟩ := hx
          obtain ⟨C', hC', hO⟩ := ok.obj _ _ hid
          rw [hC] at hC'; cases hC'
          have hlen := hO.2.1
          obtain ⟨A, c, rfl, hS⟩ := hS
          cases hB : C.blk with
          | none => rw [hB] at hS; obtain ⟨_, h0, _⟩ := hS; omega
          | some B =>
            rw [hB] at hS
            obtain ⟨hc, a, hA, ha, _⟩ := hS
            have : a = 0 := by rcases ha with ha | ha <;> omega
            have hr := indexAt_slice (P := P) (w := w) (c := c) (k := k) hu b0 (show n < (C.len : Int) by omega) (by omega) hA
            rw [this, hz, Nat.zero_add, Nat.mul_one] at hr
            exact RunsV.pure ok hM hr ⟨C, B, hC, hB, by omega, rfl⟩
        · exact h.elim
      · exact h.elim
    · rename_i id j ver
      obtain ⟨hz, h⟩ := bif_stuck h
      have hz := Nat.eq_of_beq_eq_true hz
      split at h
      · rename_i v' xs hid
        obtain ⟨hv, h⟩ := bif_stuck h
        have hv := Nat.eq_of_beq_eq_true hv
        subst hv
        obtain ⟨hb, rfl, rfl⟩ := yields_when h
        obtain ⟨b0, b1, b2⟩ := boundOk_iff hb
        obtain ⟨C, hC, h1, hle, hm⟩ := hx
        obtain ⟨C', hC', hO⟩ := ok.obj _ _ hid
        rw [hC] at hC'; cases hC'
        obtain ⟨rb, rl, k1, k2⟩ := hm hO.1
        have hj : j < xs.length := by
          rw [← hO.2.2.2.1]
          rcases Nat.lt_or_ge j C.rows.length with h | h
          · exact h
          · rw [List.getElem?_eq_none h] at k1; cases k1
        obtain ⟨B, rb', x', q0, qv, q1, q2, q3, q4⟩ := mat_row hO hj
        rw [k1] at q1
        cases q1
        have e1 : xs.getD j [] = xs[j] := by simp [List.getD, hj]
        rw [e1] at b1 b2
        cases rb with
        | none => obtain ⟨_, h0⟩ := k2; omega
        | some R =>
          obtain ⟨a, c, rfl, hc, ha, _⟩ := k2
          have : a = 0 := by rcases ha with ha | ha <;> omega
          subst this
          have hr := indexAt_slice (P := P) (w := w) (c := c) (k := k) (A := some ⟨R, 0, none⟩) hu b0 b1 (by omega) rfl
          rw [hz, Nat.zero_add, Nat.mul_one] at hr
          exact RunsV.pure ok hM hr ⟨C, hC, rfl, hle, fun _ => ⟨R, _, k1, b2, rfl⟩⟩
      · exact h.elim
    · exact h.elim
  · rename_i m e id off k n hu
    have hri : ri = .int k n := hi
    subst hri
    obtain ⟨hz, h⟩ := bif_stuck' h
    have hz := beq_false hz
    obtain ⟨j, j1, j2, rfl, rfl, rfl⟩ := arrAlts_pick h
    obtain ⟨C, B, hC, hB, rfl⟩ := hx
    obtain ⟨y, hy⟩ := info_of_cells (P := P) (t := e) (by omega)
    refine RunsV.pure ok hM (rv := .pointer (some ⟨B, off + j * P.cellsOf e, none⟩)) ?_ ⟨C, B, hC, hB, rfl⟩
    have : (j : Int) < m := by omega
    have h' : ¬ m ≤ j := by omega
    simp [Instr.indexAt, asIntOf, run_underlying hu, sure, this, h', run_size w hy, Addr.add_lit]
  · exact h.elim

theorem cut_all {M : Mst} {cs : List CVal} {us : Array Value} {off n : Nat} {vs : List CVal} (h : All2 (CRep M) cs us.toList) (hc : cutCells cs off n = some vs) : All2 (CRep M) vs (us.extract off (off + n)).toList := by
  obtain ⟨h1, rfl, h2⟩ := cutCells_some hc
  have := (h.drop off).take n
  rw [Array.toList_extract, List.extract_eq_take_drop]
  simpa using this

theorem part_run {P : Program} {M : Mst} {w : World} {t : TypeId} {cs : List CVal} {us : Array Value} {off : Nat} {vs : List CVal} {v : AVal} (h : All2 (CRep M) cs us.toList)
    (hc : cutCells cs off (P.cellsOf t) = some vs) (hp : partO (aggT P t) vs = some v) : ∃ rv, (part t us off).run P w = .ok rv w ∧ VRep M v rv := by
  have hall := cut_all h hc
  obtain ⟨h1, h2, h3⟩ := cutCells_some hc
  have hl := h.length
  rcases partO_some hp with ⟨hagg, rfl⟩ | ⟨hagg, c, rfl, rfl⟩
  · obtain ⟨⟨d, hd⟩, hr⟩ := aggT_some (P := P) w hagg
    obtain ⟨i, hi⟩ := info_of_underlying hd
    exact ⟨.agg (us.extract off (off + P.cellsOf t)), by simp [part, hr, run_size w hi], _, rfl, hall⟩
  · obtain ⟨⟨d, hd⟩, hr⟩ := aggT_some (P := P) w hagg
    simp only [List.length_singleton] at h3
    have hlt : off < us.size := by simp at hl; omega
    have hlc : off < cs.length := by omega
    refine ⟨us[off], by simp [part, hr, hlt], ?_⟩
    have e : cs[off] = c := by
      have := congrArg (·[0]?) h2
      simp only [List.getElem?_cons_zero] at this
      rw [← h3, List.getElem?_take, if_pos (by omega), List.getElem?_drop, Nat.add_zero, List.getElem?_eq_getElem hlc] at this
      exact (Option.some.inj this).symm
    have := h.get off hlc (by simpa using hlt)
    rw [e] at this
    show CRep M c us[off]
    simpa using this

theorem fieldS_sound {P : Program} {M : Mst} {w : World} (ok : Ok M) (hM : M.H = w.heap) {s : TypeId} {x v : AVal} {f : Nat} {u : Upd} {rx : Value} (hx : VRep M x rx)
    (h : Yields (fieldS P s x f) v u) : RunsV P (Instr.field s rx f) M w v u := by
  unfold fieldS at h
  split at h
  · rename_i fs cs hs
    split at h
    · rename_i fd hf
      split at h
      · rename_i vs hc
        obtain ⟨h', rfl⟩ := yields_ofO h
        obtain ⟨us, rfl, hus⟩ := hx
        obtain ⟨rv, hr, hv⟩ := part_run (P := P) (w := w) hus hc h'
        exact RunsV.pure ok hM (by simp [Instr.field, run_underlying hs, hf, asAgg, hr]) hv
      · exact h.elim
    · exact h.elim
  · exact h.elim

theorem indexS_sound {P : Program} {M : Mst} {w : World} (ok : Ok M) (hM : M.H = w.heap) {t : TypeId} {x i v : AVal} {u : Upd} {rx ri : Value} (hx : VRep M x rx) (hi : VRep M i ri)
    (h : Yields (indexS P t x i) v u) : RunsV P (Instr.index t rx ri) M w v u := by
  unfold indexS at h
  split at h
  · rename_i m e cs k n hu
    have hri : ri = .int k n := hi
    subst hri
    obtain ⟨hc, h⟩ := bif_stuck h
    simp only [Bool.and_eq_true] at hc
    obtain ⟨⟨c1, c2⟩, c3⟩ := hc
    have c1 := Nat.eq_of_beq_eq_true c1
    have c3 := Nat.eq_of_beq_eq_true c3
    obtain ⟨j, j1, j2, rfl, rfl, rfl⟩ := arrAlts_pick h
    obtain ⟨us, rfl, hus⟩ := hx
    have hagg : aggT P e = some false := by
      split at c2
      · rename_i e1; exact e1
      · cases c2
    have hj : j < cs.length := by omega
    have hcut : cutCells cs j (P.cellsOf e) = some [cs[j]] := by
      unfold cutCells
      have : Nat.ble (j + P.cellsOf e) cs.length = true := Nat.ble_eq_true_of_le (by omega)
      rw [this, c1]
      simp [List.take_one, List.head?_drop, hj]
    obtain ⟨rv, hr, hv⟩ := part_run (P := P) (w := w) hus hcut (v := .c cs[j]) (by rw [hagg]; rfl)
    obtain ⟨y, hy⟩ := info_of_cells (P := P) (t := e) (by omega)
    have hjm : (j : Int) < m := by omega
    refine RunsV.pure ok hM (rv := rv) ?_ ?_
    · have h' : ¬ m ≤ j := by omega
      simp [Instr.index, asIntOf, run_underlying hu, hjm, h', run_size w hy, c1, hr]
    · have : cs.getD j .undef = cs[j] := by simp [List.getD, hj]
      rw [this]; exact hv
  · exact h.elim

/-! ### Whole numbers and bools -/
theorem eqBool_eq (a b : Bool) : eqBool a b = (a == b) := by cases a <;> cases b <;> rfl

theorem binInt_sound {P : Program} {M : Mst} {w : World} (ok : Ok M) (hM : M.H = w.heap) {op : BinOp} {k : IntKind} {x y : Int} {xt : TypeId} {v : AVal} {u : Upd} (hs : op ≠ .shl ∧ op ≠ .shr)
    (h : Yields (binInt op k x y) v u) : RunsV P (binOp op xt (.int k x) (.int k y)) M w v u := by
  cases op with
  | shl => exact absurd rfl hs.1
  | shr => exact absurd rfl hs.2
  | quo =>
    obtain ⟨h1, rfl, rfl⟩ := yields_when h
    simp only [Bool.not_eq_true', decide_eq_false_iff_not] at h1
    exact RunsV.pure ok hM (rv := .int k (k.wrap (x.tdiv y))) (by simp [binOp, Op.intDiv, h1]) rfl
  | rem =>
    obtain ⟨h1, rfl, rfl⟩ := yields_when h
    simp only [Bool.not_eq_true', decide_eq_false_iff_not] at h1
    exact RunsV.pure ok hM (rv := .int k (x.tmod y)) (by simp [binOp, Op.intDiv, h1]) rfl
  | neq =>
    obtain ⟨rfl, rfl⟩ := yields_one h
    exact RunsV.pure ok hM (rv := .bool (!decide (x = y))) (by simp [binOp, Op.intCmp, bne, BEq.beq]) rfl
  | eql =>
    obtain ⟨rfl, rfl⟩ := yields_one h
    exact RunsV.pure ok hM (rv := .bool (decide (x = y))) (by simp [binOp, Op.intCmp, BEq.beq]) rfl
  | _ =>
    obtain ⟨rfl, rfl⟩ := yields_one h
    exact RunsV.pure ok hM (rv := _) (by simp only [binOp, ne_eq, not_true_eq_false, if_false]; rfl) rfl

theorem binShift_sound {P : Program} {M : Mst} {w : World} (ok : Ok M) (hM : M.H = w.heap) {op : BinOp} {k j : IntKind} {x y : Int} {xt : TypeId} {v : AVal} {u : Upd} (hs : op = .shl ∨ op = .shr)
    (h : Yields (binShift op k x y) v u) : RunsV P (binOp op xt (.int k x) (.int j y)) M w v u := by
  rcases hs with rfl | rfl
  · obtain ⟨h1, rfl, rfl⟩ := yields_when h
    simp only [Bool.not_eq_true', decide_eq_false_iff_not] at h1
    exact RunsV.pure ok hM (rv := .int k (k.wrap (x * 2 ^ (min y.toNat k.bits)))) (by simp only [binOp, Op.shift, h1, if_false]; rfl) rfl
  · obtain ⟨h1, rfl, rfl⟩ := yields_when h
    simp only [Bool.not_eq_true', decide_eq_false_iff_not] at h1
    exact RunsV.pure ok hM (rv := .int k (x.fdiv (2 ^ (min y.toNat k.bits)))) (by simp only [binOp, Op.shift, h1, if_false]; rfl) rfl

/-- What the program says of '==' between values of a struct type. -/
def EqOK (P : Program) (eqT : TypeId → Bool) : Prop := ∀ t, eqT t = true → ∀ (M : Mst) (xs ys : List CVal) (us vs : Array Value) (r : Bool) (w : World), eqAgg P t xs ys = some r →
  All2 (CRep M) xs us.toList → All2 (CRep M) ys vs.toList → P.eqGuardType P.depth t = false ∧ (Op.equal t (.agg us) (.agg vs)).run P w = .ok r w

def aggD : TypeDesc → Bool
  | .struct _ | .array _ _ => true
  | _ => false

theorem run_part_cell {P : Program} {t : TypeId} {d : TypeDesc} {cs : Array Value} {i : Nat} {v : Value} {w : World} (hu : P.underlying t = some d) (hd : aggD d = false) (hv : cs.toList[i]? = some v) :
    (part t cs i).run P w = .ok v w := by
  have hi : (isAgg t).run P w = .ok false w := by
    unfold isAgg
    simp only [Sem.run_bind, run_underlying hu, Result.andThen_ok]
    cases d <;> first | rfl | cases hd
  have hv' : cs[i]? = some v := by rw [← hv]; simp
  unfold part
  simp only [Sem.run_bind, hi, Result.andThen_ok, Bool.false_eq_true, if_false, hv', Sem.run_pure]

def eqCell : CVal → CVal → Option Bool
  | .int j a, .int k b => bif kindEq j k then some (decide (a = b)) else none
  | .bool a, .bool b => some (eqBool a b)
  | _, _ => none

theorem eqCells_cons {x y : CVal} {xs ys : List CVal} {r : Bool} (h : eqCells (x :: xs) (y :: ys) = some r) : ∃ b r', eqCell x y = some b ∧ eqCells xs ys = some r' ∧ r = (b && r') := by
  have multi : (match eqCell x y, eqCells xs ys with | some b, some r' => some (b && r') | _, _ => none) = some r → ∃ b r', eqCell x y = some b ∧ eqCells xs ys = some r' ∧ r = (b && r') := by
    intro h
    split at h
    · rename_i b r' e1 e2
      cases h
      exact ⟨b, r', e1, e2, rfl⟩
    · cases h
  apply multi
  rw [← h]
  match x, y with
  | .int j a, .int k b =>
    cases hk : kindEq j k <;> cases xs <;> cases ys <;> simp only [eqCells, eqCell, hk, cond_true, cond_false, Bool.and_true] <;> first | (generalize eqCells _ _ = z; cases z <;> rfl) | rfl
  | .bool a, .bool b =>
    cases xs <;> cases ys <;> simp only [eqCells, eqCell, Bool.and_true] <;> first | (generalize eqCells _ _ = z; cases z <;> rfl) | rfl
  | .int _ _, .undef | .int _ _, .bool _ | .int _ _, .fsl _ _ _ | .int _ _, .nfl _ _ _ | .int _ _, .nsl | .int _ _, .osl _ _ | .int _ _, .bsl _ _ _ | .int _ _, .ptr _ _ | .int _ _, .eptr _ _ _ | .int _ _, .fptr _ _ _ _ | .int _ _, .mrow _ _ _ | .int _ _, .mptr _ _ | .int _ _, .meptr _ _ _ _ | .int _ _, .nilp | .int _ _, .nilf | .int _ _, .nilm | .int _ _, .fn _ _ | .int _ _, .map _ => cases xs <;> cases ys <;> cases h
  | .bool _, .undef | .bool _, .int _ _ | .bool _, .fsl _ _ _ | .bool _, .nfl _ _ _ | .bool _, .nsl | .bool _, .osl _ _ | .bool _, .bsl _ _ _ | .bool _, .ptr _ _ | .bool _, .eptr _ _ _ | .bool _, .fptr _ _ _ _ | .bool _, .mrow _ _ _ | .bool _, .mptr _ _ | .bool _, .meptr _ _ _ _ | .bool _, .nilp | .bool _, .nilf | .bool _, .nilm | .bool _, .fn _ _ | .bool _, .map _ => cases xs <;> cases ys <;> cases h
  | .undef, y | .fsl _ _ _, y | .nfl _ _ _, y | .nsl, y | .osl _ _, y | .bsl _ _ _, y | .ptr _ _, y | .eptr _ _ _, y | .fptr _ _ _ _, y | .mrow _ _ _, y | .mptr _ _, y | .meptr _ _ _ _, y | .nilp, y | .nilf, y | .nilm, y | .fn _ _, y | .map _, y => cases xs <;> cases ys <;> cases y <;> cases h

theorem eqFields_run {P : Program} {M : Mst} {w : World} {us vs : Array Value} : ∀ (fs : List Field) (i : Nat) (ks : List (Option IntKind)) (xs ys : List CVal) (r : Bool), fieldKinds P i fs = some ks → cellsAre ks xs = true → cellsAre ks ys = true →
    eqCells xs ys = some r → All2 (CRep M) xs (us.toList.drop i) → All2 (CRep M) ys (vs.toList.drop i) → (Op.eqFields 9999 us vs fs).run P w = .ok r w
  | [], i, ks, xs, ys, r, hk, hx, hy, he, hu, hv => by
    cases hk
    cases xs with
    | cons _ _ => cases hx
    | nil => cases ys with
      | cons _ _ => cases hy
      | nil => cases he; rfl
  | f :: fs, i, ks, xs, ys, r, hk, hx, hy, he, hu, hv => by
    unfold fieldKinds at hk
    cases hc : (Nat.beq f.offset i && !(f.name == "_")) with
    | false => rw [hc] at hk; cases hk
    | true =>
      rw [hc] at hk
      rw [Bool.and_eq_true] at hc
      have ho : f.offset = i := by simpa using hc.1
      have hn : f.name ≠ "_" := by simpa using hc.2
      have next : ∀ (l : List Value) (j : Nat) (a : Value) (m : List Value), l.drop j = a :: m → l[j]? = some a ∧ l.drop (j + 1) = m := by
        intro l j a m h
        have h0 : (l.drop j)[0]? = some a := by rw [h]; rfl
        have h1 : (l.drop j).drop 1 = m := by rw [h]; rfl
        rw [List.getElem?_drop, Nat.add_zero] at h0
        rw [List.drop_drop] at h1
        exact ⟨h0, h1⟩
      have whole : ∀ (d : TypeDesc) (k0 : Option IntKind) (r0 : List (Option IntKind)), P.underlying f.type = some d → aggD d = false → fieldKinds P (i + 1) fs = some r0 → cellsAre (k0 :: r0) xs = true → cellsAre (k0 :: r0) ys = true →
          (∀ x y u v b, cellsAre [k0] [x] = true → cellsAre [k0] [y] = true → eqCell x y = some b → CRep M x u → CRep M y v → (Op.equalIn 9999 f.type u v).run P w = .ok b w) → (Op.eqFields 9999 us vs (f :: fs)).run P w = .ok r w := by
        intro d k0 r0 hd hda hr hx hy hone
        match xs, ys, hx, hy, he, hu, hv with
        | [], _, hx, _, _, _, _ => cases k0 <;> cases hx
        | _ :: _, [], _, hy, _, _, _ => cases k0 <;> cases hy
        | x :: xs, y :: ys, hx, hy, he, hu, hv =>
          have cut : ∀ {z : CVal} {zs : List CVal}, cellsAre (k0 :: r0) (z :: zs) = true → cellsAre [k0] [z] = true ∧ cellsAre r0 zs = true := by
            intro z zs h
            cases k0 <;> cases z <;> simp only [cellsAre, Bool.and_eq_true] at h ⊢ <;> first | exact ⟨trivial, h⟩ | exact ⟨⟨h.1, trivial⟩, h.2⟩ | (exact absurd h (by simp)) | exact ⟨h.1, h.2⟩
          obtain ⟨b, r', e1, e2, rfl⟩ := eqCells_cons he
          cases eu : us.toList.drop i with
          | nil => rw [eu] at hu; cases hu
          | cons u us' => cases ev : vs.toList.drop i with
            | nil => rw [ev] at hv; cases hv
            | cons v vs' =>
              rw [eu] at hu; rw [ev] at hv
              obtain ⟨hu1, hu2⟩ := hu
              obtain ⟨hv1, hv2⟩ := hv
              obtain ⟨u1, u2⟩ := next _ _ _ _ eu
              obtain ⟨v1, v2⟩ := next _ _ _ _ ev
              rw [← u2] at hu2; rw [← v2] at hv2
              have ih := eqFields_run (w := w) fs (i + 1) r0 xs ys r' hr (cut hx).2 (cut hy).2 e2 hu2 hv2
              have h1 := hone x y u v b (cut hx).1 (cut hy).1 e1 hu1 hv1
              unfold Op.eqFields
              rw [if_pos hn, ho]
              simp only [Sem.run_bind, run_part_cell hd hda u1, run_part_cell hd hda v1, Result.andThen_ok, h1]
              cases b with
              | true => simp only [Bool.not_true, Bool.false_eq_true, if_false, Bool.true_and]; exact ih
              | false => simp
      dsimp only [cond_true] at hk
      split at hk
      · rename_i k r0 hd hr
        cases hk
        refine whole _ (some k) r0 hd rfl hr hx hy ?_
        intro x y u v b hx hy he hu hv
        cases x <;> first | (cases hx; done) | skip
        cases y <;> first | (cases hy; done) | skip
        rename_i j a j' c
        have e1 : u = .int j a := hu
        have e2 : v = .int j' c := hv
        subst e1; subst e2
        simp only [eqCell] at he
        cases hk : kindEq j j' with
        | false => rw [hk] at he; cases he
        | true =>
          rw [hk] at he
          cases he
          rw [← kindEq_spec hk]
          exact run_equalIn_int (P := P) w 9998 f.type j k a c hd
      · rename_i r0 hd hr
        cases hk
        refine whole _ none r0 hd rfl hr hx hy ?_
        intro x y u v b hx hy he hu hv
        cases x <;> first | (cases hx; done) | skip
        cases y <;> first | (cases hy; done) | skip
        rename_i a c
        have e1 : u = .bool a := hu
        have e2 : v = .bool c := hv
        subst e1; subst e2
        cases he
        rw [run_equalIn_bool' (P := P) w 9998 f.type a c hd, eqBool_eq]
      · cases hk

/-- Types of structs whose cells are whole numbers and bools. -/
theorem eqOK_flat {P : Program} {eqT : TypeId → Bool} (h : ∀ t, eqT t = true → (!P.stoodInHeld t && !P.eqGuardType P.depth t) = true) : EqOK P eqT := by
  intro t ht M xs ys us vs r w he hu hv
  have h := h t ht
  simp only [Bool.and_eq_true, Bool.not_eq_true'] at h
  refine ⟨h.2, ?_⟩
  unfold eqAgg at he
  split at he
  · rename_i ks hk
    unfold flatKinds at hk
    split at hk
    · rename_i fs hfs
      cases hc : (cellsAre ks xs && cellsAre ks ys) with
      | false => rw [hc] at he; cases he
      | true =>
        rw [hc] at he
        rw [Bool.and_eq_true] at hc
        have hf : P.fieldsOf t = fs := by unfold Program.fieldsOf; rw [hfs]
        have := run_equalIn_struct (P := P) w 9999 t us vs (by rw [hf]; exact hfs) h.1
        rw [hf] at this
        exact this.trans (eqFields_run _ 0 ks xs ys r hk hc.1 hc.2 he hu hv)
    · cases hk
  · cases he

theorem boolT {P : Program} {t : TypeId} (h : isBoolT P t = true) : P.underlying t = some .bool := by
  unfold isBoolT at h
  split at h
  · rename_i e; exact e
  · cases h

theorem binS_sound {P : Program} {eqT : TypeId → Bool} (heq : EqOK P eqT) {M : Mst} {w : World} (ok : Ok M) (hM : M.H = w.heap) {op : BinOp} {xt : TypeId} {ox oy : Operand} {x y v : AVal} {u : Upd} {rx ry : Value}
    (hx : VRep M x rx) (hy : VRep M y ry) (h : Yields (binS P eqT op xt ox oy x y) v u) : RunsV P (do eqGuard op xt ox oy rx ry; binOp op xt rx ry) M w v u := by
  have quiet : ∀ {k j : IntKind} {a b : Int}, (eqGuard op xt ox oy (.int k a) (.int j b)).run P w = .ok () w := by
    intro k j a b
    unfold eqGuard
    split <;> rfl
  have step : ∀ {a b : Value}, (eqGuard op xt ox oy a b).run P w = .ok () w → RunsV P (binOp op xt a b) M w v u → RunsV P (do eqGuard op xt ox oy a b; binOp op xt a b) M w v u := by
    rintro a b hg ⟨rv, w', M', h1, h2⟩
    exact ⟨rv, w', M', by simp only [Sem.run_bind, hg, Result.andThen_ok]; exact h1, h2⟩
  unfold binS at h
  split at h
  · have e1 : rx = _ := hx
    have e2 : ry = _ := hy
    subst e1; subst e2
    exact step quiet (binShift_sound ok hM (.inl rfl) h)
  · have e1 : rx = _ := hx
    have e2 : ry = _ := hy
    subst e1; subst e2
    exact step quiet (binShift_sound ok hM (.inr rfl) h)
  · rename_i k a j b n1 n2
    obtain ⟨hk, h2⟩ := bif_stuck h
    have hk := kindEq_spec hk
    subst hk
    have e1 : rx = _ := hx
    have e2 : ry = _ := hy
    subst e1; subst e2
    exact step quiet (binInt_sound ok hM ⟨fun e => n1 e, fun e => n2 e⟩ h2)
  · rename_i a b
    have e1 : rx = _ := hx
    have e2 : ry = _ := hy
    subst e1; subst e2
    obtain ⟨hb, h2⟩ := bif_stuck h
    obtain ⟨rfl, rfl⟩ := yields_one h2
    have hr := run_equalIn_bool' (P := P) w 9999 xt a b (boolT hb)
    refine RunsV.pure ok hM (rv := .bool (eqBool a b)) ?_ rfl
    have hr' : (Op.equal xt (.bool a) (.bool b)).run P w = .ok (a == b) w := hr
    have hg : (eqGuard .eql xt ox oy (.bool a) (.bool b)).run P w = .ok () w := by unfold eqGuard; rfl
    simp only [Sem.run_bind, hg, Result.andThen_ok, binOp, hr', Sem.run_pure, eqBool_eq]
  · rename_i a b
    have e1 : rx = _ := hx
    have e2 : ry = _ := hy
    subst e1; subst e2
    obtain ⟨hb, h2⟩ := bif_stuck h
    obtain ⟨rfl, rfl⟩ := yields_one h2
    have hr := run_equalIn_bool' (P := P) w 9999 xt a b (boolT hb)
    refine RunsV.pure ok hM (rv := .bool (!eqBool a b)) ?_ rfl
    have hr' : (Op.equal xt (.bool a) (.bool b)).run P w = .ok (a == b) w := hr
    have hg : (eqGuard .neq xt ox oy (.bool a) (.bool b)).run P w = .ok () w := by unfold eqGuard; rfl
    simp only [Sem.run_bind, hg, Result.andThen_ok, binOp, hr', Sem.run_pure, eqBool_eq]
  · obtain ⟨ht, h⟩ := bif_stuck h
    split at h
    · rename_i r hr
      obtain ⟨rfl, rfl⟩ := yields_one h
      obtain ⟨us, rfl, hus⟩ := hx
      obtain ⟨vs, rfl, hvs⟩ := hy
      obtain ⟨g1, g2⟩ := heq xt ht M _ _ us vs r w hr hus hvs
      exact step (run_eqGuard_agg w _ xt ox oy us vs g1) (RunsV.pure ok hM (rv := .bool r) (by simp only [binOp, Sem.run_bind, g2, Result.andThen_ok]; rfl) rfl)
    · exact h.elim
  · obtain ⟨ht, h⟩ := bif_stuck h
    split at h
    · rename_i r hr
      obtain ⟨rfl, rfl⟩ := yields_one h
      obtain ⟨us, rfl, hus⟩ := hx
      obtain ⟨vs, rfl, hvs⟩ := hy
      obtain ⟨g1, g2⟩ := heq xt ht M _ _ us vs r w hr hus hvs
      exact step (run_eqGuard_agg w _ xt ox oy us vs g1) (RunsV.pure ok hM (rv := .bool (!r)) (by simp only [binOp, Sem.run_bind, g2, Result.andThen_ok]; rfl) rfl)
    · exact h.elim
  · exact h.elim

theorem unS_sound {P : Program} {M : Mst} {w : World} (ok : Ok M) (hM : M.H = w.heap) {op : UnOp} {x v : AVal} {u : Upd} {rx : Value} (hx : VRep M x rx) (h : Yields (unS op x) v u) :
    RunsV P (Op.unary op rx) M w v u := by
  unfold unS at h
  split at h
  · obtain ⟨rfl, rfl⟩ := yields_one h
    have e1 : rx = _ := hx
    subst e1
    exact RunsV.pure ok hM rfl rfl
  · obtain ⟨rfl, rfl⟩ := yields_one h
    have e1 : rx = _ := hx
    subst e1
    exact RunsV.pure ok hM rfl rfl
  · exact h.elim
end Go.Ab
