/- What an operation that makes no memory comes to. -/
import Derived.Test.YtpmkkfbnaohlhaaGiAb2
import Derived.Laws.Append
import Derived.Laws.AppendOwn
import Derived.Laws.MakeOwn
import Derived.Laws.IdiomCopy
import Derived.Laws.StructEq
import Derived.Laws.CopyRow
set_option linter.unusedVariables false
set_option linter.unusedSimpArgs false
namespace Go.Ab

def Pick : List (Bool × AVal × Upd) → AVal → Upd → Prop
  | [], _, _ => False
  | (c, a, b) :: l, v, u => (c = true ∧ v = a ∧ u = b) ∨ (c = false ∧ Pick l v u)

def Yields (s : Sres) (v : AVal) (u : Upd) : Prop := match s with
  | .alts l => Pick l v u
  | .call _ x f => ∃ r, x = some r ∧ v = (f r).1 ∧ u = (f r).2

theorem altsElim_some {R : Type} {K : AVal → Upd → Option R} {out : R} : ∀ {l : List (Bool × AVal × Upd)}, altsElim K l = some out → ∃ v u, Pick l v u ∧ K v u = some out
  | [], h => by cases h
  | (c, a, b) :: l, h => by
    cases c with
    | true => exact ⟨a, b, .inl ⟨rfl, rfl, rfl⟩, h⟩
    | false =>
      obtain ⟨v, u, h1, h2⟩ := altsElim_some (l := l) h
      exact ⟨v, u, .inr ⟨rfl, h1⟩, h2⟩

theorem Sres.elim_some {R : Type} {s : Sres} {K : AVal → Upd → Option R} {out : R} (h : s.elim K = some out) : ∃ v u, Yields s v u ∧ K v u = some out := by
  cases s with
  | alts l => exact altsElim_some h
  | call X x f =>
    simp only [Sres.elim, Option.bind_eq_some_iff] at h
    obtain ⟨r, h1, h2⟩ := h
    exact ⟨_, _, ⟨r, h1, rfl, rfl⟩, h2⟩

theorem yields_one {v a : AVal} {u : Upd} (h : Yields (.one a) v u) : v = a ∧ u = [] := by
  rcases h with ⟨_, h1, h2⟩ | ⟨h, _⟩
  · exact ⟨h1, h2⟩
  · cases h
theorem yields_when {c : Bool} {v a : AVal} {u : Upd} (h : Yields (.when c a) v u) : c = true ∧ v = a ∧ u = [] := by
  rcases h with h | ⟨_, h⟩
  · exact h
  · exact h.elim
theorem yields_alt {c : Bool} {v a : AVal} {u b : Upd} (h : Yields (.alts [(c, a, b)]) v u) : c = true ∧ v = a ∧ u = b := by
  rcases h with h | ⟨_, h⟩
  · exact h
  · exact h.elim
theorem yields_stuck {v : AVal} {u : Upd} (h : Yields .stuck v u) : False := h
theorem yields_ofO {x : Option AVal} {v : AVal} {u : Upd} (h : Yields (.ofO x) v u) : x = some v ∧ u = [] := by
  cases x with
  | none => exact h.elim
  | some a =>
    obtain ⟨rfl, rfl⟩ := yields_one h
    exact ⟨rfl, rfl⟩

/-! ### The program's own tables -/
section
variable {P : Program} (w : World)

theorem info_of_underlying {t : TypeId} {d : TypeDesc} (h : P.underlying t = some d) : ∃ i, P.info? t = some i := by
  unfold Program.underlying at h
  cases hi : P.info? t with
  | none => rw [hi] at h; cases h
  | some i => exact ⟨i, rfl⟩
theorem cellsOf_info {t : TypeId} {i : TypeInfo} (h : P.info? t = some i) : P.cellsOf t = i.size := by simp [Program.cellsOf, h]
theorem bytesOf_info {t : TypeId} {i : TypeInfo} (h : P.info? t = some i) : P.bytesOf t = i.bytes := by simp [Program.bytesOf, h]
theorem info_of_cells {t : TypeId} (h : 0 < P.cellsOf t) : ∃ i, P.info? t = some i := by
  cases hi : P.info? t with
  | none => simp [Program.cellsOf, hi] at h
  | some i => exact ⟨i, rfl⟩
theorem run_info {t : TypeId} {i : TypeInfo} (h : P.info? t = some i) : (typeInfo t).run P w = .ok i w := by simp [typeInfo, h]
theorem run_size {t : TypeId} {i : TypeInfo} (h : P.info? t = some i) : (sizeOf t).run P w = .ok (P.cellsOf t) w := by
  rw [cellsOf_info h]; simp [sizeOf, typeInfo, h]
theorem aggT_some {t : TypeId} {b : Bool} (h : aggT P t = some b) : (∃ d, P.underlying t = some d) ∧ (isAgg t).run P w = .ok b w := by
  unfold aggT at h
  cases hd : P.underlying t with
  | none => rw [hd] at h; cases h
  | some d =>
    rw [hd] at h
    refine ⟨⟨d, rfl⟩, ?_⟩
    cases d <;> simp at h <;> subst h <;> simp [isAgg, run_underlying hd]
theorem zeroCells_some {t : TypeId} {cs : List CVal} (h : zeroCells P t = some cs) : ∃ i v, P.info? t = some i ∧ i.zero = some v ∧ v.cells.size = i.size ∧ v.cells.toList.all oneB = true ∧ cs = v.cells.toList.map absC := by
  unfold zeroCells at h
  split at h
  · rename_i i hi
    split at h
    · rename_i v hv
      cases hb : (Nat.beq v.cells.size i.size && v.cells.toList.all oneB) with
      | false => rw [hb] at h; cases h
      | true =>
        rw [hb] at h
        simp only [cond_true, Option.some.injEq] at h
        simp only [Bool.and_eq_true] at hb
        exact ⟨i, v, hi, hv, Nat.eq_of_beq_eq_true hb.1, hb.2, h.symm⟩
    · cases h
  · cases h
end

theorem oneB_one1 {v : Value} (h : oneB v = true) : v.one1 = true := by cases v <;> first | rfl | cases h
theorem one1_oneB {v : Value} (h : v.one1 = true) : oneB v = true := by cases v <;> first | rfl | cases h
theorem one1_one' {v : Value} (h : v.one1 = true) : v.oneCell' = true := by cases v <;> first | rfl | cases h

theorem absC_rep (M : Mst) {v : Value} (h : v.one1 = true) : CRep M (absC v) v := by
  unfold absC
  split <;> first | rfl | exact h

theorem absCs_rep (M : Mst) : ∀ {l : List Value}, l.all oneB = true → All2 (CRep M) (l.map absC) l
  | [], _ => trivial
  | v :: l, h => by
    simp only [List.all_cons, Bool.and_eq_true] at h
    exact ⟨absC_rep M (oneB_one1 h.1), absCs_rep M h.2⟩

theorem absV_rep (M : Mst) (v : Value) : VRep M (absV v) v := by
  unfold absV
  split
  · rename_i cs
    cases hb : cs.toList.all oneB with
    | false => trivial
    | true => exact ⟨cs, rfl, absCs_rep M hb⟩
  · trivial
  · rename_i h1 h2
    exact absC_rep M (by cases v <;> first | rfl | exact absurd rfl (h1 _) | exact absurd rfl (h2 _))

/-! ### Runs -/
/-- A value, and what memory has become. -/
def RunsV (P : Program) (s : Sem Value) (M : Mst) (w : World) (v : AVal) (u : Upd) : Prop :=
  ∃ rv w' M', s.run P w = .ok rv w' ∧ w'.os = w.os ∧ w'.tape = w.tape ∧ w'.output = w.output ∧ M'.H = w'.heap ∧ M'.h = happly M.h u ∧ Ok M' ∧ Step M M' ∧ VRep M' v rv

theorem RunsV.pure {P : Program} {s : Sem Value} {M : Mst} {w : World} {v : AVal} {rv : Value} (ok : Ok M) (hM : M.H = w.heap) (h : s.run P w = .ok rv w) (hv : VRep M v rv) : RunsV P s M w v [] :=
  ⟨rv, w, M, h, rfl, rfl, rfl, hM, rfl, ok, Step.refl M, hv⟩

/-! ### Cells of data -/
theorem cells_length (sh : Bool) : ∀ (t : Ty) (x : t.den), (cellsOf sh t x).length = t.size
  | .int _, _ | .bool, _ | .sl _, _ => rfl
  | .pair a b, p => by simp only [cellsOf, List.length_append, cells_length sh a, cells_length sh b, Ty.size]

theorem cells_rep (M : Mst) (sh : Bool) : ∀ (t : Ty) (x : t.den) (rd : Nat → Option Value), ERep M.H (bif sh then M.G else M.F) t x rd →
    ∀ j (h : j < (cellsOf sh t x).length), ∃ v, rd j = some v ∧ CRep M (cellsOf sh t x)[j] v
  | .int k, n, rd, h, j, hj => by
    simp only [cellsOf, List.length_singleton] at hj
    obtain rfl : j = 0 := by omega
    exact ⟨_, h, rfl⟩
  | .bool, n, rd, h, j, hj => by
    simp only [cellsOf, List.length_singleton] at hj
    obtain rfl : j = 0 := by omega
    exact ⟨_, h, rfl⟩
  | .sl t, xs, rd, h, j, hj => by
    simp only [cellsOf, List.length_singleton] at hj
    obtain rfl : j = 0 := by omega
    simp only [ERep] at h
    obtain ⟨A, n, c, h1, h2⟩ := h
    refine ⟨_, h1, ?_⟩
    show ERep _ _ _ _ _
    simp only [ERep]
    exact ⟨A, n, c, rfl, h2⟩
  | .pair a b, p, rd, h, j, hj => by
    simp only [ERep] at h
    simp only [cellsOf, List.length_append, cells_length] at hj
    by_cases hlt : j < (cellsOf sh a p.1).length
    · obtain ⟨v, h1, h2⟩ := cells_rep M sh a p.1 rd h.1 j hlt
      refine ⟨v, h1, ?_⟩
      simp only [cellsOf, List.getElem_append_left hlt]
      exact h2
    · have hlt' := hlt
      rw [cells_length] at hlt'
      obtain ⟨v, h1, h2⟩ := cells_rep M sh b p.2 _ h.2 (j - a.size) (by rw [cells_length]; omega)
      refine ⟨v, by rw [show j = j - a.size + a.size by omega]; exact h1, ?_⟩
      have hge : (cellsOf sh a p.1).length ≤ j := by omega
      simp only [cellsOf, List.getElem_append_right hge]
      simp only [cells_length]
      exact h2

theorem cutCells_some {cells vs : List CVal} {off n : Nat} (h : cutCells cells off n = some vs) : off + n ≤ cells.length ∧ vs = (cells.drop off).take n ∧ vs.length = n := by
  unfold cutCells at h
  cases hb : Nat.ble (off + n) cells.length with
  | false => rw [hb] at h; cases h
  | true =>
    rw [hb] at h
    simp only [cond_true, Option.some.injEq] at h
    have := Nat.le_of_ble_eq_true hb
    exact ⟨this, h.symm, by rw [← h, List.length_take, List.length_drop]; omega⟩

theorem partO_some {agg : Option Bool} {vs : List CVal} {v : AVal} (h : partO agg vs = some v) : (agg = some true ∧ v = .agg vs) ∨ (agg = some false ∧ ∃ c, vs = [c] ∧ v = .c c) := by
  unfold partO at h
  split at h
  · exact .inl ⟨rfl, (Option.some.inj h).symm⟩
  · split at h
    · exact .inr ⟨rfl, _, rfl, (Option.some.inj h).symm⟩
    · cases h
  · cases h

/-- A load, of cells that are known. -/
theorem load_cells_pure {P : Program} {M : Mst} {w : World} (ok : Ok M) (hM : M.H = w.heap) {t : TypeId} {B o : Nat} {cells vs : List CVal} {off : Nat} {v : AVal}
    (hrd : ∀ j (h : j < cells.length), ∃ u, hcell M.H B (o + j) = some u ∧ CRep M cells[j] u)
    (hcut : cutCells cells off (P.cellsOf t) = some vs) (hp : partO (aggT P t) vs = some v) :
    ∃ rv, (loadVar t ⟨B, o + off, none⟩).run P w = .ok rv w ∧ VRep M v rv := by
  obtain ⟨h1, h2, h3⟩ := cutCells_some hcut
  have hget : ∀ j, j < vs.length → ∃ u, w.cell? ⟨B, o + off + j, none⟩ = some u ∧ ∃ c, vs[j]? = some c ∧ CRep M c u := by
    intro j hj
    obtain ⟨u, k1, k2⟩ := hrd (off + j) (by omega)
    refine ⟨u, by rw [cell_hcell, ← hM, Nat.add_assoc]; exact k1, cells[off + j], ?_, k2⟩
    subst h2
    rw [List.getElem?_take, if_pos (by omega), List.getElem?_drop, List.getElem?_eq_getElem]
  rcases partO_some hp with ⟨hagg, rfl⟩ | ⟨hagg, c, rfl, rfl⟩
  · obtain ⟨⟨d, hd⟩, hr⟩ := aggT_some (P := P) w hagg
    obtain ⟨i, hi⟩ := info_of_underlying hd
    have hf : ∃ us : List Value, us.length = vs.length ∧ ∀ j (h : j < vs.length), ∃ u c, us[j]? = some u ∧ w.cell? ⟨B, o + off + j, none⟩ = some u ∧ vs[j]? = some c ∧ CRep M c u := by
      refine ⟨(List.range vs.length).map fun j => (w.cell? ⟨B, o + off + j, none⟩).getD undef, by simp, fun j h => ?_⟩
      obtain ⟨u, k1, c, k2, k3⟩ := hget j h
      exact ⟨u, c, by simp [h, k1], k1, k2, k3⟩
    obtain ⟨us, hl, hus⟩ := hf
    have hload := run_loadCells_list (P := P) w ⟨B, o + off, none⟩ us (fun j u hu => by
      have hj : j < us.length := by
        rcases Nat.lt_or_ge j us.length with h | h
        · exact h
        · rw [List.getElem?_eq_none h] at hu; cases hu
      obtain ⟨u', c, k1, k2, _⟩ := hus j (by omega)
      rw [hu] at k1; cases k1
      rw [Addr.add_lit]; exact k2)
    refine ⟨.agg us.toArray, ?_, ?_⟩
    · rw [hl, h3] at hload
      simp [loadVar, hr, run_size w hi, hload]
    · refine ⟨us.toArray, rfl, All2.of_get (by simpa using hl.symm) fun j k1 k2 => ?_⟩
      obtain ⟨u, c, q1, _, q2, q3⟩ := hus j k1
      have e1 : vs[j] = c := by rw [List.getElem?_eq_getElem k1] at q2; exact Option.some.inj q2
      have e2 : us[j]'(by simpa using k2) = u := by rw [List.getElem?_eq_getElem (by simpa using k2)] at q1; exact Option.some.inj q1
      simp only [e1]
      show CRep M c (us[j]'(by simpa using k2))
      rw [e2]; exact q3
  · obtain ⟨⟨d, hd⟩, hr⟩ := aggT_some (P := P) w hagg
    obtain ⟨u, k1, c', k2, k3⟩ := hget 0 (by simp)
    simp at k2
    subst k2
    refine ⟨u, ?_, k3⟩
    simp at k1
    simp [loadVar, hr, k1]

theorem load_cells {P : Program} {M : Mst} {w : World} (ok : Ok M) (hM : M.H = w.heap) {t : TypeId} {B o : Nat} {cells vs : List CVal} {off : Nat} {v : AVal}
    (hrd : ∀ j (h : j < cells.length), ∃ u, hcell M.H B (o + j) = some u ∧ CRep M cells[j] u)
    (hcut : cutCells cells off (P.cellsOf t) = some vs) (hp : partO (aggT P t) vs = some v) :
    RunsV P (loadVar t ⟨B, o + off, none⟩) M w v [] := by
  obtain ⟨rv, h1, h2⟩ := load_cells_pure (w := w) ok hM hrd hcut hp
  exact .pure ok hM h1 h2

theorem sure (P : Program) (w : World) (a : Addr) : (Instr.sureAddr (.pointer (some a))).run P w = .ok a w := rfl

/-- The cells of a box. -/
theorem box_cells {M : Mst} {own : Bool} {cells : List CVal} {C : Conc} (h : ORep M (.box own cells) C) : ∃ B, C.blk = some B ∧ ∀ j (h : j < cells.length), ∃ u, hcell M.H B (0 + j) = some u ∧ CRep M cells[j] u := by
  obtain ⟨B, vals, e, h1, h2, h3, h4, h5⟩ := h
  refine ⟨B, h1, fun j hj => ?_⟩
  have hl := h4.length
  have hj' : j < vals.size := by simpa [hl] using hj
  refine ⟨vals[j], ?_, ?_⟩
  · simp [hcell, h3, hj']
  · have := h4.get j hj (by simpa using hj')
    simpa using this
theorem robox_cells {M : Mst} {cells : List CVal} {C : Conc} (h : ORep M (.robox cells) C) : ∃ B, C.blk = some B ∧ ∀ j (h : j < cells.length), ∃ u, hcell M.H B (0 + j) = some u ∧ CRep M cells[j] u := by
  obtain ⟨B, vals, e, h1, h2, h3, h4, h5⟩ := h
  refine ⟨B, h1, fun j hj => ?_⟩
  have hl := h4.length
  have hj' : j < vals.size := by simpa [hl] using hj
  refine ⟨vals[j], ?_, ?_⟩
  · simp [hcell, h3, hj']
  · have := h4.get j hj (by simpa using hj')
    simpa using this

/-- The cells of an element. -/
theorem arr_cells {M : Mst} {own : Bool} {t : Ty} {xs : List t.den} {C : Conc} (h : ORep M (.arr own t xs) C) {i : Nat} (hi : i < xs.length) : ∃ B, C.blk = some B ∧
    ∀ j (h : j < (cellsOf true t (xs.getD i t.dflt)).length), ∃ u, hcell M.H B (i * C.sz + j) = some u ∧ CRep M (cellsOf true t (xs.getD i t.dflt))[j] u := by
  obtain ⟨h1, h2, h3, h4⟩ := h
  cases hB : C.blk with
  | none => rw [hB] at h4; subst h4; simp at hi
  | some B =>
    rw [hB] at h4
    obtain ⟨vals, e, h5, h6, h7, h8⟩ := h4
    refine ⟨B, rfl, fun j hj => ?_⟩
    have e1 : xs.getD i t.dflt = xs[i] := by simp [List.getD, hi]
    have := cells_rep M true t xs[i] _ (h8 i hi) j (by rw [← e1]; exact hj)
    obtain ⟨v, k1, k2⟩ := this
    refine ⟨v, ?_, ?_⟩
    · rw [h2]; simp only [hcell, h5]; exact k1
    · simp only [e1]; exact k2

theorem yields_cutS {P : Program} {t : TypeId} {cells : List CVal} {off : Nat} {v : AVal} {u : Upd} (h : Yields (cutS P t cells off) v u) :
    ∃ vs, cutCells cells off (P.cellsOf t) = some vs ∧ partO (aggT P t) vs = some v ∧ u = [] := by
  obtain ⟨h', rfl⟩ := yields_ofO h
  rw [Option.bind_eq_some_iff] at h'
  obtain ⟨vs, h1, h2⟩ := h'
  exact ⟨vs, h1, h2, rfl⟩

theorem RowV.one {H : Array Go.Obj} {rb : Option Nat} {n : Nat} {v : Value} (h : RowV H rb n v) : v.one1 = true := by
  cases rb with
  | none => obtain ⟨rfl, _⟩ := h; rfl
  | some R => obtain ⟨a, c, rfl, _⟩ := h; rfl

/-- The place of a row, and what it holds. -/
theorem mat_row {M : Mst} {ver : Nat} {xs : List (List Int)} {C : Conc} (h : ORep M (.mat ver xs) C) {i : Nat} (hi : i < xs.length) : ∃ B rb v, C.blk = some B ∧ C.ver = ver ∧
    C.rows[i]? = some (rb, xs[i].length) ∧ hcell M.H B i = some v ∧ RowV M.H rb xs[i].length v ∧ (∀ R, rb = some R → ∀ j (h' : j < xs[i].length), hcell M.H R j = some (.int .i64 xs[i][j])) := by
  obtain ⟨q1, q2, q3, q4, q5, q6⟩ := h
  cases hB : C.blk with
  | none => rw [hB] at q6; subst q6; simp at hi
  | some B =>
    rw [hB] at q6
    obtain ⟨vals, e, q7, q8, q9⟩ := q6
    obtain ⟨rb, v, k1, k2, k3, k4⟩ := q9 i hi
    refine ⟨B, rb, v, rfl, q1, k1, by simp only [hcell, q7]; exact k2, k3, fun R hR j hj => ?_⟩
    obtain ⟨rv, er, k5, k6⟩ := k4 R hR
    simp only [hcell, k5]; exact k6 j hj

theorem loadS_sound {P : Program} {M : Mst} {w : World} (ok : Ok M) (hM : M.H = w.heap) {t : TypeId} {a v : AVal} {u : Upd} {ra : Value} (ha : VRep M a ra)
    (h : Yields (loadS P M.h t a) v u) : RunsV P (Instr.loadAt t ra) M w v u := by
  unfold loadS at h
  split at h
  · rename_i id off
    split at h
    · rename_i own cells hid
      obtain ⟨vs, h1, h2, rfl⟩ := yields_cutS h
      obtain ⟨C, B, hC, hB, rfl⟩ := ha
      obtain ⟨C', hC', hO⟩ := ok.obj _ _ hid
      rw [hC] at hC'; cases hC'
      obtain ⟨B', hB', hcells⟩ := box_cells hO
      rw [hB] at hB'; cases hB'
      have := load_cells (P := P) ok hM (t := t) (o := 0) hcells h1 h2
      simpa [Instr.loadAt, RunsV, sure] using this
    · rename_i cells hid
      obtain ⟨vs, h1, h2, rfl⟩ := yields_cutS h
      obtain ⟨C, B, hC, hB, rfl⟩ := ha
      obtain ⟨C', hC', hO⟩ := ok.obj _ _ hid
      rw [hC] at hC'; cases hC'
      obtain ⟨B', hB', hcells⟩ := robox_cells hO
      rw [hB] at hB'; cases hB'
      have := load_cells (P := P) ok hM (t := t) (o := 0) hcells h1 h2
      simpa [Instr.loadAt, RunsV, sure] using this
    · exact h.elim
  · rename_i sh ty x off
    obtain ⟨vs, h1, h2, rfl⟩ := yields_cutS h
    obtain ⟨B, o, rfl, hB, hE⟩ := ha
    have := load_cells (P := P) ok hM (t := t) (B := B) (o := o) (fun j hj => cells_rep M sh ty x _ hE j hj) h1 h2
    simpa [Instr.loadAt, RunsV, sure] using this
  · rename_i id i off
    split at h
    · rename_i own ty xs hid
      obtain ⟨vs, h1, h2, rfl⟩ := yields_cutS h
      obtain ⟨C, B, hC, hB, hi, rfl⟩ := ha
      obtain ⟨C', hC', hO⟩ := ok.obj _ _ hid
      rw [hC] at hC'; cases hC'
      obtain ⟨B', hB', hcells⟩ := arr_cells hO (i := i) (by rw [← hO.1]; exact hi)
      rw [hB] at hB'; cases hB'
      have := load_cells (P := P) ok hM (t := t) hcells h1 h2
      simpa [Instr.loadAt, RunsV, sure] using this
    · exact h.elim
  · rename_i id i
    split at h
    · rename_i ver xs hid
      split at h
      · rename_i hagg
        obtain ⟨rfl, rfl⟩ := yields_one h
        obtain ⟨C, B, hC, hB, hi, rfl⟩ := ha
        obtain ⟨C', hC', hO⟩ := ok.obj _ _ hid
        rw [hC] at hC'; cases hC'
        obtain ⟨B', rb, x, k0, kv, k1, k2, k3, k4⟩ := mat_row hO (i := i) (by rw [← hO.2.1]; exact hi)
        rw [hB] at k0; cases k0
        obtain ⟨_, hr⟩ := aggT_some (P := P) w hagg
        have hcell : w.cell? ⟨B, i, none⟩ = some x := by rw [cell_hcell, ← hM]; exact k2
        exact RunsV.pure ok hM (rv := x) (by simp [Instr.loadAt, sure, loadVar, hr, hcell]) ⟨C, hC, k3.one, by omega, fun _ => ⟨rb, _, k1, k3⟩⟩
      · exact h.elim
    · exact h.elim
  · rename_i id i j ver
    split at h
    · rename_i v' xs hid
      cases hv : Nat.beq v' ver with
      | false => rw [hv] at h; exact h.elim
      | true =>
        rw [hv] at h
        simp only [cond_true] at h
        have hv := Nat.eq_of_beq_eq_true hv
        subst hv
        split at h
        · rename_i hagg
          obtain ⟨rfl, rfl⟩ := yields_one h
          obtain ⟨C, hC, h1, hle, hm⟩ := ha
          obtain ⟨C', hC', hO⟩ := ok.obj _ _ hid
          rw [hC] at hC'; cases hC'
          obtain ⟨R, rl, k1, k2, rfl⟩ := hm hO.1
          have hi : i < xs.length := by
            rw [← hO.2.2.2.1]
            rcases Nat.lt_or_ge i C.rows.length with h | h
            · exact h
            · rw [List.getElem?_eq_none h] at k1; cases k1
          obtain ⟨B', rb, x, q0, qv, q1, q2, q3, q4⟩ := mat_row hO hi
          rw [k1] at q1
          cases q1
          obtain ⟨_, hr⟩ := aggT_some (P := P) w hagg
          have hcell : w.cell? ⟨R, j, none⟩ = some (.int .i64 xs[i][j]) := by rw [cell_hcell, ← hM]; exact q4 R rfl j k2
          refine RunsV.pure ok hM (rv := .int .i64 xs[i][j]) (by simp [Instr.loadAt, sure, loadVar, hr, hcell]) ?_
          show _ = _
          simp [List.getD, hi, k2]
        · exact h.elim
    · exact h.elim
  · exact h.elim
end Go.Ab
