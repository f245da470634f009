/- Stores; what is kept is written no more. -/
import Derived.Test.YtpmkkfbnaohlhaaGiAb3
set_option linter.unusedVariables false
set_option linter.unusedSimpArgs false
namespace Go.Ab

theorem happly_append (h : Hp) : ∀ (u v : Upd), happly h (u ++ v) = happly (happly h u) v
  | [], _ => rfl
  | (id, o) :: u, v => happly_append (hset h id o) u v
theorem happly_one (h : Hp) (id : Nat) (o : Obj) : happly h [(id, o)] = hset h id o := rfl
theorem hset_self {h : Hp} {id : Nat} {o : Obj} (e : h id = some o) : hset h id o = h := by
  funext n
  by_cases hn : n = id
  · subst hn; rw [hset_same]; exact e.symm
  · rw [hset_ne _ _ hn]

/-! ### Rows of cells, written -/
theorem putCells_some : ∀ (vs : List CVal) (cells : List CVal) (off : Nat) (out : List CVal), putCells cells off vs = some out →
    (vs = [] ∨ off + vs.length ≤ cells.length) ∧ out = cells.take off ++ vs ++ cells.drop (off + vs.length)
  | [], cells, off, out, h => by
    simp only [putCells, Option.some.injEq] at h
    subst h
    exact ⟨.inl rfl, by simp⟩
  | v :: vs, cells, off, out, h => by
    unfold putCells at h
    cases hb : Nat.blt off cells.length with
    | false => rw [hb] at h; cases h
    | true =>
      rw [hb] at h
      simp only [cond_true] at h
      have hlt : off < cells.length := Nat.le_of_ble_eq_true hb
      obtain ⟨h1, h2⟩ := putCells_some vs (cells.set off v) (off + 1) out h
      rw [List.length_set] at h1
      refine ⟨.inr (by rcases h1 with rfl | h1 <;> simp only [List.length_cons, List.length_nil] <;> omega), ?_⟩
      rw [h2]
      have e1 : (cells.set off v).take (off + 1) = cells.take off ++ [v] := by
        rw [List.take_succ_eq_append_getElem (by simpa using hlt), List.take_set_of_le (Nat.le_refl _)]
        simp
      have e2 : (cells.set off v).drop (off + 1 + vs.length) = cells.drop (off + (v :: vs).length) := by
        rw [List.drop_set_of_lt (by omega)]
        simp only [List.length_cons]
        congr 1; omega
      rw [e1, e2]
      simp

theorem valCells_rep {M : Mst} {v : AVal} {rv : Value} {vs : List CVal} (h : valCells v = some vs) (hv : VRep M v rv) : All2 (CRep M) vs rv.cells.toList := by
  unfold valCells at h
  split at h
  · rename_i c
    cases h
    have h1 := CRep.one hv
    have : rv.cells = #[rv] := by cases rv <;> first | rfl | cases h1
    rw [this]
    exact ⟨hv, trivial⟩
  · cases h
    obtain ⟨us, rfl, h⟩ := hv
    exact h
  · cases h

theorem all_one {M : Mst} : ∀ {vs : List CVal} {us : List Value}, All2 (CRep M) vs us → ∀ u ∈ us, u.one1 = true
  | [], [], _, _, h => by cases h
  | _ :: _, u :: us, hh, x, h => by
    cases h with
    | head => exact hh.1.one
    | tail _ h => exact all_one hh.2 x h
  | [], _ :: _, hh, _, _ => hh.elim
  | _ :: _, [], hh, _, _ => hh.elim

/-- A unit, and what memory has become. -/
def RunsU (P : Program) (s : Sem Unit) (M : Mst) (w : World) (u : Upd) : Prop :=
  ∃ w' M', s.run P w = .ok () w' ∧ w'.os = w.os ∧ w'.tape = w.tape ∧ w'.output = w.output ∧ M'.H = w'.heap ∧ M'.h = happly M.h u ∧ Ok M' ∧ Step M M'

def putRow (vals : Array Value) (off : Nat) (us : List Value) : Array Value := (vals.toList.take off ++ us ++ vals.toList.drop (off + us.length)).toArray
theorem putRow_size {vals : Array Value} {off : Nat} {us : List Value} (h : off + us.length ≤ vals.size) : (putRow vals off us).size = vals.size := by
  simp only [putRow, List.size_toArray, List.length_append, List.length_take, List.length_drop, Array.length_toList]; omega
theorem putRow_get {vals : Array Value} {off : Nat} {us : List Value} (h : off + us.length ≤ vals.size) (j : Nat) :
    (putRow vals off us)[j]? = if j < off then vals[j]? else if j < off + us.length then us[j - off]? else vals[j]? := by
  simp only [putRow, List.getElem?_toArray, List.append_assoc]
  by_cases h1 : j < off
  · rw [if_pos h1, List.getElem?_append_left (by simp; omega), List.getElem?_take, if_pos h1]; simp
  · rw [if_neg h1]
    have hl : (vals.toList.take off).length = off := by simp; omega
    rw [List.getElem?_append_right (by omega), hl]
    by_cases h2 : j < off + us.length
    · rw [if_pos h2, List.getElem?_append_left (by omega)]
    · rw [if_neg h2, List.getElem?_append_right (by omega), List.getElem?_drop]
      simp only [Array.getElem?_toList]
      congr 1; omega

/-- The heap behind a row's store. -/
theorem setRow_facts {w : World} {B : Nat} {vals new : Array Value} {e : TypeId} (h : w.heap[B]? = some (.cells vals e (0, 0))) (hs : new.size = vals.size) :
    (w.setRow B new).heap.size = w.heap.size ∧ (w.setRow B new).heap[B]? = some (.cells new e (0, 0)) ∧ (∀ b, b ≠ B → (w.setRow B new).heap[b]? = w.heap[b]?) ∧
    (∀ b, bsize (w.setRow B new).heap b = bsize w.heap b) := by
  have h1 := setRow_heap w B vals new e (0, 0) h
  have h2 : ∀ b, b ≠ B → (w.setRow B new).heap[b]? = w.heap[b]? := fun b hb => setRow_other w B b new hb
  refine ⟨by simp [World.setRow], h1, h2, fun b => ?_⟩
  by_cases hb : b = B
  · subst hb; simp only [bsize, h1, h]; exact hs
  · exact bsize_congr (h2 b hb)

theorem run_storeVar {P : Program} {w : World} {t : TypeId} {B off : Nat} {vals : Array Value} {e : TypeId} {rv : Value} (h : w.heap[B]? = some (.cells vals e (0, 0)))
    (hn : rv.cells.size = P.cellsOf t) (h0 : 0 < P.cellsOf t) (hfit : off + rv.cells.size ≤ vals.size) (h1 : ∀ u ∈ rv.cells.toList, u.one1 = true) :
    (storeVar t ⟨B, off, none⟩ rv).run P w = .ok () (w.setRow B (putRow vals off rv.cells.toList)) := by
  obtain ⟨i, hi⟩ := info_of_cells h0
  have hst := run_storeCells_at (P := P) B off e rv.cells.toList 0 vals w h (by simpa using hfit) (fun v hv => one1_one' (h1 v hv))
  simp only [Nat.add_zero] at hst
  have : ¬ rv.cells.size ≠ P.cellsOf t := by omega
  simp only [storeVar, Sem.run_bind, run_size w hi, Result.andThen_ok, this, if_false]
  exact hst

/-- The cells of a box, some of them written over. -/
theorem put_rep {M M' : Mst} (x : Ext M M') {cells vs : List CVal} {vals : Array Value} {us : List Value} {off : Nat} (h : All2 (CRep M) cells vals.toList) (hv : All2 (CRep M) vs us)
    (hfit : off + us.length ≤ vals.size) : All2 (CRep M') (cells.take off ++ vs ++ cells.drop (off + vs.length)) (putRow vals off us).toList := by
  have hl := hv.length
  simp only [putRow]
  rw [hl]
  exact ((h.take off).append hv |>.append (h.drop _)).mono fun _ _ hc => hc.ext x

/-! ### What is kept is written no more -/
/-- Objects of h0, some of them frozen since. -/
def Frz (h0 h : Hp) : Prop := ∀ id, h id = h0 id ∨ (∃ own t xs, h0 id = some (.arr own t xs) ∧ h id = some (.arr false t xs)) ∨
  (∃ ver xs, h0 id = some (.mat ver xs) ∧ h id = some (.arr false (.sl (.int .i64)) xs))
theorem Frz.refl (h : Hp) : Frz h h := fun _ => .inl rfl

theorem slc_length {α : Type} {xs : List α} {lo n : Nat} (h : lo + n ≤ xs.length) : (slc xs lo n).length = n := by
  simp only [slc, List.length_take, List.length_drop]; omega
theorem slc_get {α : Type} {xs : List α} {lo n i : Nat} (h : i < (slc xs lo n).length) : ∃ h' : lo + i < xs.length, (slc xs lo n)[i] = xs[lo + i] := by
  have : lo + i < xs.length := by simp only [slc, List.length_take, List.length_drop] at h; omega
  exact ⟨this, by simp [slc]⟩

/-- What a slice value over a frozen row of elements reads. -/
theorem sl_fsl {H : Array Go.Obj} {G : Nat → Prop} {C : Conc} {t : Ty} {xs : List t.den} {lo n : Nat} {v : Value} (hsz : C.sz = t.size) (hn : lo + n ≤ xs.length) (h : SlV H C lo n v)
    (hx : match C.blk with
      | none => xs = []
      | some B => G B ∧ ∃ vals e, H[B]? = some (.cells vals e (0, 0)) ∧ ∀ i (h : i < xs.length), ERep H G t xs[i] (fun j => vals[i * t.size + j]?)) :
    ERep H G (.sl t) (slc xs lo n) (fun _ => some v) := by
  simp only [ERep]
  obtain ⟨A, c, rfl, h⟩ := h
  cases hB : C.blk with
  | none =>
    rw [hB] at h hx
    obtain ⟨rfl, rfl, rfl⟩ := h
    subst hx
    exact ⟨none, 0, 0, rfl, by simp [slc], Nat.le_refl _, .inl ⟨by simp [slc], fun _ => rfl⟩⟩
  | some B =>
    rw [hB] at h hx
    obtain ⟨hc, a, rfl, ha, hfit⟩ := h
    obtain ⟨hG, vals, e, hv, hE⟩ := hx
    have hl := slc_length hn
    refine ⟨_, n, c, rfl, hl.symm, hc, ?_⟩
    by_cases h0 : n = 0
    · exact .inl ⟨List.eq_nil_of_length_eq_zero (by omega), fun h => by cases h⟩
    · refine .inr ⟨B, a, rfl, hG, fun i hi => ?_⟩
      obtain ⟨hi', e1⟩ := slc_get hi
      rw [e1]
      have ha' : a = lo * C.sz := by rcases ha with ha | ha <;> omega
      have := hE (lo + i) hi'
      have e2 : (fun j => hcell H B (a + i * t.size + j)) = fun j => vals[(lo + i) * t.size + j]? := by
        funext j
        rw [ha', hsz, ← Nat.add_mul]
        simp only [hcell, hv]
      rw [e2]
      exact this

theorem rng_full {α : Type} (xs : List α) : slc xs 0 xs.length = xs := by simp [slc]

/-- A row of elements, as a frozen one. -/
theorem arr_fsl {M : Mst} {t : Ty} {xs : List t.den} {C : Conc} {id : Nat} {r : Option (Nat × Nat)} {v : Value} (hC : M.κ id = some C) (hO : ORep M (.arr false t xs) C) (h : CRep M (.osl id r) v) :
    ERep M.H M.G (.sl t) (rng xs r) (fun _ => some v) := by
  obtain ⟨h1, h2, h3, h4⟩ := hO
  obtain ⟨C', hC', h⟩ := h
  rw [hC] at hC'; cases hC'
  have hx : match C.blk with
      | none => xs = []
      | some B => M.G B ∧ ∃ vals e, M.H[B]? = some (.cells vals e (0, 0)) ∧ ∀ i (h : i < xs.length), ERep M.H M.G t xs[i] (fun j => vals[i * t.size + j]?) := by
    cases hB : C.blk with
    | none => rw [hB] at h4; exact h4
    | some B =>
      rw [hB] at h4
      obtain ⟨vals, e, h5, h6, h7, h8⟩ := h4
      exact ⟨h6 rfl, vals, e, h5, h8⟩
  cases r with
  | none =>
    have := sl_fsl (G := M.G) h2 (lo := 0) (n := C.len) (by omega) h hx
    rw [h1, rng_full] at this
    exact this
  | some p =>
    obtain ⟨lo, n⟩ := p
    obtain ⟨h5, h6, _⟩ := h
    exact sl_fsl (G := M.G) h2 (by omega) h6 hx

theorem frz_arr' {M : Mst} (ok : Ok M) {id : Nat} {t : Ty} {xs : List t.den} (hid : M.h id = some (.arr true t xs)) :
    ∃ M', M'.H = M.H ∧ M'.h = hset M.h id (.arr false t xs) ∧ Ok M' ∧ Step M M' ∧ M'.κ = M.κ := by
  obtain ⟨C, hC, hO⟩ := ok.obj id _ hid
  have hO' : ORep (M.freeze id (.arr false t xs) C) (.arr false t xs) C := by
    have x : Ext M (M.freeze id (.arr false t xs) C) := ⟨fun _ C h => ⟨C, h, C.le_refl⟩, fun _ h => .inl h, fun _ h => .inl h, fun _ _ => rfl, fun _ _ => rfl, fun _ _ => rfl⟩
    obtain ⟨h1, h2, h3, h4⟩ := hO.ext x fun _ _ _ => rfl
    refine ⟨h1, h2, fun h => (by cases h), ?_⟩
    cases hB : C.blk with
    | none => rw [hB] at h4; exact h4
    | some B =>
      rw [hB] at h4
      obtain ⟨vals, e, h5, h6, h7, h8⟩ := h4
      exact ⟨vals, e, h5, fun _ => .inr (by simp [Conc.fp, hB]), h7, h8⟩
  have := Mst.freeze_ok ok hid rfl hC rfl hO'
  exact ⟨M.freeze id _ C, rfl, rfl, this.1, this.2, rfl⟩

theorem frz_arr {M : Mst} (ok : Ok M) {id : Nat} {t : Ty} {xs : List t.den} (hid : M.h id = some (.arr true t xs)) :
    ∃ M', M'.H = M.H ∧ M'.h = hset M.h id (.arr false t xs) ∧ Ok M' ∧ Step M M' := by
  obtain ⟨M', h1, h2, h3, h4, _⟩ := frz_arr' ok hid
  exact ⟨M', h1, h2, h3, h4⟩

theorem frz_mat' {M : Mst} (ok : Ok M) {id : Nat} {ver : Nat} {xs : List (List Int)} (hid : M.h id = some (.mat ver xs)) :
    ∃ M', M'.H = M.H ∧ M'.h = hset M.h id (.arr false (.sl (.int .i64)) xs) ∧ Ok M' ∧ Step M M' ∧ M'.κ = M.κ := by
  obtain ⟨C, hC, hO⟩ := ok.obj id _ hid
  have hO' : ORep (M.freeze id (.arr false (.sl (.int .i64)) xs) C) (.arr false (.sl (.int .i64)) xs) C := by
    obtain ⟨h1, h2, h3, h4, h5, h6⟩ := hO
    refine ⟨h2, h3, fun h => (by cases h), ?_⟩
    cases hB : C.blk with
    | none => rw [hB] at h6; exact h6
    | some B =>
      rw [hB] at h6
      obtain ⟨vals, e, h7, h8, h9⟩ := h6
      refine ⟨vals, e, h7, fun _ => .inr (by simp [Conc.fp, hB]), by simpa [Ty.size] using h8, fun i hi => ?_⟩
      obtain ⟨rb, v, k1, k2, k3, k4⟩ := h9 i hi
      simp only [ERep, Ty.size, Nat.mul_one, Nat.add_zero]
      cases rb with
      | none =>
        obtain ⟨rfl, hl⟩ := k3
        exact ⟨none, 0, 0, k2, hl.symm, Nat.le_refl _, .inl ⟨List.eq_nil_of_length_eq_zero hl, fun _ => rfl⟩⟩
      | some R =>
        obtain ⟨a, c, rfl, hc, ha, hs⟩ := k3
        obtain ⟨rv, er, k5, k6⟩ := k4 R rfl
        by_cases hnil : xs[i] = []
        · exact ⟨_, _, c, k2, rfl, hc, .inl ⟨hnil, fun h => by cases h⟩⟩
        have ha0 : a = 0 := by
          have : 0 < xs[i].length := List.length_pos_iff.2 hnil
          rcases ha with ha | ha <;> omega
        subst ha0
        refine ⟨_, _, c, k2, rfl, hc, .inr ⟨R, 0, rfl, .inr ?_, fun j hj => ?_⟩⟩
        · have : (some R, xs[i].length) ∈ C.rows := List.mem_of_getElem? k1
          simp only [Conc.fp, List.mem_append, List.mem_filterMap]
          exact .inr ⟨_, this, rfl⟩
        · have e1 : (M.freeze id (Obj.arr false (.sl (.int .i64)) xs) C).H = M.H := rfl
          simp only [e1, hcell, k5, Nat.zero_add]
          exact k6 j hj
  have := Mst.freeze_ok ok hid rfl hC rfl hO'
  exact ⟨M.freeze id _ C, rfl, rfl, this.1, this.2, rfl⟩

theorem frz_mat {M : Mst} (ok : Ok M) {id : Nat} {ver : Nat} {xs : List (List Int)} (hid : M.h id = some (.mat ver xs)) :
    ∃ M', M'.H = M.H ∧ M'.h = hset M.h id (.arr false (.sl (.int .i64)) xs) ∧ Ok M' ∧ Step M M' := by
  obtain ⟨M', h1, h2, h3, h4, _⟩ := frz_mat' ok hid
  exact ⟨M', h1, h2, h3, h4⟩

theorem frzC_sound {M : Mst} (ok : Ok M) {h0 : Hp} (hf : Frz h0 M.h) {c c' : CVal} {v : Value} {u : Upd} (hc : CRep M c v) (h : frzC h0 c = some (c', u)) :
    ∃ M', M'.H = M.H ∧ M'.h = happly M.h u ∧ Ok M' ∧ Step M M' ∧ CRep M' c' v ∧ Frz h0 M'.h ∧ (∀ p ∈ u, p.2.owned = false) := by
  have triv : c' = c → u = [] → _ := fun e1 e2 => (⟨M, rfl, by rw [e2]; rfl, ok, Step.refl M, by rw [e1]; exact hc, hf, by simp [e2]⟩ :
    ∃ M', M'.H = M.H ∧ M'.h = happly M.h u ∧ Ok M' ∧ Step M M' ∧ CRep M' c' v ∧ Frz h0 M'.h ∧ (∀ p ∈ u, p.2.owned = false))
  cases c with
  | osl id r =>
    have key : ∀ (t : Ty) (xs : List t.den), (∀ M', Ok M' → M'.h id = some (.arr false t xs) → CRep M' (.osl id r) v → CRep M' (.fsl true t (rng xs r)) v) := by
      intro t xs M' ok' hid' hc'
      obtain ⟨C, hC, hO⟩ := ok'.obj id _ hid'
      exact arr_fsl hC hO hc'
    unfold frzC at h
    simp only at h
    split at h
    · rename_i own t xs h0id
      cases h
      rcases hf id with e | ⟨o2, t2, xs2, e1, e2⟩ | ⟨ver, xs2, e1, e2⟩
      · rw [h0id] at e
        cases own with
        | true =>
          obtain ⟨M', h1, h2, ok', st'⟩ := frz_arr ok e
          refine ⟨M', h1, h2, ok', st', key t xs M' ok' (by rw [h2]; exact hset_same _ _ _) (hc.ext st'.ext), fun n => ?_, by simp [Obj.owned]⟩
          by_cases hn : n = id
          · subst hn
            exact .inr (.inl ⟨true, t, xs, h0id, by rw [h2]; exact hset_same _ _ _⟩)
          · rw [h2, hset_ne _ _ hn]; exact hf n
        | false => exact ⟨M, rfl, (hset_self e).symm, ok, Step.refl M, key t xs M ok e hc, hf, by simp [Obj.owned]⟩
      · rw [h0id] at e1; cases e1
        exact ⟨M, rfl, (hset_self e2).symm, ok, Step.refl M, key t xs M ok e2 hc, hf, by simp [Obj.owned]⟩
      · rw [h0id] at e1; cases e1
    · rename_i ver xs h0id
      split at h
      · cases h
        rcases hf id with e | ⟨o2, t2, xs2, e1, e2⟩ | ⟨ver2, xs2, e1, e2⟩
        · rw [h0id] at e
          obtain ⟨M', h1, h2, ok', st'⟩ := frz_mat ok e
          refine ⟨M', h1, h2, ok', st', key (.sl (.int .i64)) xs M' ok' (by rw [h2]; exact hset_same _ _ _) (hc.ext st'.ext), fun n => ?_, by simp [Obj.owned]⟩
          by_cases hn : n = id
          · subst hn
            exact .inr (.inr ⟨ver, xs, h0id, by rw [h2]; exact hset_same _ _ _⟩)
          · rw [h2, hset_ne _ _ hn]; exact hf n
        · rw [h0id] at e1; cases e1
        · rw [h0id] at e1; cases e1
          exact ⟨M, rfl, (hset_self e2).symm, ok, Step.refl M, key (.sl (.int .i64)) xs M ok e2 hc, hf, by simp [Obj.owned]⟩
      · cases h
    · cases h
  | mrow _ _ _ => cases h
  | _ => cases h; exact triv rfl rfl

theorem frzL_sound {h0 : Hp} : ∀ {cs cs' : List CVal} {vs : List Value} {u : Upd} {M : Mst}, Ok M → Frz h0 M.h → All2 (CRep M) cs vs → frzL h0 cs = some (cs', u) →
    ∃ M', M'.H = M.H ∧ M'.h = happly M.h u ∧ Ok M' ∧ Step M M' ∧ All2 (CRep M') cs' vs ∧ Frz h0 M'.h ∧ (∀ p ∈ u, p.2.owned = false)
  | [], cs', [], u, M, ok, hf, _, h => by cases h; exact ⟨M, rfl, rfl, ok, Step.refl M, trivial, hf, by simp⟩
  | c :: cs, cs', v :: vs, u, M, ok, hf, hc, h => by
    unfold frzL at h
    split at h
    · rename_i c1 u1 cs1 us1 e1 e2
      cases h
      obtain ⟨M1, a1, a2, a3, a4, a5, a6, a7⟩ := frzC_sound ok hf hc.1 e1
      obtain ⟨M2, b1, b2, b3, b4, b5, b6, b7⟩ := frzL_sound a3 a6 (hc.2.mono fun _ _ k => k.ext a4.ext) e2
      refine ⟨M2, b1.trans a1, by rw [b2, a2, happly_append], b3, a4.trans b4, ⟨a5.ext b4.ext, b5⟩, b6, fun p hp => ?_⟩
      rcases List.mem_append.1 hp with hp | hp
      · exact a7 p hp
      · exact b7 p hp
    · cases h
  | [], _, _ :: _, _, _, _, _, hh, _ => hh.elim
  | _ :: _, _, [], _, _, _, _, hh, _ => hh.elim
end Go.Ab
