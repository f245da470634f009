/- Stores. -/
import Derived.Test.YtpmkkfbnaohlhaaGiAb4
set_option linter.unusedVariables false
set_option linter.unusedSimpArgs false
namespace Go.Ab

theorem castL_some {a b : Ty} {xs : List a.den} {ys : List b.den} (h : castL a b xs = some ys) : ∃ e : a = b, e ▸ xs = ys := by
  unfold castL at h
  split at h
  · rename_i he
    have := tyEq_spec he
    subst this
    exact ⟨rfl, Option.some.inj h⟩
  · cases h

theorem blt_true {a b : Nat} (h : Nat.blt a b = true) : a < b := Nat.le_of_ble_eq_true h
theorem blt_false {a b : Nat} (h : Nat.blt a b = false) : ¬ a < b := fun hh => by
  have : Nat.blt a b = true := Nat.ble_eq_true_of_le hh
  rw [this] at h; cases h

theorem setInt_some {k : IntKind} {off : Nat} {c : CVal} {n : Int} (h : setInt k off c = some n) : off = 0 ∧ c = .int k n := by
  unfold setInt at h
  split at h
  · rename_i j m
    cases hb : kindEq j k with
    | false => rw [hb] at h; cases h
    | true =>
      rw [hb] at h
      have := kindEq_spec hb
      subst this
      cases h
      exact ⟨rfl, rfl⟩
  · cases h
theorem setBool_some {off : Nat} {c : CVal} {n : Bool} (h : setBool off c = some n) : off = 0 ∧ c = .bool n := by
  unfold setBool at h
  split at h
  · cases h; exact ⟨rfl, rfl⟩
  · cases h
theorem setSl_some {t : Ty} {off : Nat} {c : CVal} {xs : List t.den} (h : setSl t off c = some xs) : off = 0 ∧ (c = .fsl true t xs ∨ (c = .nsl ∧ xs = [])) := by
  unfold setSl at h
  split at h
  · rename_i s ys
    obtain ⟨e, h⟩ := castL_some h
    subst e
    subst h
    exact ⟨rfl, .inl rfl⟩
  · cases h; exact ⟨rfl, .inr ⟨rfl, rfl⟩⟩
  · cases h

theorem setAt_pair {a b : Ty} {p q : (Ty.pair a b).den} {off : Nat} {c : CVal} (h : setAt (.pair a b) p off c = some q) :
    (off < a.size ∧ setAt a p.1 off c = some q.1 ∧ q.2 = p.2) ∨ (¬ off < a.size ∧ setAt b p.2 (off - a.size) c = some q.2 ∧ q.1 = p.1) := by
  simp only [setAt] at h
  cases hb : Nat.blt off a.size with
  | true =>
    rw [hb] at h
    simp only [cond_true] at h
    split at h
    · rename_i x hx
      cases h
      exact .inl ⟨blt_true hb, hx, rfl⟩
    · cases h
  | false =>
    rw [hb] at h
    simp only [cond_false] at h
    split at h
    · rename_i x hx
      cases h
      exact .inr ⟨blt_false hb, hx, rfl⟩
    · cases h

theorem setAt_lt : ∀ {t : Ty} {x y : t.den} {off : Nat} {c : CVal}, setAt t x off c = some y → off < t.size
  | .int k, x, y, off, c, h => by rw [(setInt_some h).1]; simp [Ty.size]
  | .bool, x, y, off, c, h => by rw [(setBool_some h).1]; simp [Ty.size]
  | .sl t, x, y, off, c, h => by rw [(setSl_some h).1]; simp [Ty.size]
  | .pair a b, x, y, off, c, h => by
    simp only [Ty.size]
    rcases setAt_pair h with ⟨h1, _⟩ | ⟨h1, h2, _⟩
    · omega
    · have := setAt_lt h2; omega

theorem setAt_rep {M : Mst} : ∀ (t : Ty) (x y : t.den) (off : Nat) (c : CVal) (u : Value) (rd rd' : Nat → Option Value), ERep M.H M.G t x rd → setAt t x off c = some y → CRep M c u →
    rd' off = some u → (∀ j, j ≠ off → j < t.size → rd' j = rd j) → ERep M.H M.G t y rd'
  | .int k, x, y, off, c, u, rd, rd', hE, h, hc, hr, hrd => by
    obtain ⟨rfl, rfl⟩ := setInt_some h
    simp only [ERep]
    rw [hr, show u = _ from hc]
  | .bool, x, y, off, c, u, rd, rd', hE, h, hc, hr, hrd => by
    obtain ⟨rfl, rfl⟩ := setBool_some h
    simp only [ERep]
    rw [hr, show u = _ from hc]
  | .sl t, x, y, off, c, u, rd, rd', hE, h, hc, hr, hrd => by
    obtain ⟨rfl, rfl | ⟨rfl, rfl⟩⟩ := setSl_some h
    · have hc' : ERep M.H M.G (.sl t) y (fun _ => some u) := hc
      refine ERep_mono (fun _ h => h) (fun _ _ => rfl) _ _ _ _ (fun j hj => ?_) hc'
      simp only [Ty.size] at hj
      obtain rfl : j = 0 := by omega
      exact hr
    · simp only [ERep]
      exact ⟨none, 0, 0, by rw [hr, show u = _ from hc], rfl, Nat.le_refl _, .inl ⟨by trivial, fun _ => rfl⟩⟩
  | .pair a b, x, y, off, c, u, rd, rd', hE, h, hc, hr, hrd => by
    simp only [ERep] at hE ⊢
    simp only [Ty.size] at hrd
    rcases setAt_pair h with ⟨h1, h2, h3⟩ | ⟨h1, h2, h3⟩
    · refine ⟨setAt_rep a _ _ off c u rd rd' hE.1 h2 hc hr fun j hj hjs => hrd j hj (by omega), ?_⟩
      rw [h3]
      exact ERep_mono (fun _ h => h) (fun _ _ => rfl) _ _ _ _ (fun j hj => hrd _ (by omega) (by omega)) hE.2
    · refine ⟨?_, setAt_rep b _ _ (off - a.size) c u _ _ hE.2 h2 hc (by rw [show off - a.size + a.size = off by omega]; exact hr) fun j hj hjs => hrd _ (by omega) (by omega)⟩
      rw [h3]
      exact ERep_mono (fun _ h => h) (fun _ _ => rfl) _ _ _ _ (fun j hj => hrd _ (by omega) (by omega)) hE.1

theorem setMany_lt {t : Ty} : ∀ {vs : List CVal} {x y : t.den} {off : Nat}, setMany t x off vs = some y → vs = [] ∨ off + vs.length ≤ t.size
  | [], _, _, _, _ => .inl rfl
  | v :: vs, x, y, off, h => by
    unfold setMany at h
    split at h
    · rename_i z hz
      have h1 := setAt_lt hz
      rcases setMany_lt h with rfl | h2
      · exact .inr (by simp only [List.length_cons, List.length_nil]; omega)
      · exact .inr (by simp only [List.length_cons]; omega)
    · cases h

theorem setMany_rep {M : Mst} (t : Ty) : ∀ (vs : List CVal) (us : List Value) (x y : t.den) (off : Nat) (rd rd' : Nat → Option Value), ERep M.H M.G t x rd → setMany t x off vs = some y → All2 (CRep M) vs us →
    (∀ i, i < us.length → rd' (off + i) = us[i]?) → (∀ j, (j < off ∨ off + us.length ≤ j) → j < t.size → rd' j = rd j) → ERep M.H M.G t y rd'
  | [], [], x, y, off, rd, rd', hE, h, _, _, hrd => by
    cases h
    exact ERep_mono (fun _ h => h) (fun _ _ => rfl) _ _ _ _ (fun j hj => hrd j (by simp; omega) hj) hE
  | v :: vs, u :: us, x, y, off, rd, rd', hE, h, hc, hr, hrd => by
    unfold setMany at h
    split at h
    · rename_i z hz
      have h1 := setAt_rep t x z off v u rd (fun j => if j = off then some u else rd j) hE hz hc.1 (by simp) (fun j hj _ => by simp [hj])
      refine setMany_rep t vs us z y (off + 1) _ rd' h1 h hc.2 (fun i hi => ?_) (fun j hj hjs => ?_)
      · have := hr (i + 1) (by simp; omega)
        rw [show off + 1 + i = off + (i + 1) by omega, this]; simp
      · by_cases e : j = off
        · subst e
          have := hr 0 (by simp)
          simp at this
          simp [this]
        · simp only [e, if_false]
          refine hrd j ?_ hjs
          simp only [List.length_cons]
          omega
    · cases h
  | [], _ :: _, _, _, _, _, _, _, _, hh, _, _ => hh.elim
  | _ :: _, [], _, _, _, _, _, _, _, hh, _, _ => hh.elim

theorem mul_lt_mul_aux {i k sz j : Nat} (h : i ≠ k) (hj : j < sz) : k * sz + j < i * sz ∨ i * sz + sz ≤ k * sz + j := by
  rcases Nat.lt_or_gt_of_ne h with h | h
  · have := Nat.mul_le_mul_right sz (show i + 1 ≤ k by omega)
    rw [Nat.add_mul] at this; omega
  · have := Nat.mul_le_mul_right sz (show k + 1 ≤ i by omega)
    rw [Nat.add_mul] at this; omega

theorem nodup_fp {C : Conc} (hn : C.fp.Nodup) {i k : Nat} {R R' : Nat} {a b : Nat} (hi : C.rows[i]? = some (some R, a)) (hk : C.rows[k]? = some (some R', b)) (h : i ≠ k) : R ≠ R' := by
  intro e
  subst e
  have hn2 : (C.rows.filterMap (·.1)).Nodup := (List.nodup_append.1 hn).2.1
  clear hn
  have gen : ∀ (l : List (Option Nat × Nat)) (i k : Nat), i < k → l[i]? = some (some R, a) ∨ l[i]? = some (some R, b) → l[k]? = some (some R, b) ∨ l[k]? = some (some R, a) → (l.filterMap (·.1)).Nodup → False := by
    intro l
    induction l with
    | nil => intro i k _ h1 _ _; simp at h1
    | cons x l ih =>
      intro i k hik h1 h2 hn
      obtain ⟨k, rfl⟩ : ∃ m, k = m + 1 := ⟨k - 1, by omega⟩
      have hmem : R ∈ l.filterMap (·.1) := by
        simp only [List.getElem?_cons_succ] at h2
        rcases h2 with h2 | h2 <;> exact List.mem_filterMap.2 ⟨_, List.mem_of_getElem? h2, rfl⟩
      cases i with
      | zero =>
        simp only [List.getElem?_cons_zero, Option.some.injEq] at h1
        have hx : x.1 = some R := by rcases h1 with h1 | h1 <;> rw [h1]
        rw [List.filterMap_cons_some hx] at hn
        exact (List.nodup_cons.1 hn).1 hmem
      | succ i =>
        simp only [List.getElem?_cons_succ] at h1 h2
        refine ih i k (by omega) h1 h2 ?_
        cases hx : x.1 with
        | none => rwa [List.filterMap_cons_none hx] at hn
        | some y => rw [List.filterMap_cons_some hx] at hn; exact (List.nodup_cons.1 hn).2
  rcases Nat.lt_or_gt_of_ne h with hlt | hlt
  · exact gen C.rows i k hlt (.inl hi) (.inl hk) hn2
  · exact gen C.rows k i hlt (.inr hk) (.inr hi) hn2

theorem nodup_blk {C : Conc} (hn : C.fp.Nodup) {k R B b : Nat} (hk : C.rows[k]? = some (some R, b)) (hB : C.blk = some B) : R ≠ B := by
  intro e
  subst e
  have := (List.nodup_append.1 hn).2.2 R (by simp [hB]) R (List.mem_filterMap.2 ⟨_, List.mem_of_getElem? hk, rfl⟩)
  exact this rfl

theorem fp_blk {C : Conc} {B : Nat} (h : C.blk = some B) : B ∈ C.fp := by simp [Conc.fp, h]
theorem fp_row {C : Conc} {k R b : Nat} (h : C.rows[k]? = some (some R, b)) : R ∈ C.fp := by
  simp only [Conc.fp, List.mem_append, List.mem_filterMap]
  exact .inr ⟨_, List.mem_of_getElem? h, rfl⟩

/-- A store into a block of the call's own. -/
theorem write_run {P : Program} {M : Mst} {w : World} (ok : Ok M) (hM : M.H = w.heap) {t : TypeId} {id : Nat} {o o' : Obj} {C : Conc} {B off : Nat} {vals : Array Value} {e : TypeId} {rv : Value}
    (hid : M.h id = some o) (hown : o.owned = true) (hC : M.κ id = some C) (hB : B ∈ C.fp) (hb : M.H[B]? = some (.cells vals e (0, 0)))
    (hn : rv.cells.size = P.cellsOf t) (h0 : 0 < P.cellsOf t) (hfit : off + rv.cells.size ≤ vals.size) (h1 : ∀ u ∈ rv.cells.toList, u.one1 = true)
    (hO : ∀ M', M'.κ = κset M.κ id C → M'.F = M.F → M'.G = M.G → Ext M M' → M'.H[B]? = some (.cells (putRow vals off rv.cells.toList) e (0, 0)) → (∀ b, b ≠ B → M'.H[b]? = M.H[b]?) → ORep M' o' C) :
    RunsU P (storeVar t ⟨B, off, none⟩ rv) M w [(id, o')] := by
  have hb' : w.heap[B]? = some (.cells vals e (0, 0)) := by rw [← hM]; exact hb
  have hr := run_storeVar (P := P) hb' hn h0 hfit h1
  obtain ⟨f1, f2, f3, f4⟩ := setRow_facts hb' (new := putRow vals off rv.cells.toList) (putRow_size (by simpa using hfit))
  have hH : ∀ b, b ∉ C.fp → (w.setRow B (putRow vals off rv.cells.toList)).heap[b]? = M.H[b]? := fun b hbn => by
    rw [hM]; exact f3 b fun e => hbn (e ▸ hB)
  have hbs : ∀ b, b < M.H.size → bsize (w.setRow B (putRow vals off rv.cells.toList)).heap b = bsize M.H b := fun b _ => by rw [hM]; exact f4 b
  have x := Mst.write_ext ok hid hown hC C.le_refl hH hbs o'
  have := Mst.write_ok ok hid hown hC C.le_refl (fun _ h => h) (by rw [hM]; exact f1) hH hbs
    (hO (M.write id o' C _) rfl rfl rfl x f2 (fun b hbn => by rw [hM]; exact f3 b hbn))
  exact ⟨_, _, hr, rfl, rfl, rfl, rfl, rfl, this.1, this.2⟩

theorem box_store {P : Program} {M : Mst} {w : World} (ok : Ok M) (hM : M.H = w.heap) {t : TypeId} {id off : Nat} {cells cells' vs : List CVal} {B : Nat} {C : Conc} {rv : Value}
    (hid : M.h id = some (.box true cells)) (hC : M.κ id = some C) (hB : C.blk = some B) (hvs : All2 (CRep M) vs rv.cells.toList) (hn : vs.length = P.cellsOf t) (h0 : 0 < vs.length)
    (hp : putCells cells off vs = some cells') : RunsU P (storeVar t ⟨B, off, none⟩ rv) M w [(id, .box true cells')] := by
  obtain ⟨C', hC', hO⟩ := ok.obj id _ hid
  rw [hC] at hC'; cases hC'
  obtain ⟨B', vals, e, k1, k2, k3, k4, k5⟩ := hO
  rw [hB] at k1; cases k1
  obtain ⟨p1, p2⟩ := putCells_some vs cells off cells' hp
  have hl : vs.length = rv.cells.size := by simpa using hvs.length
  have hfit : off + rv.cells.size ≤ vals.size := by
    have := k4.length
    rcases p1 with rfl | p1
    · simp at h0
    · simp at this; omega
  refine write_run ok hM hid rfl hC (fp_blk hB) k3 (by omega) (by omega) hfit (all_one hvs) fun M' _ _ hG x h1 h2 => ?_
  refine ⟨B, _, e, hB, k2, h1, ?_, fun h => (by cases h)⟩
  rw [p2]
  exact put_rep x k4 hvs (by simpa using hfit)

theorem arr_store {P : Program} {M : Mst} {w : World} (ok : Ok M) (hM : M.H = w.heap) {t : TypeId} {id i off : Nat} {ty : Ty} {xs : List ty.den} {x : ty.den} {vs : List CVal} {B : Nat} {C : Conc} {rv : Value}
    (hid : M.h id = some (.arr true ty xs)) (hC : M.κ id = some C) (hB : C.blk = some B) (hi : i < C.len) (hvs : All2 (CRep M) vs rv.cells.toList) (hn : vs.length = P.cellsOf t) (h0 : 0 < vs.length)
    (hp : setMany ty (xs.getD i ty.dflt) off vs = some x) : RunsU P (storeVar t ⟨B, i * C.sz + off, none⟩ rv) M w [(id, .arr true ty (xs.set i x))] := by
  obtain ⟨C', hC', hO⟩ := ok.obj id _ hid
  rw [hC] at hC'; cases hC'
  obtain ⟨k1, k2, k3, k4⟩ := hO
  rw [hB] at k4
  obtain ⟨vals, e, k5, k6, k7, k8⟩ := k4
  have hl : vs.length = rv.cells.size := by simpa using hvs.length
  have hoff : off + vs.length ≤ ty.size := by
    rcases setMany_lt hp with rfl | h
    · simp at h0
    · exact h
  have hix : i < xs.length := by omega
  have e1 : xs.getD i ty.dflt = xs[i] := by simp [List.getD, hix]
  have hrow := Nat.mul_le_mul_right ty.size (show i + 1 ≤ xs.length by omega)
  rw [Nat.add_mul] at hrow
  have hfit : i * C.sz + off + rv.cells.size ≤ vals.size := by rw [k2]; omega
  refine write_run ok hM hid rfl hC (fp_blk hB) k5 (by omega) (by omega) hfit (all_one hvs) fun M' _ _ hG xt h1 h2 => ?_
  refine ⟨by rw [List.length_set]; exact k1, k2, k3, ?_⟩
  rw [hB]
  refine ⟨_, e, h1, fun h => (by cases h), by rw [List.length_set, putRow_size (by simpa using hfit)]; exact k7, fun k hk => ?_⟩
  rw [List.length_set] at hk
  have hE' := ERep_mono (F := M.G) (F' := M'.G) xt.G xt.sameG ty _ _ _ (fun _ _ => rfl) (k8 k hk)
  by_cases e2 : k = i
  · subst e2
    simp only [List.getElem_set_self]
    refine setMany_rep ty vs rv.cells.toList xs[k] x off _ _ hE' (by rw [← e1]; exact hp) (hvs.mono fun _ _ h => h.ext xt) (fun j hj => ?_) (fun j hj hjs => ?_)
    · rw [putRow_get (by simpa using hfit), if_neg (by rw [k2]; omega), if_pos (by rw [k2]; simp at hj ⊢; omega), k2]
      congr 1; omega
    · rw [putRow_get (by simpa using hfit)]
      simp only [Array.length_toList] at hj ⊢
      rw [k2]
      split
      · rfl
      · rw [if_neg (by omega)]
  · rw [List.getElem_set_ne (Ne.symm e2)]
    refine ERep_mono (fun _ h => h) (fun _ _ => rfl) ty _ _ _ (fun j hj => ?_) hE'
    rw [putRow_get (by simpa using hfit)]
    simp only [Array.length_toList]
    rw [k2]
    rcases mul_lt_mul_aux (Ne.symm e2) hj with h | h
    · rw [if_pos (by omega)]
    · rw [if_neg (by omega), if_neg (by omega)]

theorem cell_store {P : Program} {M : Mst} {w : World} (ok : Ok M) (hM : M.H = w.heap) {t : TypeId} {id i j ver : Nat} {xs : List (List Int)} {n : Int} {R rl : Nat} {C : Conc}
    (hid : M.h id = some (.mat ver xs)) (hC : M.κ id = some C) (hR : C.rows[i]? = some (some R, rl)) (hj : j < rl) (hn : 1 = P.cellsOf t) :
    RunsU P (storeVar t ⟨R, j, none⟩ (.int .i64 n)) M w [(id, .mat ver (xs.set i ((xs.getD i []).set j n)))] := by
  obtain ⟨C', hC', hO⟩ := ok.obj id _ hid
  rw [hC] at hC'; cases hC'
  obtain ⟨k1, k2, k3, k4, k5, k6⟩ := hO
  have hi : i < xs.length := by
    rw [← k4]
    rcases Nat.lt_or_ge i C.rows.length with h | h
    · exact h
    · rw [List.getElem?_eq_none h] at hR; cases hR
  cases hB : C.blk with
  | none => rw [hB] at k6; subst k6; simp at hi
  | some B =>
    rw [hB] at k6
    obtain ⟨vals, e, k7, k8, k9⟩ := k6
    obtain ⟨rb, v, q1, q2, q3, q4⟩ := k9 i hi
    rw [hR] at q1
    cases q1
    obtain ⟨rv, er, q5, q6⟩ := q4 R rfl
    have hRB : R ≠ B := nodup_blk k5 hR hB
    have hjs : j < rv.size := by
      have := q6 j hj
      rcases Nat.lt_or_ge j rv.size with h | h
      · exact h
      · rw [Array.getElem?_eq_none h] at this; cases this
    have e1 : xs.getD i [] = xs[i] := by simp [List.getD, hi]
    refine write_run ok hM hid rfl hC (fp_row hR) q5 (by rw [← hn]; rfl) (by omega) (by show j + 1 ≤ rv.size; omega) (by intro u hu; simp [Value.cells] at hu; subst hu; rfl) fun M' _ _ hG x h1 h2 => ?_
    refine ⟨k1, by rw [List.length_set]; exact k2, k3, by rw [List.length_set]; exact k4, k5, ?_⟩
    rw [hB]
    refine ⟨vals, e, by rw [h2 B (Ne.symm hRB)]; exact k7, by rw [List.length_set]; exact k8, fun k hk => ?_⟩
    rw [List.length_set] at hk
    by_cases e2 : k = i
    · subst e2
      simp only [List.getElem_set_self, e1, List.length_set]
      refine ⟨some R, v, hR, q2, q3.ext x, fun R' hR' => ?_⟩
      cases hR'
      refine ⟨_, er, h1, fun m hm => ?_⟩
      rw [putRow_get (by show j + 1 ≤ rv.size; omega)]
      show (if m < j then rv[m]? else if m < j + 1 then [Value.int .i64 n][m - j]? else rv[m]?) = _
      by_cases e3 : m = j
      · subst e3
        rw [if_neg (by omega), if_pos (by omega)]
        simp
      · rw [List.getElem_set_ne (Ne.symm e3)]
        have := q6 m hm
        split
        · exact this
        · rw [if_neg (by omega)]; exact this
    · rw [List.getElem_set_ne (Ne.symm e2)]
      obtain ⟨rb', v', p1, p2, p3, p4⟩ := k9 k hk
      refine ⟨rb', v', p1, p2, p3.ext x, fun R' hR' => ?_⟩
      subst hR'
      obtain ⟨rv', er', p5, p6⟩ := p4 R' rfl
      exact ⟨rv', er', by rw [h2 R' (nodup_fp k5 p1 hR e2)]; exact p5, p6⟩

/-! ### A row is moved into a row of rows -/
theorem set_rows {x : Option Nat × Nat} : ∀ (l : List (Option Nat × Nat)) (i : Nat), (l.filterMap (·.1)).Nodup → (∀ R, x.1 = some R → R ∉ l.filterMap (·.1)) →
    ((l.set i x).filterMap (·.1)).Nodup ∧ ∀ y ∈ (l.set i x).filterMap (·.1), y ∈ l.filterMap (·.1) ∨ x.1 = some y
  | [], _, h, _ => ⟨by simp, by simp⟩
  | a :: l, 0, h, hx => by
    have hl : (l.filterMap (·.1)).Nodup := by
      cases ha : a.1 with
      | none => rwa [List.filterMap_cons_none ha] at h
      | some y => rw [List.filterMap_cons_some ha] at h; exact (List.nodup_cons.1 h).2
    have hsub : ∀ y ∈ l.filterMap (·.1), y ∈ (a :: l).filterMap (·.1) := fun y hy => by
      cases ha : a.1 with
      | none => rwa [List.filterMap_cons_none ha]
      | some z => rw [List.filterMap_cons_some ha]; exact List.mem_cons_of_mem _ hy
    simp only [List.set_cons_zero]
    cases hx1 : x.1 with
    | none =>
      rw [List.filterMap_cons_none hx1]
      exact ⟨hl, fun y hy => .inl (hsub y hy)⟩
    | some R =>
      rw [List.filterMap_cons_some hx1]
      refine ⟨List.nodup_cons.2 ⟨fun hR => hx R hx1 (hsub R hR), hl⟩, fun y hy => ?_⟩
      rcases List.mem_cons.1 hy with rfl | hy
      · exact .inr rfl
      · exact .inl (hsub y hy)
  | a :: l, i + 1, h, hx => by
    simp only [List.set_cons_succ]
    cases ha : a.1 with
    | none =>
      rw [List.filterMap_cons_none ha] at h hx ⊢
      rw [List.filterMap_cons_none ha]
      exact set_rows l i h hx
    | some z =>
      rw [List.filterMap_cons_some ha] at h hx ⊢
      rw [List.filterMap_cons_some ha]
      obtain ⟨h1, h2⟩ := List.nodup_cons.1 h
      obtain ⟨k1, k2⟩ := set_rows l i h2 fun R hR hm => hx R hR (List.mem_cons_of_mem _ hm)
      refine ⟨List.nodup_cons.2 ⟨fun hz => ?_, k1⟩, fun y hy => ?_⟩
      · rcases k2 z hz with hz | hz
        · exact h1 hz
        · exact hx z hz (List.mem_cons_self ..)
      · rcases List.mem_cons.1 hy with rfl | hy
        · exact .inl (List.mem_cons_self ..)
        · rcases k2 y hy with hy | hy
          · exact .inl (List.mem_cons_of_mem _ hy)
          · exact .inr hy

/-- Two objects become one. -/
def Mst.absorb (M : Mst) (id jd : Nat) (o : Obj) (C : Conc) (H : Array Go.Obj) : Mst := { M with κ := κset M.κ id C, h := hset (hset M.h jd .gone) id o, H := H }

theorem Mst.absorb_ok {M : Mst} (ok : Ok M) {id jd : Nat} {o oj o' : Obj} {C Cj C' : Conc} {H' : Array Go.Obj} (hne : id ≠ jd) (hid : M.h id = some o) (hown : o.owned = true) (hC : M.κ id = some C)
    (hjd : M.h jd = some oj) (hownj : oj.owned = true) (hCj : M.κ jd = some Cj) (hle : C.le C') (hfp : ∀ b ∈ C'.fp, b ∈ C.fp ∨ b ∈ Cj.fp) (hsz : H'.size = M.H.size)
    (hH : ∀ b, b ∉ C.fp → H'[b]? = M.H[b]?) (hbs : ∀ b, b < M.H.size → bsize H' b = bsize M.H b)
    (hO : Ext M (M.absorb id jd o' C' H') → ORep (M.absorb id jd o' C' H') o' C') : Ok (M.absorb id jd o' C' H') ∧ Step M (M.absorb id jd o' C' H') := by
  have hnF : ∀ b, M.F b → b ∉ C.fp := fun b hF hb => (ok.own b ⟨id, o, C, hid, hown, hC, hb⟩).1 hF
  have x : Ext M (M.absorb id jd o' C' H') :=
    { κ := fun n D h => by
        by_cases e : n = id
        · subst e
          rw [hC] at h
          cases h
          exact ⟨C', κset_same _ _ _, hle⟩
        · exact ⟨D, by simp only [Mst.absorb]; rw [κset_ne _ _ e]; exact h, D.le_refl⟩
      F := fun _ h => h
      G := fun _ h => h
      same := fun b h => hH b (hnF b h)
      sameG := fun b h => hH b (hnF b (ok.GF b h))
      bsz := hbs }
  have hb' : ∀ b ∈ C'.fp, Own M b := fun b hb => by
    rcases hfp b hb with hb | hb
    · exact ⟨id, o, C, hid, hown, hC, hb⟩
    · exact ⟨jd, oj, Cj, hjd, hownj, hCj, hb⟩
  have hget : ∀ n q, n ≠ id → (M.absorb id jd o' C' H').h n = some q → q.owned = true → n ≠ jd ∧ M.h n = some q := by
    intro n q e h1 h2
    simp only [Mst.absorb] at h1
    rw [hset_ne _ _ e] at h1
    by_cases e' : n = jd
    · subst e'
      rw [hset_same] at h1
      cases h1
      cases h2
    · rw [hset_ne _ _ e'] at h1
      exact ⟨e', h1⟩
  have hOwn : ∀ b, Own (M.absorb id jd o' C' H') b → Own M b := by
    rintro b ⟨n, q, D, h1, h2, h3, h4⟩
    by_cases e : n = id
    · subst e
      simp only [Mst.absorb, κset_same, Option.some.injEq] at h3
      subst h3
      exact hb' b h4
    · obtain ⟨e', h1'⟩ := hget n q e h1 h2
      simp only [Mst.absorb] at h3
      rw [κset_ne _ _ e] at h3
      exact ⟨n, q, D, h1', h2, h3, h4⟩
  refine ⟨ok.build x (fun n => n = id ∨ n = jd) (fun n hn => ?_) (fun n hn => κset_ne _ _ fun e => hn (.inl e)) ?_ ?_ (by simp only [Mst.absorb]; omega) ?_ ?_ ?_ ok.GF ?_, x, by simp only [Mst.absorb]; omega, ?_, fun b hb _ => hOwn b hb, fun b h _ => .inl h, fun b h _ => .inl h⟩
  · simp only [Mst.absorb]
    rw [hset_ne _ _ fun e => hn (.inl e), hset_ne _ _ fun e => hn (.inr e)]
  · intro n q D hn h1 h2 h3 b hb
    exact hH b fun hc => ok.disj n id q o D C b (fun e => hn (.inl e)) h1 hid h2 hown h3 hC hb hc
  · intro n q D hn h1 h2 h3 b hb
    exact (ok.own b ⟨n, q, D, h1, h2, h3, hb⟩).1
  · rintro n q (rfl | rfl) h1
    · simp only [Mst.absorb, hset_same, Option.some.injEq] at h1
      subst h1
      exact ⟨C', κset_same _ _ _, hO x⟩
    · simp only [Mst.absorb] at h1
      rw [hset_ne _ _ (Ne.symm hne), hset_same] at h1
      cases h1
      exact ⟨Cj, by simp only [Mst.absorb]; rw [κset_ne _ _ (Ne.symm hne)]; exact hCj, trivial⟩
  · rintro n (rfl | rfl) h1
    · simp only [Mst.absorb, hset_same] at h1
      cases h1
    · simp only [Mst.absorb] at h1
      rw [hset_ne _ _ (Ne.symm hne), hset_same] at h1
      cases h1
  · rintro n q D b (rfl | rfl) h1 h2 h3 hb
    · simp only [Mst.absorb, κset_same, Option.some.injEq] at h3
      subst h3
      have hbo := ok.own b (hb' b hb)
      refine ⟨fun j qj Dj hj k1 k2 k3 k4 => ?_, hbo.1, by simp only [Mst.absorb]; omega⟩
      obtain ⟨hjd', k1'⟩ := hget j qj hj k1 k2
      simp only [Mst.absorb] at k3
      rw [κset_ne _ _ hj] at k3
      rcases hfp b hb with hb | hb
      · exact ok.disj j n qj o Dj C b hj k1' hid k2 hown k3 hC k4 hb
      · exact ok.disj j jd qj oj Dj Cj b hjd' k1' hjd k2 hownj k3 hCj k4 hb
    · simp only [Mst.absorb] at h1
      rw [hset_ne _ _ (Ne.symm hne), hset_same] at h1
      cases h1
      cases h2
  · intro b hb
    have := ok.Flt b hb
    simp only [Mst.absorb]; omega
  · intro b hb hn
    exact hH b fun hc => hn ⟨id, o, C, hid, hown, hC, hc⟩

theorem arr_fp {M : Mst} {t : Ty} {xs : List t.den} {C : Conc} (h : ORep M (.arr true t xs) C) : C.rows = [] ∧ C.fp = C.blk.toList := by
  have := h.2.2.1 rfl
  exact ⟨this, by simp [Conc.fp, this]⟩

/-- What a whole row of whole numbers reads, as a row of a row of rows. -/
theorem row_of_arr {M : Mst} {ys : List Int} {C : Conc} {jd : Nat} {v : Value} (hC : M.κ jd = some C) (hO : ORep M (.arr true (.int .i64) ys) C) (hv : CRep M (.osl jd none) v) :
    RowV M.H C.blk ys.length v ∧ ∀ R, C.blk = some R → ∃ rv er, M.H[R]? = some (.cells rv er (0, 0)) ∧ ∀ j (h' : j < ys.length), rv[j]? = some (.int .i64 ys[j]) := by
  obtain ⟨h1, h2, h3, h4⟩ := hO
  obtain ⟨C', hC', A, c, rfl, h⟩ := hv
  rw [hC] at hC'; cases hC'
  cases hB : C.blk with
  | none =>
    rw [hB] at h
    obtain ⟨rfl, e, rfl⟩ := h
    exact ⟨⟨by rw [e], by omega⟩, fun R hR => by cases hR⟩
  | some B =>
    rw [hB] at h h4
    obtain ⟨hc, a, rfl, ha, hs⟩ := h
    obtain ⟨vals, e, h5, h6, h7, h8⟩ := h4
    refine ⟨⟨a, c, by rw [h1], by omega, by simpa using ha, by simpa [h2, Ty.size] using hs⟩, fun R hR => ?_⟩
    cases hR
    refine ⟨vals, e, h5, fun j hj => ?_⟩
    have := h8 j hj
    simpa [ERep, Ty.size] using this

theorem row_store {P : Program} {M : Mst} {w : World} (ok : Ok M) (hM : M.H = w.heap) {t : TypeId} {id jd i ver : Nat} {xs : List (List Int)} {ys : List Int} {B : Nat} {C : Conc} {rv : Value}
    (hid : M.h id = some (.mat ver xs)) (hC : M.κ id = some C) (hB : C.blk = some B) (hi : i < C.len) (hjd : M.h jd = some (.arr true (.int .i64) ys)) (hv : CRep M (.osl jd none) rv) (hn : 1 = P.cellsOf t) :
    RunsU P (storeVar t ⟨B, i, none⟩ rv) M w [(jd, .gone), (id, .mat (ver + 1) (xs.set i ys))] := by
  obtain ⟨C', hC', hO⟩ := ok.obj id _ hid
  rw [hC] at hC'; cases hC'
  obtain ⟨Cj, hCj, hOj⟩ := ok.obj jd _ hjd
  obtain ⟨jr, jf⟩ := arr_fp hOj
  have hne : id ≠ jd := fun e => by rw [e, hjd] at hid; cases hid
  obtain ⟨r1, r2⟩ := row_of_arr hCj hOj hv
  obtain ⟨k1, k2, k3, k4, k5, k6⟩ := hO
  rw [hB] at k6
  obtain ⟨vals, e, k7, k8, k9⟩ := k6
  have hb' : w.heap[B]? = some (.cells vals e (0, 0)) := by rw [← hM]; exact k7
  have hone := hv.one
  have hcells : rv.cells = #[rv] := by cases rv <;> first | rfl | cases hone
  have hfit : i + rv.cells.size ≤ vals.size := by rw [hcells]; show i + 1 ≤ vals.size; omega
  have hfit' : i + rv.cells.toList.length ≤ vals.size := by rw [Array.length_toList]; exact hfit
  have hr := run_storeVar (P := P) (t := t) (off := i) (rv := rv) hb' (by rw [hcells]; exact hn) (by omega) hfit (by intro u hu; rw [hcells] at hu; simp at hu; subst hu; exact hone)
  obtain ⟨f1, f2, f3, f4⟩ := setRow_facts hb' (new := putRow vals i rv.cells.toList) (putRow_size hfit')
  have hdis : ∀ R, Cj.blk = some R → R ∉ C.fp := fun R hR hm => ok.disj id jd _ _ C Cj R hne hid hjd rfl rfl hC hCj hm (fp_blk hR)
  have hnd := List.nodup_append.1 k5
  obtain ⟨s1, s2⟩ := set_rows (x := (Cj.blk, ys.length)) C.rows i hnd.2.1 (fun R hR hm => hdis R hR (by simp only [Conc.fp, List.mem_append]; exact .inr hm))
  let D : Conc := { C with ver := ver + 1, rows := C.rows.set i (Cj.blk, ys.length) }
  have hDfp : ∀ b ∈ D.fp, b ∈ C.fp ∨ b ∈ Cj.fp := fun b hb => by
    simp only [Conc.fp, List.mem_append] at hb
    rcases hb with hb | hb
    · exact .inl (by simp only [Conc.fp, List.mem_append]; exact .inl hb)
    · rcases s2 b hb with hb | hb
      · exact .inl (by simp only [Conc.fp, List.mem_append]; exact .inr hb)
      · exact .inr (fp_blk hb)
  have hDnd : D.fp.Nodup := by
    refine List.nodup_append.2 ⟨hnd.1, s1, fun a ha b hb e => ?_⟩
    subst e
    rcases s2 a hb with hb | hb
    · exact hnd.2.2 a ha a hb rfl
    · exact hdis a hb (by simp only [Conc.fp, List.mem_append]; exact .inl ha)
  have hin : i < xs.length := by omega
  have := Mst.absorb_ok (H' := (w.setRow B (putRow vals i rv.cells.toList)).heap) (o' := .mat (ver + 1) (xs.set i ys)) (C' := D) ok hne hid rfl hC hjd rfl hCj ⟨rfl, rfl, rfl, by show C.ver ≤ ver + 1; omega, fun e => by have : ver + 1 = C.ver := e; omega⟩ hDfp
    (by rw [hM]; exact f1) (fun b hbn => by rw [hM]; exact f3 b fun e => hbn (e ▸ fp_blk hB)) (fun b _ => by rw [hM]; exact f4 b) (fun x => by
      refine ⟨rfl, by rw [List.length_set]; exact k2, k3, by simp only [D, List.length_set]; exact k4, hDnd, ?_⟩
      have hDB : D.blk = some B := hB
      rw [hDB]
      refine ⟨_, e, f2, by rw [List.length_set, putRow_size hfit']; exact k8, fun k hk => ?_⟩
      rw [List.length_set] at hk
      by_cases e2 : k = i
      · subst e2
        simp only [List.getElem_set_self]
        refine ⟨Cj.blk, rv, ?_, ?_, r1.ext x, fun R hR => ?_⟩
        · simp only [D]; rw [List.getElem?_set_self (by omega)]
        · rw [putRow_get hfit', if_neg (by omega), if_pos (by rw [hcells]; show k < k + 1; omega), hcells]
          simp
        · obtain ⟨rv', er, q5, q6⟩ := r2 R hR
          refine ⟨rv', er, ?_, q6⟩
          have : R ≠ B := fun e => hdis R hR (e ▸ fp_blk hB)
          show (w.setRow B _).heap[R]? = _
          rw [f3 R this, ← hM]; exact q5
      · rw [List.getElem_set_ne (Ne.symm e2)]
        obtain ⟨rb', v', p1, p2, p3, p4⟩ := k9 k hk
        refine ⟨rb', v', ?_, ?_, p3.ext x, fun R' hR' => ?_⟩
        · simp only [D]; rw [List.getElem?_set_ne (Ne.symm e2)]; exact p1
        · rw [putRow_get hfit', hcells]
          show (if k < i then vals[k]? else if k < i + 1 then _ else vals[k]?) = _
          split
          · exact p2
          · rw [if_neg (by omega)]; exact p2
        · subst hR'
          obtain ⟨rv', er', p5, p6⟩ := p4 R' rfl
          refine ⟨rv', er', ?_, p6⟩
          have : R' ≠ B := nodup_blk k5 p1 hB
          show (w.setRow B _).heap[R']? = _
          rw [f3 R' this, ← hM]; exact p5)
  exact ⟨_, _, hr, rfl, rfl, rfl, rfl, rfl, this.1, this.2⟩

theorem prow_store {P : Program} {M : Mst} {w : World} (ok : Ok M) (hM : M.H = w.heap) {t : TypeId} {id jd ver n : Nat} {xs : List (List Int)} {ys : List Int} {B : Nat} {C : Conc} {rv : Value}
    (hid : M.h id = some (.pmat ver xs n)) (hC : M.κ id = some C) (hB : C.blk = some B) (hi : xs.length < C.len) (hjd : M.h jd = some (.arr true (.int .i64) ys)) (hv : CRep M (.osl jd none) rv) (hn : 1 = P.cellsOf t) :
    RunsU P (storeVar t ⟨B, xs.length, none⟩ rv) M w [(jd, .gone), (id, .pmat (ver + 1) (xs ++ [ys]) n)] := by
  obtain ⟨C', hC', hO⟩ := ok.obj id _ hid
  rw [hC] at hC'; cases hC'
  obtain ⟨Cj, hCj, hOj⟩ := ok.obj jd _ hjd
  obtain ⟨jr, jf⟩ := arr_fp hOj
  have hne : id ≠ jd := fun e => by rw [e, hjd] at hid; cases hid
  obtain ⟨r1, r2⟩ := row_of_arr hCj hOj hv
  obtain ⟨k1, k2, k3, k4, k5, k0, k6⟩ := hO
  rw [hB] at k6
  obtain ⟨vals, e, k7, k8, k9⟩ := k6
  have hb' : w.heap[B]? = some (.cells vals e (0, 0)) := by rw [← hM]; exact k7
  have hone := hv.one
  have hcells : rv.cells = #[rv] := by cases rv <;> first | rfl | cases hone
  have hfit : xs.length + rv.cells.size ≤ vals.size := by rw [hcells]; show xs.length + 1 ≤ vals.size; omega
  have hfit' : xs.length + rv.cells.toList.length ≤ vals.size := by rw [Array.length_toList]; exact hfit
  have hr := run_storeVar (P := P) (t := t) (off := xs.length) (rv := rv) hb' (by rw [hcells]; exact hn) (by omega) hfit (by intro u hu; rw [hcells] at hu; simp at hu; subst hu; exact hone)
  obtain ⟨f1, f2, f3, f4⟩ := setRow_facts hb' (new := putRow vals xs.length rv.cells.toList) (putRow_size hfit')
  have hdis : ∀ R, Cj.blk = some R → R ∉ C.fp := fun R hR hm => ok.disj id jd _ _ C Cj R hne hid hjd rfl rfl hC hCj hm (fp_blk hR)
  have hnd := List.nodup_append.1 k5
  have happ : (C.rows ++ [(Cj.blk, ys.length)]).filterMap (·.1) = C.rows.filterMap (·.1) ++ Cj.blk.toList := by
    rw [List.filterMap_append]
    cases Cj.blk <;> simp
  have s1 : ((C.rows ++ [(Cj.blk, ys.length)]).filterMap (·.1)).Nodup := by
    rw [happ]
    refine List.nodup_append.2 ⟨hnd.2.1, by cases Cj.blk <;> simp, fun x hx y hy e => ?_⟩
    subst e
    have : Cj.blk = some x := by simpa using hy
    exact hdis x this (by simp only [Conc.fp, List.mem_append]; exact .inr hx)
  have s2 : ∀ y ∈ (C.rows ++ [(Cj.blk, ys.length)]).filterMap (·.1), y ∈ C.rows.filterMap (·.1) ∨ Cj.blk = some y := fun y hy => by
    rw [happ] at hy
    rcases List.mem_append.1 hy with h | h
    · exact .inl h
    · exact .inr (by simpa using h)
  let D : Conc := { C with ver := ver + 1, rows := C.rows ++ [(Cj.blk, ys.length)] }
  have hDfp : ∀ b ∈ D.fp, b ∈ C.fp ∨ b ∈ Cj.fp := fun b hb => by
    simp only [Conc.fp, List.mem_append] at hb
    rcases hb with hb | hb
    · exact .inl (by simp only [Conc.fp, List.mem_append]; exact .inl hb)
    · rcases s2 b hb with hb | hb
      · exact .inl (by simp only [Conc.fp, List.mem_append]; exact .inr hb)
      · exact .inr (fp_blk hb)
  have hDnd : D.fp.Nodup := by
    refine List.nodup_append.2 ⟨hnd.1, s1, fun a ha b hb e => ?_⟩
    subst e
    rcases s2 a hb with hb | hb
    · exact hnd.2.2 a ha a hb rfl
    · exact hdis a hb (by simp only [Conc.fp, List.mem_append]; exact .inl ha)
  have := Mst.absorb_ok (H' := (w.setRow B (putRow vals xs.length rv.cells.toList)).heap) (o' := .pmat (ver + 1) (xs ++ [ys]) n) (C' := D) ok hne hid rfl hC hjd rfl hCj ⟨rfl, rfl, rfl, by show C.ver ≤ ver + 1; omega, fun e => by have : ver + 1 = C.ver := e; omega⟩ hDfp
    (by rw [hM]; exact f1) (fun b hbn => by rw [hM]; exact f3 b fun e => hbn (e ▸ fp_blk hB)) (fun b _ => by rw [hM]; exact f4 b) (fun x => by
      refine ⟨rfl, k2, k3, by simp only [D, List.length_append, k4]; rfl, hDnd, by simp; omega, ?_⟩
      have hDB : D.blk = some B := hB
      rw [hDB]
      refine ⟨_, e, f2, by rw [putRow_size hfit']; exact k8, fun k hk => ?_⟩
      rw [List.length_append, List.length_singleton] at hk
      by_cases e2 : k = xs.length
      · subst e2
        simp only [List.getElem_concat_length]
        refine ⟨Cj.blk, rv, ?_, ?_, r1.ext x, fun R hR => ?_⟩
        · simp only [D]; rw [List.getElem?_append_right (by omega), k4]; simp
        · rw [putRow_get hfit', if_neg (by omega), if_pos (by rw [hcells]; show xs.length < xs.length + 1; omega), hcells]
          simp
        · obtain ⟨rv', er, q5, q6⟩ := r2 R hR
          refine ⟨rv', er, ?_, q6⟩
          have : R ≠ B := fun e => hdis R hR (e ▸ fp_blk hB)
          show (w.setRow B _).heap[R]? = _
          rw [f3 R this, ← hM]; exact q5
      · have hk' : k < xs.length := by omega
        rw [List.getElem_append_left hk']
        obtain ⟨rb', v', p1, p2, p3, p4⟩ := k9 k hk'
        refine ⟨rb', v', ?_, ?_, p3.ext x, fun R' hR' => ?_⟩
        · simp only [D]; rw [List.getElem?_append_left (by omega)]; exact p1
        · rw [putRow_get hfit', hcells]
          show (if k < xs.length then vals[k]? else if k < xs.length + 1 then _ else vals[k]?) = _
          rw [if_pos hk']
          exact p2
        · subst hR'
          obtain ⟨rv', er', p5, p6⟩ := p4 R' rfl
          refine ⟨rv', er', ?_, p6⟩
          have : R' ≠ B := nodup_blk k5 p1 hB
          show (w.setRow B _).heap[R']? = _
          rw [f3 R' this, ← hM]; exact p5)
  exact ⟨_, _, hr, rfl, rfl, rfl, rfl, rfl, this.1, this.2⟩

theorem happly_ne (h : Hp) {n : Nat} : ∀ {u : Upd}, (u.any fun p => Nat.beq p.1 n) = false → happly h u n = h n
  | [], _ => rfl
  | (id, o) :: u, hu => by
    simp only [List.any_cons, Bool.or_eq_false_iff] at hu
    have : n ≠ id := fun e => by subst e; simp at hu
    show happly (hset h id o) u n = h n
    rw [happly_ne (hset h id o) hu.2, hset_ne _ _ this]

theorem storeS_sound {P : Program} {M : Mst} {w : World} (ok : Ok M) (hM : M.H = w.heap) {t : TypeId} {a v r : AVal} {u : Upd} {ra rv : Value} (ha : VRep M a ra) (hv : VRep M v rv)
    (h : Yields (storeS P M.h t a v) r u) : r = .undef ∧ RunsU P (Instr.storeAt t ra rv) M w u := by
  unfold storeS at h
  split at h
  · exact h.elim
  · rename_i vs hvs
    have hrep := valCells_rep hvs hv
    cases hb : (Nat.beq vs.length (P.cellsOf t) && Nat.blt 0 vs.length) with
    | false => rw [hb] at h; exact h.elim
    | true =>
      rw [hb] at h
      simp only [cond_true] at h
      simp only [Bool.and_eq_true] at hb
      have hn := Nat.eq_of_beq_eq_true hb.1
      have h0 := blt_true hb.2
      split at h
      · rename_i id off
        split at h
        · rename_i cells hid
          split at h
          · rename_i cells' hp
            obtain ⟨_, rfl, rfl⟩ := yields_alt h
            obtain ⟨C, B, hC, hB, rfl⟩ := ha
            refine ⟨rfl, ?_⟩
            have := box_store (P := P) ok hM (t := t) hid hC hB hrep hn h0 hp
            simpa [Instr.storeAt, RunsU, sure] using this
          · exact h.elim
        · exact h.elim
      · rename_i id i off
        split at h
        · rename_i ty xs vs' u' hid hfz
          split at h
          · rename_i x hp
            cases hu : (u'.any fun p => Nat.beq p.1 id) with
            | true => rw [hu] at h; exact h.elim
            | false =>
            rw [hu] at h
            obtain ⟨_, rfl, rfl⟩ := yields_alt h
            refine ⟨rfl, ?_⟩
            obtain ⟨M1, a1, a2, a3, a4, a5, a6, a7⟩ := frzL_sound ok (Frz.refl _) hrep hfz
            obtain ⟨C, B, hC, hB, hi, hra⟩ := CRep.ext (c := .eptr id i off) a4.ext ha
            have hid1 : M1.h id = some (.arr true ty xs) := by rw [a2, happly_ne M.h hu]; exact hid
            have hl1 := a5.length
            have hl2 := hrep.length
            obtain ⟨w', M', b1, b2, b3, b4, b5, b6, b7, b8⟩ := arr_store (P := P) a3 (a1.trans hM) (t := t) hid1 hC hB hi a5 (by omega) (by omega) hp
            subst hra
            exact ⟨w', M', by simpa [Instr.storeAt, sure] using b1, b2, b3, b4, b5, by rw [b6, a2, happly_append], b7, a4.trans b8⟩
          · exact h.elim
        · exact h.elim
      · rename_i id i
        split at h
        · rename_i ver xs jd hid
          split at h
          · rename_i ys hjd
            obtain ⟨_, rfl, rfl⟩ := yields_alt h
            obtain ⟨C, B, hC, hB, hi, rfl⟩ := ha
            refine ⟨rfl, ?_⟩
            have := row_store (P := P) ok hM (t := t) hid hC hB hi hjd hv (by cases hvs; exact hn)
            simpa [Instr.storeAt, RunsU, sure] using this
          · exact h.elim
        · rename_i ver xs n jd hid
          split at h
          · rename_i ys hjd
            obtain ⟨hix, rfl, rfl⟩ := yields_alt h
            obtain ⟨C, B, hC, hB, hi, rfl⟩ := ha
            have hix := Nat.eq_of_beq_eq_true hix
            subst hix
            refine ⟨rfl, ?_⟩
            have := prow_store (P := P) ok hM (t := t) hid hC hB hi hjd hv (by cases hvs; exact hn)
            simpa [Instr.storeAt, RunsU, sure] using this
          · exact h.elim
        · exact h.elim
      · rename_i id i j ver
        split at h
        · rename_i v' xs n hid
          cases hv' : Nat.beq v' ver with
          | false => rw [hv'] at h; exact h.elim
          | true =>
          rw [hv'] at h
          have e := Nat.eq_of_beq_eq_true hv'
          subst e
          obtain ⟨_, rfl, rfl⟩ := yields_alt h
          obtain ⟨C, hC, h1, hle, hm⟩ := ha
          obtain ⟨C', hC', hO⟩ := ok.obj _ _ hid
          rw [hC] at hC'; cases hC'
          obtain ⟨R, rl, k1, k2, rfl⟩ := hm hO.1
          refine ⟨rfl, ?_⟩
          have hv2 : rv = .int .i64 n := hv
          subst hv2
          have := cell_store (P := P) ok hM (t := t) (n := n) hid hC k1 k2 (by cases hvs; exact hn)
          simpa [Instr.storeAt, RunsU, sure] using this
        · exact h.elim
      · exact h.elim
end Go.Ab
