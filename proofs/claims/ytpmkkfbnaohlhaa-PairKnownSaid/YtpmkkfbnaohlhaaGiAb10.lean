/- Rows that are put together; rows of rows. -/
import Derived.Test.YtpmkkfbnaohlhaaGiAb9
set_option linter.unusedVariables false
set_option linter.unusedSimpArgs false
namespace Go.Ab

theorem run_buildSlice {P : Program} {w : World} {t e : TypeId} {n : Nat} {rparts : List (Nat × Value)} {ty : Ty} {i : TypeInfo} {z : Value} {res : Array Value} (hu : P.underlying t = some (.slice e)) (hi : P.info? e = some i)
    (hz : i.zero = some z) (hs : i.size = ty.size) (hsmall : n * P.cellsOf e ≤ 16777216) (hf : Instr.fill (fun j => some (j * ty.size, ty.size)) (madeCells z.cells (n * ty.size)) rparts = some res) :
    (Instr.buildSlice t n rparts.toArray).run P w = .ok (.slice (some ⟨w.heap.size, 0, none⟩) n n) (w.alloc (.cells res e)) := by
  have hc : P.cellsOf e = ty.size := by rw [cellsOf_info hi]; exact hs
  rw [hc] at hsmall
  have h1 : ¬ 2 ^ 24 < n * ty.size := by omega
  by_cases h0 : n * ty.size = 0
  · have hm : madeCells z.cells (n * ty.size) = #[] := by rw [h0]; simp [madeCells, Array.range_zero']
    rw [hm] at hf
    simp only [Instr.buildSlice, Sem.run_bind, run_underlying hu, Result.andThen_ok, run_size w hi, hc, gt_iff_lt, h1, if_false, h0, if_true, Sem.run_pure]
    simp [Array.range_zero', hf, newRow]
  · simp only [Instr.buildSlice, Sem.run_bind, run_underlying hu, Result.andThen_ok, run_size w hi, hc, gt_iff_lt, h1, if_false, h0, Sem.run_pure, zeroValue, run_info w hi, hz]
    rw [show (Array.range (n * ty.size)).map (z.cells[· % z.cells.size]!) = madeCells z.cells (n * ty.size) from rfl, hf]
    simp [newRow]

theorem all_lt {parts : List (Nat × AVal)} {n : Nat} (h : parts.all (fun p => Nat.blt p.1 n) = true) : ∀ p ∈ parts, p.1 < n := by
  simp only [List.all_eq_true] at h
  exact fun p hp => blt_true (h p hp)

theorem arrSlice_sound {P : Program} {M : Mst} {w : World} (ok : Ok M) (hM : M.H = w.heap) {nm : Nat} {t e : TypeId} {n : Nat} {parts : List (Nat × AVal)} {rparts : List (Nat × Value)} {ty : Ty} {xs : List ty.den} {u : Upd}
    (hp : All2 (PRep M) parts rparts) (hu : P.underlying t = some (.slice e)) (hnm : M.h nm = none) (hty : elemTy P e = some ty) (hsmall : n * P.cellsOf e ≤ 16777216) (hlt : ∀ p ∈ parts, p.1 < n)
    (hf : fillE M.h ty (List.replicate n ty.dflt) parts = some (xs, u)) :
    RunsV P (Instr.buildSlice t n rparts.toArray) M w (.c (.osl nm none)) (u ++ [(nm, .arr true ty xs)]) := by
  obtain ⟨i, z, h1, h2, h3, h4, h5, h6, h7⟩ := elemTy_some hty
  obtain ⟨res, M', b1, b2, b3, b4, b5, b6, b7, b8, b9⟩ := fillE_sound (n := n) ok (Frz.refl _) (by simp) (vals := madeCells z.cells (n * ty.size)) (by rw [size_madeCells])
    (fun k hk => by rw [getElem_replicate' hk]; exact made_rep h4 h7 (by simpa using hk)) hlt hp hf
  have hr := run_buildSlice (P := P) (w := w) hu h1 h2 h3 hsmall b1
  refine RunsV.after b3 b5 (new_arr b4 (b2.trans hM) (b6.fresh hnm) (c := n) (us := res) (e := e) (by omega) (by omega) (fun k hk => b9 k hk) ?_)
  rw [b7]; exact hr

/-! ### Rows of rows -/
/-- Rows in the making. -/
structure RowsI (M : Mst) (J : List Nat) (n : Nat) (rows : List (List Int)) (vals : Array Value) (rc : List (Option Nat × Nat)) : Prop where
  len : rows.length = n
  size : vals.size = n
  rlen : rc.length = n
  row : ∀ k (h : k < rows.length), ∃ rb v, rc[k]? = some (rb, rows[k].length) ∧ vals[k]? = some v ∧ RowV M.H rb rows[k].length v ∧
    (∀ R, rb = some R → ∃ rv er, M.H[R]? = some (.cells rv er (0, 0)) ∧ ∀ j (h' : j < rows[k].length), rv[j]? = some (.int .i64 rows[k][j]))
  nd : (rc.filterMap (·.1)).Nodup
  of : ∀ R ∈ rc.filterMap (·.1), ∃ j ∈ J, ∃ C, M.κ j = some C ∧ R ∈ C.fp
  js : ∀ j ∈ J, ∃ ys : List Int, M.h j = some (.arr true (.int .i64) ys)

theorem RowsI.put {M : Mst} (ok : Ok M) {J : List Nat} {n : Nat} {rows : List (List Int)} {vals : Array Value} {rc : List (Option Nat × Nat)} (I : RowsI M J n rows vals rc) {i : Nat} (hi : i < n) {v : AVal} {rv : Value} {r : List Int} {u : Upd}
    (hv : VRep M v rv) (ht : takeRow M.h v = some (r, u)) (hJ : ∀ p ∈ u, p.1 ∉ J) : ∃ rc', RowsI M (J ++ u.map (·.1)) n (rows.set i r) (putRow vals i rv.cells.toList) rc' ∧ rv.cells.size = 1 ∧ (∀ p ∈ u, p.2 = .gone) := by
  have hin : i < rows.length := by rw [I.len]; exact hi
  have put : ∀ (rb : Option Nat) (J' : List Nat), rv.one1 = true → RowV M.H rb r.length rv → (∀ R, rb = some R → ∃ rv er, M.H[R]? = some (.cells rv er (0, 0)) ∧ ∀ j (h' : j < r.length), rv[j]? = some (.int .i64 r[j])) →
      (∀ R, rb = some R → R ∉ rc.filterMap (·.1)) → (∀ R, rb = some R → ∃ j ∈ J', ∃ C, M.κ j = some C ∧ R ∈ C.fp) → (∀ j ∈ J', ∃ ys : List Int, M.h j = some (.arr true (.int .i64) ys)) →
      RowsI M (J ++ J') n (rows.set i r) (putRow vals i rv.cells.toList) (rc.set i (rb, r.length)) ∧ rv.cells.size = 1 := by
    intro rb J' h1 h2 h3 h4 h5 h6
    have hcells : rv.cells = #[rv] := by cases rv <;> first | rfl | cases h1
    obtain ⟨s1, s2⟩ := set_rows (x := (rb, r.length)) rc i I.nd h4
    have hfit : i + rv.cells.toList.length ≤ vals.size := by rw [hcells, I.size]; show i + 1 ≤ n; omega
    refine ⟨⟨by rw [List.length_set]; exact I.len, by rw [putRow_size hfit]; exact I.size, by rw [List.length_set]; exact I.rlen, fun k hk => ?_, s1, fun R hR => ?_, fun j hj => ?_⟩, by rw [hcells]; rfl⟩
    · rw [List.length_set] at hk
      by_cases e : k = i
      · subst e
        rw [List.getElem_set_self]
        refine ⟨rb, rv, ?_, ?_, h2, h3⟩
        · rw [List.getElem?_set_self (by rw [I.rlen]; exact hi)]
        · rw [putRow_get hfit, if_neg (by omega), if_pos (by rw [hcells]; show k < k + 1; omega), hcells]
          simp
      · rw [List.getElem_set_ne (Ne.symm e)]
        obtain ⟨rb', v', p1, p2, p3, p4⟩ := I.row k hk
        refine ⟨rb', v', by rw [List.getElem?_set_ne (Ne.symm e)]; exact p1, ?_, p3, p4⟩
        rw [putRow_get hfit, hcells]
        show (if k < i then vals[k]? else if k < i + 1 then _ else vals[k]?) = _
        split
        · exact p2
        · rw [if_neg (by omega)]; exact p2
    · rcases s2 R hR with h | h
      · obtain ⟨j, hj, hC⟩ := I.of R h
        exact ⟨j, List.mem_append_left _ hj, hC⟩
      · obtain ⟨j, hj, hC⟩ := h5 R h
        exact ⟨j, List.mem_append_right _ hj, hC⟩
    · rcases List.mem_append.1 hj with h | h
      · exact I.js j h
      · exact h6 j h
  unfold takeRow at ht
  split at ht
  · rename_i jd
    split at ht
    · rename_i ys hjd
      cases ht
      obtain ⟨Cj, hCj, hOj⟩ := ok.obj jd _ hjd
      obtain ⟨jr, jf⟩ := arr_fp hOj
      obtain ⟨r1, r2⟩ := row_of_arr hCj hOj hv
      have hjs : ∀ j ∈ [jd], ∃ ys : List Int, M.h j = some (.arr true (.int .i64) ys) := fun j hj => by
        have e : j = jd := by simpa using hj
        rw [e]; exact ⟨_, hjd⟩
      have := put Cj.blk [jd] (CRep.one (c := .osl jd none) hv) r1 r2 (fun R hR hm => ?_) (fun R hR => ⟨jd, by simp, Cj, hCj, fp_blk hR⟩) (fun j hj => hjs j hj)
      · exact ⟨_, this.1, this.2, by simp⟩
      · obtain ⟨j, hj, C, hC, hRC⟩ := I.of R hm
        obtain ⟨ys', hj'⟩ := I.js j hj
        have hne : j ≠ jd := fun e => hJ (jd, .gone) (by simp) (e ▸ hj)
        exact ok.disj j jd _ _ C Cj R hne hj' hjd rfl rfl hC hCj hRC (fp_blk hR)
    · cases ht
  · cases ht
    have e : rv = .slice none 0 0 := hv
    have := put none [] (by rw [e]; rfl) ⟨e, rfl⟩ (fun R hR => by cases hR) (fun R hR => by cases hR) (fun R hR => by cases hR) (fun j hj => by cases hj)
    exact ⟨_, by simpa using this.1, this.2, by simp⟩
  · cases ht

theorem noDup_spec : ∀ {l : List Nat}, noDup l = true → l.Nodup
  | [], _ => List.nodup_nil
  | a :: l, h => by
    simp only [noDup, Bool.and_eq_true, Bool.not_eq_true'] at h
    refine List.nodup_cons.2 ⟨fun hm => ?_, noDup_spec h.2⟩
    have : l.any (Nat.beq a) = true := List.any_eq_true.2 ⟨a, hm, by simp⟩
    rw [this] at h; cases h.1

theorem fillR_sound {M : Mst} (ok : Ok M) {n : Nat} : ∀ {parts : List (Nat × AVal)} {rparts : List (Nat × Value)} {J : List Nat} {rows out : List (List Int)} {vals : Array Value} {rc : List (Option Nat × Nat)} {u : Upd}, RowsI M J n rows vals rc →
    (∀ p ∈ parts, p.1 < n) → All2 (PRep M) parts rparts → fillR M.h rows parts = some (out, u) → (J ++ u.map (·.1)).Nodup →
    ∃ res rc', Instr.fill (fun i => some (i * 1, 1)) vals rparts = some res ∧ RowsI M (J ++ u.map (·.1)) n out res rc' ∧ (∀ p ∈ u, p.2 = .gone)
  | [], [], J, rows, out, vals, rc, u, I, _, _, h, _ => by
    cases h
    exact ⟨vals, rc, rfl, by simpa using I, by simp⟩
  | (i, v) :: parts, (i', rv) :: rparts, J, rows, out, vals, rc, u, I, hlt, hp, h, hnd => by
    obtain ⟨⟨hi, hv⟩, hp⟩ := hp
    dsimp only at hi hv
    subst hi
    unfold fillR at h
    split at h
    · rename_i r u1 ht
      split at h
      · rename_i rows' us hrest
        cases h
        rw [List.map_append, ← List.append_assoc] at hnd
        have hin : i < n := hlt (i, v) (List.mem_cons_self ..)
        obtain ⟨rc', I', h1, hg⟩ := I.put ok hin hv ht (fun p hp hm => by
          have := (List.nodup_append.1 (List.nodup_append.1 hnd).1).2.2 p.1 hm p.1 (List.mem_map_of_mem hp)
          exact this rfl)
        obtain ⟨res, rc2, b1, b2, b3⟩ := fillR_sound ok I' (fun p hp => hlt p (List.mem_cons_of_mem _ hp)) hp hrest hnd
        refine ⟨res, rc2, ?_, by rw [List.map_append, ← List.append_assoc]; exact b2, fun p hp => ?_⟩
        · rw [fill_cons _ vals i rv rparts (i * 1) 1 rfl h1 (by rw [I.size]; omega), Nat.mul_one]; exact b1
        · rcases List.mem_append.1 hp with hp | hp
          · exact hg p hp
          · exact b3 p hp
      · cases h
    · cases h
  | [], _ :: _, _, _, _, _, _, _, _, _, hh, _, _ => hh.elim
  | _ :: _, [], _, _, _, _, _, _, _, _, hh, _, _ => hh.elim

theorem happly_gone {j : Nat} : ∀ {u : Upd} {h : Hp}, (∀ p ∈ u, p.2 = .gone) → j ∈ u.map (·.1) → happly h u j = some .gone
  | (id, o) :: u, h, hg, hj => by
    have ho : o = .gone := hg (id, o) (List.mem_cons_self ..)
    subst ho
    by_cases hm : j ∈ u.map (·.1)
    · exact happly_gone (u := u) (fun p hp => hg p (List.mem_cons_of_mem _ hp)) hm
    · have e : j = id := by
        simp only [List.map_cons, List.mem_cons] at hj
        exact hj.resolve_right hm
      subst e
      show happly (hset h j .gone) u j = _
      rw [happly_ne]
      · exact hset_same _ _ _
      · rw [Bool.eq_false_iff]
        intro hc
        obtain ⟨p, hp, hb⟩ := List.any_eq_true.1 hc
        exact hm (List.mem_map.2 ⟨p, hp, Nat.eq_of_beq_eq_true hb⟩)

theorem happly_not {n : Nat} {u : Upd} {h : Hp} (hn : n ∉ u.map (·.1)) : happly h u n = h n := by
  refine happly_ne h ?_
  rw [Bool.eq_false_iff]
  intro hc
  obtain ⟨p, hp, hb⟩ := List.any_eq_true.1 hc
  exact hn (List.mem_map.2 ⟨p, hp, Nat.eq_of_beq_eq_true hb⟩)

/-- A row of rows in a new block, its rows those of objects that are given up. -/
theorem new_mat {P : Program} {M : Mst} {w : World} (ok : Ok M) (hM : M.H = w.heap) {nm n c : Nat} {rows : List (List Int)} {res : Array Value} {rc : List (Option Nat × Nat)} {J : List Nat} {u : Upd} {e : TypeId} {s : Sem Value}
    (hnm : M.h nm = none) (I : RowsI M J n rows (res.extract 0 n) rc) (hJ : ∀ j, j ∈ J → j ∈ u.map (·.1)) (hg : ∀ p ∈ u, p.2 = .gone ∧ ∃ o, M.h p.1 = some o ∧ o.owned = true) (hc : n ≤ c) (hs : c ≤ res.size)
    (w' : World) (hw : w'.heap = w.heap.push (.cells res e) ∧ w'.os = w.os ∧ w'.tape = w.tape ∧ w'.output = w.output)
    (hr : s.run P w = .ok (.slice (some ⟨w.heap.size, 0, none⟩) n c) w') : RunsV P s M w (.c (.osl nm none)) (u ++ [(nm, .mat 0 rows)]) := by
  let C : Conc := ⟨some M.H.size, n, 1, 0, rc⟩
  have hnJ : nm ∉ u.map (·.1) := fun hm => by
    obtain ⟨p, hp, e⟩ := List.mem_map.1 hm
    obtain ⟨_, o, ho, _⟩ := hg p hp
    rw [e, hnm] at ho; cases ho
  have hrow : ∀ R ∈ rc.filterMap (·.1), ∃ j C, (j ∈ u.map (·.1)) ∧ M.κ j = some C ∧ R ∈ C.fp := fun R hR => by
    obtain ⟨j, hj, C, hC, hm⟩ := I.of R hR
    exact ⟨j, C, hJ j hj, hC, hm⟩
  have hrlt : ∀ R ∈ rc.filterMap (·.1), R < M.H.size := fun R hR => by
    obtain ⟨j, hj, C, hC, hm⟩ := I.of R hR
    obtain ⟨ys, hy⟩ := I.js j hj
    exact (ok.own R ⟨j, _, C, hy, rfl, hC, hm⟩).2
  have hh : ∀ n', (happly M.h (u ++ [(nm, .mat 0 rows)])) n' = if n' = nm then some (.mat 0 rows) else happly M.h u n' := fun n' => by
    rw [happly_append, happly_one]
    by_cases e : n' = nm
    · rw [if_pos e, e, hset_same]
    · rw [if_neg e, hset_ne _ _ e]
  have := Mst.move_ok (M := M) (nm := nm) (o' := .mat 0 rows) (C' := C) (h' := happly M.h (u ++ [(nm, .mat 0 rows)])) (H' := M.H.push (.cells res e)) ok (fun j => j ∈ u.map (·.1)) hnm
    (fun j hj => by
      obtain ⟨p, hp, e⟩ := List.mem_map.1 hj
      obtain ⟨_, o, ho, hoo⟩ := hg p hp
      refine ⟨o, by rw [← e]; exact ho, hoo, ?_⟩
      have hne : j ≠ nm := fun e' => hnJ (by rw [← e']; exact hj)
      rw [hh, if_neg hne]
      exact happly_gone (fun p hp => (hg p hp).1) hj)
    (by rw [hh, if_pos rfl]) (fun n' h1 h2 => by rw [hh, if_neg h2]; exact happly_not h1) (by simp) (fun b hb _ => push_lt hb) (fun b hb => bsize_congr (push_lt hb))
    (fun b hb => by
      simp only [C, Conc.fp, Option.toList_some, List.singleton_append, List.mem_cons] at hb
      rcases hb with rfl | hb
      · exact .inl ⟨Nat.le_refl _, by simp⟩
      · exact .inr (by
          obtain ⟨j, C, h1, h2, h3⟩ := hrow b hb
          exact ⟨j, C, h1, h2, h3⟩))
    (fun x => by
      refine ⟨rfl, I.len.symm, rfl, by rw [I.len]; exact I.rlen, ?_, res, e, push_new, by rw [I.len]; omega, fun k hk => ?_⟩
      · simp only [C, Conc.fp, Option.toList_some, List.singleton_append]
        exact List.nodup_cons.2 ⟨fun hm => by have := hrlt _ hm; omega, I.nd⟩
      · obtain ⟨rb, v, p1, p2, p3, p4⟩ := I.row k hk
        have hkn : k < n := by rw [← I.len]; exact hk
        refine ⟨rb, v, p1, ?_, p3.ext x, fun R hR => ?_⟩
        · rw [Array.getElem?_extract] at p2
          split at p2
          · simpa using p2
          · cases p2
        · obtain ⟨rv, er, p5, p6⟩ := p4 R hR
          refine ⟨rv, er, ?_, p6⟩
          have : R < M.H.size := hrlt R (List.mem_filterMap.2 ⟨_, List.mem_of_getElem? p1, hR⟩)
          show (M.H.push _)[R]? = _
          rw [push_lt this]; exact p5)
  refine ⟨_, _, _, hr, hw.2.1, hw.2.2.1, hw.2.2.2, by show M.H.push _ = _; rw [hw.1, hM], rfl, this.1, this.2, C, κset_same _ _ _, _, c, rfl, ?_⟩
  refine ⟨hc, 0, by rw [hM], .inr (by simp), ?_⟩
  have : bsize (M.H.push (.cells res e)) M.H.size = res.size := by simp [bsize]
  show (0 + c) * 1 ≤ bsize (M.H.push (.cells res e)) M.H.size
  rw [this]; omega

theorem buildSliceS_sound {P : Program} {M : Mst} {w : World} (ok : Ok M) (hM : M.H = w.heap) {mat : Bool} {nm : Nat} {t : TypeId} {n : Nat} {parts : List (Nat × AVal)} {rparts : List (Nat × Value)} {v : AVal} {u : Upd}
    (hp : All2 (PRep M) parts rparts) (h : Yields (buildSliceS P mat nm M.h t n parts) v u) : RunsV P (Instr.buildSlice t n rparts.toArray) M w v u := by
  unfold buildSliceS at h
  split at h
  · rename_i e hu hnm
    obtain ⟨hsmall, h⟩ := bif_stuck h
    have hsmall := Nat.le_of_ble_eq_true hsmall
    cases mat with
    | true =>
      simp only [cond_true] at h
      split at h
      · rename_i rows u' hty hf
        obtain ⟨hb, h⟩ := bif_stuck h
        simp only [Bool.and_eq_true] at hb
        obtain ⟨_, rfl, rfl⟩ := yields_alt h
        obtain ⟨i, z, h1, h2, h3, h4, h5, h6, h7⟩ := elemTy_some hty
        have hz0 : z.cells.toList = [.slice none 0 0] := h4
        have hz1 : z.cells.size = 1 := h7
        have I0 : RowsI M [] n (List.replicate n []) (madeCells z.cells (n * 1)) (List.replicate n (none, 0)) := by
          have hfm : (List.replicate n ((none, 0) : Option Nat × Nat)).filterMap (·.1) = [] := by
            rw [List.filterMap_eq_nil_iff]
            intro a ha
            rw [List.eq_of_mem_replicate ha]
          refine ⟨by simp, by rw [size_madeCells, Nat.mul_one], by simp, fun k hk => ?_, by rw [hfm]; exact List.nodup_nil, by rw [hfm]; simp, by simp⟩
          have hkn : k < n := by simpa using hk
          refine ⟨none, .slice none 0 0, by simp [hkn], ?_, ⟨rfl, by simp⟩, fun R hR => by cases hR⟩
          simp only [madeCells, Nat.mul_one]
          rw [Array.getElem?_map, Array.getElem?_range]
          simp only [hkn, if_true, Option.map_some, hz1, Nat.mod_one]
          rw [getElem!_pos z.cells 0 (by omega)]
          have : z.cells.toList[0]'(by simp; omega) = .slice none 0 0 := by simp only [hz0, List.getElem_cons_zero]
          simpa using this
        obtain ⟨res, rc, b1, b2, b3⟩ := fillR_sound ok I0 (all_lt hb.2) hp hf (by simpa using noDup_spec hb.1)
        rw [List.nil_append] at b2
        have hr := run_buildSlice (P := P) (w := w) (ty := .sl (.int .i64)) hu h1 h2 h3 hsmall b1
        have hext : res.extract 0 n = res := by
          have := b2.size
          apply Array.ext_getElem?
          intro j
          rw [Array.getElem?_extract]
          split
          · simp
          · rw [Array.getElem?_eq_none (by omega)]
        refine new_mat ok hM hnm (by rw [hext]; exact b2) (fun j hj => hj) (fun p hp => ⟨b3 p hp, ?_⟩) (Nat.le_refl n) (by rw [b2.size]; exact Nat.le_refl _) (w.alloc (.cells res e)) ⟨rfl, rfl, rfl, rfl⟩ hr
        obtain ⟨ys, hy⟩ := b2.js p.1 (List.mem_map_of_mem hp)
        exact ⟨_, hy, rfl⟩
      · exact h.elim
    | false =>
      simp only [cond_false] at h
      split at h
      · rename_i ty hty
        split at h
        · rename_i xs u' hf
          obtain ⟨hb, h⟩ := bif_stuck h
          obtain ⟨_, rfl, rfl⟩ := yields_alt h
          exact arrSlice_sound ok hM hp hu hnm hty hsmall (all_lt hb) hf
        · exact h.elim
      · exact h.elim
  · exact h.elim
end Go.Ab
