/- append of rows of rows; copy. -/
import Derived.Test.YtpmkkfbnaohlhaaGiAb11
set_option linter.unusedVariables false
set_option linter.unusedSimpArgs false
namespace Go.Ab

/-- The facts of a row of rows, row by row. -/
def RowF (H : Array Go.Obj) (row : List Int) (m : Option (Option Nat × Nat)) (c : Option Value) : Prop := ∃ rb v, m = some (rb, row.length) ∧ c = some v ∧ RowV H rb row.length v ∧
  (∀ R, rb = some R → ∃ rv er, H[R]? = some (.cells rv er (0, 0)) ∧ ∀ j (h' : j < row.length), rv[j]? = some (.int .i64 row[j]))

theorem mat_facts {M : Mst} {ver : Nat} {xs : List (List Int)} {C : Conc} (h : ORep M (.mat ver xs) C) : C.len = xs.length ∧ C.sz = 1 ∧ C.rows.length = xs.length ∧ C.fp.Nodup ∧
    ∃ heads : List Value, heads.length = xs.length ∧ (∀ k (h : k < xs.length), RowF M.H xs[k] C.rows[k]? heads[k]?) ∧
      (match C.blk with
        | none => xs = []
        | some B => ∃ vals e, M.H[B]? = some (.cells vals e (0, 0)) ∧ xs.length ≤ vals.size ∧ ∀ k, k < xs.length → vals[k]? = heads[k]?) := by
  obtain ⟨h1, h2, h3, h4, h5, h6⟩ := h
  refine ⟨h2, h3, h4, h5, ?_⟩
  cases hB : C.blk with
  | none =>
    rw [hB] at h6
    subst h6
    exact ⟨[], rfl, fun k hk => by simp at hk, rfl⟩
  | some B =>
    rw [hB] at h6
    obtain ⟨vals, e, h7, h8, h9⟩ := h6
    have hg : ∀ k, k < xs.length → (vals.toList.take xs.length)[k]? = vals[k]? := fun k hk => by
      rw [List.getElem?_take, if_pos hk]; simp
    refine ⟨vals.toList.take xs.length, by simp; omega, fun k hk => ?_, vals, e, h7, h8, fun k hk => (hg k hk).symm⟩
    obtain ⟨rb, v, k1, k2, k3, k4⟩ := h9 k hk
    exact ⟨rb, v, k1, by rw [hg k hk]; exact k2, k3, k4⟩

theorem RowF.one {H : Array Go.Obj} {row : List Int} {m : Option (Option Nat × Nat)} {v : Value} (h : RowF H row m (some v)) : v.one1 = true := by
  obtain ⟨rb, v', _, e, h, _⟩ := h
  cases e
  exact h.one

/-- The heads of a whole row of rows, as a row of cells. -/
theorem rd_mat {M : Mst} {xs : List (List Int)} {C : Conc} {id : Nat} {v : Value} (hC : M.κ id = some C) (hv : CRep M (.osl id none) v) {heads : List Value} (hl : heads.length = xs.length) (hlen : C.len = xs.length) (hsz : C.sz = 1)
    (hone : ∀ u ∈ heads, u.one1 = true) (hb : match C.blk with
        | none => xs = []
        | some B => ∃ vals e, M.H[B]? = some (.cells vals e (0, 0)) ∧ xs.length ≤ vals.size ∧ ∀ k, k < xs.length → vals[k]? = heads[k]?) : Rd M.H v xs.length 1 heads := by
  obtain ⟨C', hC', A, c, rfl, hS⟩ := hv
  rw [hC] at hC'; cases hC'
  rw [hlen]
  refine ⟨A, c, rfl, by omega, hone, ?_⟩
  cases hB : C.blk with
  | none =>
    rw [hB] at hS
    obtain ⟨rfl, h0, _⟩ := hS
    show xs.length = 0
    omega
  | some B =>
    rw [hB] at hS hb
    obtain ⟨hc, a, rfl, ha, _⟩ := hS
    obtain ⟨vals, e, h1, h2, h3⟩ := hb
    by_cases h0 : xs.length = 0
    · exact .inl h0
    · refine .inr ⟨rfl, fun j u hu => ?_⟩
      have ha0 : a = 0 := by rcases ha with ha | ha <;> omega
      subst ha0
      have hj : j < xs.length := by
        rcases Nat.lt_or_ge j xs.length with h | h
        · exact h
        · rw [List.getElem?_eq_none (by omega)] at hu; cases hu
      simp only [hcell, h1, Nat.zero_add]
      rw [h3 j hj]; exact hu

theorem nodup_join {C D : Conc} (hC : C.fp.Nodup) (hD : D.fp.Nodup) (hdis : ∀ b, b ∈ C.fp → b ∉ D.fp) : ((C.rows ++ D.rows).filterMap (·.1)).Nodup := by
  rw [List.filterMap_append]
  refine List.nodup_append.2 ⟨(List.nodup_append.1 hC).2.1, (List.nodup_append.1 hD).2.1, fun a ha b hb e => ?_⟩
  subst e
  exact hdis a (by simp only [Conc.fp, List.mem_append]; exact .inr ha) (by simp only [Conc.fp, List.mem_append]; exact .inr hb)

theorem mat_join {P : Program} {M : Mst} {w w' : World} (ok : Ok M) (hM : M.H = w.heap) {id jd nm : Nat} {v1 v2 : Nat} {xs ys : List (List Int)} {C Cj C' : Conc} {s : Sem Value} {A : Option Addr} {c : Nat} {H' : Array Go.Obj}
    (hid : M.h id = some (.mat v1 xs)) (hjd : M.h jd = some (.mat v2 ys)) (hne : id ≠ jd) (hC : M.κ id = some C) (hCj : M.κ jd = some Cj) (hnm : M.h nm = none) (hsz : M.H.size ≤ H'.size)
    (hH : ∀ b, b < M.H.size → C.blk ≠ some b → H'[b]? = M.H[b]?) (hbs : ∀ b, b < M.H.size → bsize H' b = bsize M.H b)
    (hl : C'.len = (xs ++ ys).length) (hs1 : C'.sz = 1) (hv0 : C'.ver = 0) (hrows : C'.rows = C.rows ++ Cj.rows) (hblk : ∀ B, C'.blk = some B → (M.H.size ≤ B ∧ B < H'.size) ∨ C.blk = some B)
    (hx : match C'.blk with
      | none => xs ++ ys = []
      | some B => ∃ vals e, H'[B]? = some (.cells vals e (0, 0)) ∧ (xs ++ ys).length ≤ vals.size ∧ ∀ k (h : k < (xs ++ ys).length), RowF M.H (xs ++ ys)[k] (C.rows ++ Cj.rows)[k]? vals[k]?)
    (hA : SlV H' C' 0 C'.len (.slice A (xs ++ ys).length c))
    (hw : w'.heap = H' ∧ w'.os = w.os ∧ w'.tape = w.tape ∧ w'.output = w.output) (hr : s.run P w = .ok (.slice A (xs ++ ys).length c) w') :
    RunsV P s M w (.c (.osl nm none)) [(id, .gone), (jd, .gone), (nm, .mat 0 (xs ++ ys))] := by
  obtain ⟨C0, hC0, hO⟩ := ok.obj id _ hid
  rw [hC] at hC0; cases hC0
  obtain ⟨C1, hC1, hOj⟩ := ok.obj jd _ hjd
  rw [hCj] at hC1; cases hC1
  have ndC := hO.2.2.2.2.1
  have ndD := hOj.2.2.2.2.1
  have hdis : ∀ b, b ∈ C.fp → b ∉ Cj.fp := fun b h1 h2 => ok.disj id jd _ _ C Cj b hne hid hjd rfl rfl hC hCj h1 h2
  have hni : id ≠ nm := fun e => by rw [e, hnm] at hid; cases hid
  have hnj : jd ≠ nm := fun e => by rw [e, hnm] at hjd; cases hjd
  have hh : ∀ n', (happly M.h [(id, .gone), (jd, .gone), (nm, .mat 0 (xs ++ ys))]) n' = if n' = nm then some (.mat 0 (xs ++ ys)) else if n' = jd then some .gone else if n' = id then some .gone else M.h n' := fun n' => by
    show (hset (hset (hset M.h id .gone) jd .gone) nm _) n' = _
    by_cases e : n' = nm
    · rw [if_pos e, e, hset_same]
    · rw [if_neg e, hset_ne _ _ e]
      by_cases e2 : n' = jd
      · rw [if_pos e2, e2, hset_same]
      · rw [if_neg e2, hset_ne _ _ e2]
        by_cases e3 : n' = id
        · rw [if_pos e3, e3, hset_same]
        · rw [if_neg e3, hset_ne _ _ e3]
  have hownC : ∀ b ∈ C.fp, b < M.H.size := fun b hb => (ok.own b ⟨id, _, C, hid, rfl, hC, hb⟩).2
  have hownD : ∀ b ∈ Cj.fp, b < M.H.size := fun b hb => (ok.own b ⟨jd, _, Cj, hjd, rfl, hCj, hb⟩).2
  have hmem : ∀ R ∈ (C.rows ++ Cj.rows).filterMap (·.1), R ∈ C.fp ∧ C.blk ≠ some R ∨ R ∈ Cj.fp := fun R hR => by
    rw [List.filterMap_append] at hR
    rcases List.mem_append.1 hR with h | h
    · refine .inl ⟨by simp only [Conc.fp, List.mem_append]; exact .inr h, fun e => ?_⟩
      exact (List.nodup_append.1 ndC).2.2 R (by simp [e]) R h rfl
    · exact .inr (by simp only [Conc.fp, List.mem_append]; exact .inr h)
  have hrowH : ∀ R ∈ (C.rows ++ Cj.rows).filterMap (·.1), R < M.H.size ∧ C.blk ≠ some R := fun R hR => by
    rcases hmem R hR with ⟨h1, h2⟩ | h
    · exact ⟨hownC R h1, h2⟩
    · exact ⟨hownD R h, fun e => hdis R (fp_blk e) h⟩
  have nd' : C'.fp.Nodup := by
    simp only [Conc.fp, hrows]
    cases hB : C'.blk with
    | none => simpa using nodup_join ndC ndD hdis
    | some B =>
      simp only [Option.toList_some, List.singleton_append]
      refine List.nodup_cons.2 ⟨fun hm => ?_, nodup_join ndC ndD hdis⟩
      have := hrowH B hm
      rcases hblk B hB with h | h
      · omega
      · exact this.2 h
  have := Mst.move_ok (M := M) (nm := nm) (o' := .mat 0 (xs ++ ys)) (C' := C') (h' := happly M.h [(id, .gone), (jd, .gone), (nm, .mat 0 (xs ++ ys))]) (H' := H') ok (fun j => j = id ∨ j = jd) hnm
    (fun j hj => by
      rcases hj with rfl | rfl
      · exact ⟨_, hid, rfl, by rw [hh, if_neg hni, if_neg hne, if_pos rfl]⟩
      · exact ⟨_, hjd, rfl, by rw [hh, if_neg hnj, if_pos rfl]⟩)
    (by rw [hh, if_pos rfl]) (fun n' h1 h2 => by rw [hh, if_neg h2, if_neg (fun e => h1 (.inr e)), if_neg (fun e => h1 (.inl e))]) hsz
    (fun b hb hn => hH b hb fun e => hn id C (.inl rfl) hC (fp_blk e)) hbs
    (fun b hb => by
      simp only [Conc.fp, hrows, List.mem_append] at hb
      rcases hb with hb | hb
      · cases hB : C'.blk with
        | none => rw [hB] at hb; simp at hb
        | some B =>
          rw [hB] at hb
          simp at hb
          subst hb
          rcases hblk b hB with h | h
          · exact .inl h
          · exact .inr ⟨id, C, .inl rfl, hC, fp_blk h⟩
      · rcases hmem b hb with h | h
        · exact .inr ⟨id, C, .inl rfl, hC, h.1⟩
        · exact .inr ⟨jd, Cj, .inr rfl, hCj, h⟩)
    (fun x => by
      refine ⟨hv0, hl, hs1, ?_, nd', ?_⟩
      · rw [hrows, List.length_append, hO.2.2.2.1, hOj.2.2.2.1, List.length_append]
      · cases hB : C'.blk with
        | none => rw [hB] at hx; exact hx
        | some B =>
          rw [hB] at hx
          obtain ⟨vals, e, k1, k2, k3⟩ := hx
          refine ⟨vals, e, k1, k2, fun k hk => ?_⟩
          obtain ⟨rb, v, q1, q2, q3, q4⟩ := k3 k hk
          refine ⟨rb, v, by rw [hrows]; exact q1, q2, q3.ext x, fun R hR => ?_⟩
          obtain ⟨rv, er, q5, q6⟩ := q4 R hR
          have hRm := hrowH R (List.mem_filterMap.2 ⟨_, List.mem_of_getElem? q1, hR⟩)
          exact ⟨rv, er, by show H'[R]? = _; rw [hH R hRm.1 hRm.2]; exact q5, q6⟩)
  exact ⟨_, _, M.move nm C' (happly M.h [(id, .gone), (jd, .gone), (nm, .mat 0 (xs ++ ys))]) H', hr, hw.2.1, hw.2.2.1, hw.2.2.2, hw.1.symm, rfl, this.1, this.2, C', κset_same _ _ _, by rw [hl] at hA ⊢; exact hA⟩

theorem heads_one {H : Array Go.Obj} {xs : List (List Int)} {rc : List (Option Nat × Nat)} {heads : List Value} (hl : heads.length = xs.length) (h : ∀ k (h : k < xs.length), RowF H xs[k] rc[k]? heads[k]?) : ∀ u ∈ heads, u.one1 = true := by
  intro u hu
  obtain ⟨k, hk, rfl⟩ := List.getElem_of_mem hu
  have := h k (by omega)
  rw [List.getElem?_eq_getElem hk] at this
  exact this.one

theorem appendS_mat {P : Program} {M : Mst} {w : World} (ok : Ok M) (hM : M.H = w.heap) {id jd nm : Nat} {v1 v2 : Nat} {t e T : TypeId} {x b : Value} {xs ys : List (List Int)} (hu : P.underlying t = some (.slice e)) (hty : elemTy P e = some (.sl (.int .i64)))
    (hnm : M.h nm = none) (hid : M.h id = some (.mat v1 xs)) (hjd : M.h jd = some (.mat v2 ys)) (hne : id ≠ jd) (hb : CRep M (.osl id none) b) (hx : CRep M (.osl jd none) x)
    (hroom : (xs.length + ys.length) * P.bytesOf e ≤ 70368744177664 ∧ xs.length + ys.length ≤ 70368744177664) :
    RunsV P (Builtin.append_ #[t, t] T #[b, x]) M w (.c (.osl nm none)) [(id, .gone), (jd, .gone), (nm, .mat 0 (xs ++ ys))] := by
  obtain ⟨i, z, h1, h2, h3, h4, h5, h6, h7⟩ := elemTy_some hty
  obtain ⟨C, hC, hO⟩ := ok.obj id _ hid
  obtain ⟨Cj, hCj, hOj⟩ := ok.obj jd _ hjd
  obtain ⟨a1, a2, a3, a4, olds, a5, a6, a7⟩ := mat_facts hO
  obtain ⟨b1, b2, b3, b4, news, b5, b6, b7⟩ := mat_facts hOj
  have ho := rd_mat hC hb a5 a1 a2 (heads_one a5 a6) a7
  have hn := rd_mat hCj hx b5 b1 b2 (heads_one b5 b6) b7
  have hlz : (xs ++ ys).length = xs.length + ys.length := List.length_append
  have hone := heads_one b5 b6
  have hall : ∀ k (h : k < (xs ++ ys).length), RowF M.H (xs ++ ys)[k] (C.rows ++ Cj.rows)[k]? (olds ++ news)[k]? := by
    intro k hk
    by_cases hlt : k < xs.length
    · rw [List.getElem_append_left hlt, List.getElem?_append_left (by omega), List.getElem?_append_left (by omega)]
      exact a6 k hlt
    · rw [List.getElem_append_right (by omega), List.getElem?_append_right (by omega), List.getElem?_append_right (by omega), a3, a5]
      exact b6 _ (by omega)
  obtain ⟨C', hC', A, sCap, rfl, hSl⟩ := hb
  rw [hC] at hC'; cases hC'
  rw [a1] at ho hSl
  have hsz1 : i.size = 1 := h3
  have hz1 : z.cells.size = 1 := h7
  by_cases hroom' : xs.length + ys.length ≤ sCap
  · cases hB : C.blk with
    | none =>
      rw [hB] at hSl
      obtain ⟨rfl, h0, rfl⟩ := hSl
      have hr := append_room (P := P) (w := w) (A := none) (sLen := xs.length) (sCap := 0) T hu h1 hsz1 (by rw [← hM]; exact hn) hroom' w rfl
      rw [← hlz] at hr
      have hnil : xs ++ ys = [] := List.eq_nil_of_length_eq_zero (by omega)
      rw [a1]
      refine mat_join (C' := ⟨none, (xs ++ ys).length, 1, 0, C.rows ++ Cj.rows⟩) (H' := M.H) ok hM hid hjd hne hC hCj hnm (Nat.le_refl _) (fun _ _ _ => rfl) (fun _ _ => rfl) rfl rfl rfl rfl (fun B hB => by cases hB) hnil ⟨none, 0, rfl, rfl, (by show (xs ++ ys).length = 0; omega), rfl⟩ ⟨hM.symm, rfl, rfl, rfl⟩ hr
    | some B =>
      rw [hB] at hSl a7
      obtain ⟨hc, a, rfl, ha, hs⟩ := hSl
      obtain ⟨vals, ev, k5, k6, k7⟩ := a7
      rw [Nat.zero_mul] at ha
      rw [Nat.zero_add, a2, Nat.mul_one] at hs
      have hbs : bsize M.H B = vals.size := by simp only [bsize, k5]
      rw [hbs] at hs
      have hwB : w.heap[B]? = some (.cells vals ev (0, 0)) := by rw [← hM]; exact k5
      by_cases h0 : sCap = 0
      · have hr := append_room (P := P) (w := w) (A := some ⟨B, a, none⟩) (sLen := xs.length) (sCap := sCap) T hu h1 hsz1 (by rw [← hM]; exact hn) hroom' w (by
          have : news = [] := List.eq_nil_of_length_eq_zero (by omega)
          rw [this]; rfl)
        rw [← hlz] at hr
        have hnil : xs ++ ys = [] := List.eq_nil_of_length_eq_zero (by omega)
        rw [a1]
        refine mat_join (C' := ⟨some B, (xs ++ ys).length, 1, 0, C.rows ++ Cj.rows⟩) (H' := M.H) ok hM hid hjd hne hC hCj hnm (Nat.le_refl _) (fun _ _ _ => rfl) (fun _ _ => rfl) rfl rfl rfl rfl (fun B' hB' => .inr (by cases hB'; exact hB))
          ⟨vals, ev, k5, by rw [hnil]; simp, fun k hk => by rw [hnil] at hk; simp at hk⟩ ⟨_, sCap, rfl, (by show (xs ++ ys).length ≤ sCap; omega), a, rfl, .inl h0, by rw [h0]; simp⟩ ⟨hM.symm, rfl, rfl, rfl⟩ hr
      · have ha0 : a = 0 := by rcases ha with ha | ha <;> omega
        subst ha0
        have hfit : xs.length + news.length ≤ vals.size := by omega
        have hst := run_storeCells_at (P := P) B xs.length ev news 0 vals w hwB (by simpa using hfit) (fun v hv => one1_one' (hone v hv))
        simp only [Nat.add_zero] at hst
        have hr := append_room (P := P) (w := w) (A := some ⟨B, 0, none⟩) (sLen := xs.length) (sCap := sCap) T hu h1 hsz1 (by rw [← hM]; exact hn) hroom' (w.setRow B (putRow vals xs.length news))
          (by show (storeCells (Addr.add ⟨B, 0, none⟩ (xs.length * 1)) news).run P w = _; rw [Addr.add_lit, Nat.zero_add, Nat.mul_one]; exact hst)
        rw [← hlz] at hr
        obtain ⟨f1, f2, f3, f4⟩ := setRow_facts hwB (new := putRow vals xs.length news) (putRow_size hfit)
        rw [a1]
        refine mat_join (C' := ⟨some B, (xs ++ ys).length, 1, 0, C.rows ++ Cj.rows⟩) (H' := (w.setRow B (putRow vals xs.length news)).heap) ok hM hid hjd hne hC hCj hnm (by rw [hM, f1]; exact Nat.le_refl _) (fun b hb hn => by rw [hM]; exact f3 b fun e => hn (e ▸ hB))
          (fun b _ => by rw [hM]; exact f4 b) rfl rfl rfl rfl (fun B' hB' => .inr (by cases hB'; exact hB)) ⟨_, ev, f2, by rw [putRow_size hfit]; omega, fun k hk => ?_⟩ ⟨_, sCap, rfl, (by show (xs ++ ys).length ≤ sCap; omega), 0, rfl, .inr (by simp), by show (0 + sCap) * 1 ≤ bsize _ B; rw [f4, ← hM, hbs]; omega⟩ ⟨rfl, rfl, rfl, rfl⟩ hr
        have := hall k hk
        rw [putRow_get hfit]
        by_cases hlt : k < xs.length
        · rw [if_pos hlt, k7 k hlt]
          rw [List.getElem?_append_left (l₁ := olds) (by omega)] at this
          exact this
        · rw [if_neg hlt, if_pos (by omega)]
          rw [List.getElem?_append_right (l₁ := olds) (by omega), a5] at this
          exact this
  · have hr := append_grow (P := P) (w := w) T hu h1 h2 hsz1 (by rw [← hM]; exact ho) (by rw [← hM]; exact hn) (by omega) (by rw [h6] at hroom; exact hroom.1) hroom.2
    have hge := grownCap_ge w (xs.length + ys.length) sCap e
    rw [← hlz] at hr hge
    generalize hus : olds.toArray ++ news.toArray ++ Builtin.zeroCells z.cells (grownCap w (xs ++ ys).length sCap e - (xs ++ ys).length) = us at hr
    have hus1 : us.size = grownCap w (xs ++ ys).length sCap e := by
      rw [← hus]
      simp only [Array.size_append, List.size_toArray, size_zeros, hz1]
      omega
    have hus2 : ∀ k, k < (xs ++ ys).length → us[k]? = (olds ++ news)[k]? := fun k hk => by
      rw [← hus, Array.getElem?_append_left (by simp; omega)]
      simp
    have hbz : ∀ us : Array Value, bsize (M.H.push (.cells us e)) M.H.size = us.size := fun us => by simp [bsize]
    rw [a1]
    refine mat_join (C' := ⟨some M.H.size, (xs ++ ys).length, 1, 0, C.rows ++ Cj.rows⟩) (H' := M.H.push (.cells us e)) (w' := w.drew.alloc (.cells us e)) ok hM hid hjd hne hC hCj hnm (by simp) (fun b hb _ => push_lt hb) (fun b hb => bsize_congr (push_lt hb)) rfl rfl rfl rfl
      (fun B' hB' => .inl (by cases hB'; exact ⟨Nat.le_refl _, by simp⟩)) ⟨us, e, push_new, by omega, fun k hk => ?_⟩ ⟨_, _, rfl, hge, 0, by rw [hM], .inr (by simp), (by rw [hbz, hus1]; show (0 + _) * 1 ≤ _; omega)⟩ ⟨(by rw [hM]; rfl), rfl, rfl, rfl⟩ hr
    rw [hus2 k hk]
    exact hall k hk
end Go.Ab
