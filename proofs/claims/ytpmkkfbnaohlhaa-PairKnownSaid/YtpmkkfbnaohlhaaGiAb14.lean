/- copy into a box. -/
import Derived.Test.YtpmkkfbnaohlhaaGiAb13
set_option linter.unusedVariables false
set_option linter.unusedSimpArgs false
namespace Go.Ab

theorem intsOf_rep {M : Mst} : ∀ {cs : List CVal} {ns : List Int}, intsOf cs = some ns → cs = ns.map (.int .i64)
  | [], ns, h => by cases h; rfl
  | .int .i64 n :: l, ns, h => by
    unfold intsOf at h
    split at h
    · rename_i r hr
      cases h
      rw [intsOf_rep (M := M) hr]; rfl
    · cases h

theorem copyInts_eq (xs : List Int) : ∀ (ns : List Int) (i : Nat), copyInts xs i (ns.map (.int .i64)) = (((xs.drop i).take ns.length) ++ ns.drop ((xs.drop i).take ns.length).length).map (.int .i64)
  | [], i => by simp [copyInts]
  | n :: ns, i => by
    simp only [List.map_cons, copyInts, copyInts_eq xs ns (i + 1)]
    by_cases hi : i < xs.length
    · have hb : Nat.blt i xs.length = true := by simpa [Nat.blt_eq] using hi
      rw [hb, List.drop_eq_getElem_cons hi]
      simp only [cond_true, List.length_cons, List.take_succ_cons, List.drop_succ_cons, List.cons_append, List.map_cons]
      rw [show xs.getD i 0 = xs[i] by simp [List.getD, hi]]
    · have hb : Nat.blt i xs.length = false := by
        cases h : Nat.blt i xs.length with
        | false => rfl
        | true => exact absurd (by simpa [Nat.blt_eq] using h) hi
      have e1 : xs.drop i = [] := List.drop_eq_nil_of_le (by omega)
      have e2 : xs.drop (i + 1) = [] := List.drop_eq_nil_of_le (by omega)
      rw [hb, e1, e2]
      simp

theorem copyS_sound {P : Program} {M : Mst} {w : World} (ok : Ok M) (hM : M.H = w.heap) {t e : TypeId} {ts : Array TypeId} {T : TypeId} {d s v : AVal} {u : Upd} {rd rs : Value} (h0 : ts[0]? = some t) (hu : P.underlying t = some (.slice e)) (he : P.cellsOf e = 1)
    (hd : VRep M d rd) (hs : VRep M s rs) (h : Yields (copyS M.h d s) v u) : RunsV P (Builtin.copy_ ts T #[rd, rs]) M w v u := by
  unfold copyS at h
  split at h
  case h_2 => exact h.elim
  rename_i id off n s
  split at h
  case h_2 => exact h.elim
  rename_i cells ys hid hsrc
  split at h
  case h_2 => exact h.elim
  rename_i vs hcut
  split at h
  case h_2 => exact h.elim
  rename_i ns hns
  obtain ⟨_, rfl, rfl⟩ := yields_alt h
  clear h
  obtain ⟨C, B, hC, hB, rfl⟩ := hd
  obtain ⟨C', hC', B', vals, ev, k1, k2, k3, k4, k5⟩ := ok.obj id _ hid
  rw [hC] at hC'; cases hC'
  rw [hB] at k1; cases k1
  obtain ⟨c1, c2, c3⟩ := cutCells_some hcut
  obtain ⟨i, hi⟩ := info_of_cells (P := P) (t := e) (by omega)
  -- the source
  obtain ⟨A, k, rfl, hrd⟩ : ∃ A k, rs = .slice A ys.length k ∧ ∃ news, Rd M.H (.slice A ys.length k) ys.length 1 news ∧ news = ys.map (.int .i64) := by
    split at hsrc
    · cases hsrc
      exact ⟨none, 0, hs, [], ⟨none, 0, rfl, rfl, by simp, rfl⟩, rfl⟩
    · obtain ⟨news, hR, F, hE⟩ := readSl_sound ok hs hsrc rfl
      obtain ⟨A, k, e, hl, r⟩ := hR
      refine ⟨A, k, e, news, ⟨A, k, rfl, hl, r⟩, ?_⟩
      refine List.ext_getElem (by simpa [Ty.size] using hl) fun j h1 h2 => ?_
      have := hE j (by simpa using h2)
      simp only [ERep, Ty.size, Nat.mul_one, Nat.add_zero] at this
      rw [List.getElem?_eq_getElem h1, Option.some.injEq] at this
      rw [this]; simp
  obtain ⟨news, ⟨A', k', e', hl, hone, hrd⟩, hnews⟩ := hrd
  cases e'
  let m := min ys.length n
  have hm : Nat.min ys.length n = m := rfl
  have hfirst : (Builtin.firstCells 1 m (.slice A ys.length k)).run P w = .ok (news.take m).toArray w := by
    have : Rd M.H (.slice A m k) m 1 (news.take m) := by
      refine ⟨A, k, rfl, ?_, fun u hu => hone u (List.mem_of_mem_take hu), ?_⟩
      · rw [List.length_take, hl]; omega
      · cases A with
        | none => have : ys.length = 0 := hrd; omega
        | some a =>
          rcases hrd with h | ⟨h1, h2⟩
          · left; omega
          · refine .inr ⟨h1, fun j u hu => h2 j u ?_⟩
            rw [List.getElem?_take] at hu
            split at hu
            · exact hu
            · cases hu
    have := this.first (P := P) w hM.symm
    cases A <;> exact this
  have hbw : w.heap[B]? = some (.cells vals ev (0, 0)) := by rw [← hM]; exact k3
  have hkl := k4.length
  have hnl : (news.take m).length = m := by rw [List.length_take, hl]; omega
  have hfit : off + (news.take m).length ≤ vals.size := by
    rw [hnl]; simp at hkl; omega
  have hst := run_storeCells_at (P := P) B off ev (news.take m) 0 vals w hbw (by simpa using hfit) (fun v hv => one1_one' (hone v (List.mem_of_mem_take hv)))
  simp only [Nat.add_zero] at hst
  have hrun : (Builtin.copy_ ts T #[.slice (some ⟨B, off, none⟩) n n, .slice A ys.length k]).run P w = .ok (.int .i64 (m : Nat)) (w.setRow B (putRow vals off (news.take m))) := by
    simp [Builtin.copy_, h0, run_underlying hu, Builtin.lenOf, run_size w hi, he, hm, hfirst, goInt]
    have e : (storeCells ⟨B, off, none⟩ (news.take m)).run P w = .ok () (w.setRow B (putRow vals off (news.take m))) := hst
    rw [e]; rfl
  obtain ⟨f1, f2, f3, f4⟩ := setRow_facts hbw (new := putRow vals off (news.take m)) (putRow_size hfit)
  have hH : ∀ b, b ∉ C.fp → (w.setRow B (putRow vals off (news.take m))).heap[b]? = M.H[b]? := fun b hbn => by
    rw [hM]; exact f3 b fun e => hbn (e ▸ fp_blk hB)
  have hbs : ∀ b, b < M.H.size → bsize (w.setRow B (putRow vals off (news.take m))).heap b = bsize M.H b := fun b _ => by rw [hM]; exact f4 b
  let o' : Obj := .box true (cells.take off ++ copyInts ys 0 vs ++ cells.drop (off + n))
  have x := Mst.write_ext ok hid rfl hC C.le_refl hH hbs o'
  have hcells : cells.take off ++ copyInts ys 0 vs ++ cells.drop (off + n) = cells.take off ++ (ys.take m).map (.int .i64) ++ cells.drop (off + ((ys.take m).map (CVal.int .i64)).length) := by
    have hv := intsOf_rep (M := M) hns
    have hnn : ns.length = n := by rw [← c3, hv]; simp
    have htake : (ys.drop 0).take ns.length = ys.take m := by
      rw [List.drop_zero, hnn]
      by_cases h : ys.length ≤ n
      · rw [List.take_of_length_le h, List.take_of_length_le (by omega)]
      · rw [show m = n by omega]
    rw [hv, copyInts_eq, htake, List.map_append, List.map_drop, ← hv, List.append_assoc, List.append_assoc, List.append_assoc]
    congr 2
    have hlm : (ys.take m).length = m := by rw [List.length_take]; omega
    have e1 : cells.drop (off + n) = (cells.drop (off + m)).drop (n - m) := by
      rw [List.drop_drop]; congr 1; omega
    rw [List.length_map, hlm, c2, List.drop_take, List.drop_drop, e1, List.take_append_drop]
  have := Mst.write_ok ok hid rfl hC C.le_refl (fun _ h => h) (by rw [hM]; exact f1) hH hbs (o' := o') (by
    refine ⟨B, _, ev, hB, k2, f2, ?_, fun h => (by cases h)⟩
    rw [hcells]
    refine put_rep x k4 (us := news.take m) ?_ (by simpa using hfit)
    rw [hnews]
    refine All2.of_get (by simp) fun j h1 h2 => ?_
    simp [CRep])
  exact ⟨_, _, _, hrun, rfl, rfl, rfl, rfl, rfl, this.1, this.2, rfl⟩

/-! ### Maps -/
theorem boolMap_some {P : Program} {t : TypeId} (h : boolMap P t = true) : ∃ k e i, P.underlying t = some (.map k e) ∧ P.underlying k = some (.int .i64) ∧ P.info? e = some i ∧ i.zero = some (.bool false) := by
  unfold boolMap at h
  split at h
  · rename_i k e hu
    split at h
    · rename_i hk hz
      obtain ⟨i, h1, h2⟩ := Option.bind_eq_some_iff.1 hz
      exact ⟨k, e, i, hu, hk, h1, h2⟩
    · cases h
  · cases h

theorem makeMapS_sound {P : Program} {M : Mst} {w : World} (ok : Ok M) (hM : M.H = w.heap) {nm : Nat} {t : TypeId} {v : AVal} {u : Upd} (h : Yields (makeMapS P nm M.h t) v u) : RunsV P (Instr.makeMap t none) M w v u := by
  unfold makeMapS at h
  split at h
  case h_2 => exact h.elim
  rename_i hnm
  obtain ⟨_, h⟩ := yields_if h
  obtain ⟨_, rfl, rfl⟩ := yields_alt h
  let C : Conc := ⟨some M.H.size, 0, 0, 0, []⟩
  have := Mst.new_ok ok hnm (.imap []) C (.map #[] 0) (by simp [C, Conc.fp]) (by
    refine ⟨M.H.size, #[], 0, rfl, rfl, push_new, fun e he => (by simp at he), fun n => rfl⟩)
  refine ⟨.map (some w.heap.size), w.alloc (.map #[] 0), _, ?_, rfl, rfl, rfl, ?_, rfl, this.1, this.2, C, M.H.size, κset_same _ _ _, rfl, by rw [hM]⟩
  · simp only [Instr.makeMap, Sem.run_bind, Sem.run_pure]; rfl
  · show M.H.push _ = w.heap.push _
    rw [hM]

theorem findNow_int {n : Int} : ∀ {es : List MapEntry} {i : Nat}, (∀ e ∈ es, ∃ m b, e.key = .int .i64 m ∧ e.val = .bool b) →
    (mapFind n es = none ∧ Instr.findNow (.int .i64) (.int .i64 n) es i = some none) ∨
    (∃ j b e, mapFind n es = some (.bool b) ∧ Instr.findNow (.int .i64) (.int .i64 n) es i = some (some (i + j, .bool b)) ∧ es[j]? = some e ∧ e.key = .int .i64 n ∧
      ∀ f : MapEntry → MapEntry, (∀ e, (f e).key = .int .i64 n) → mapFind n (es.modify j f) = some (f e).val ∧ (∀ m, m ≠ n → mapFind m (es.modify j f) = mapFind m es) ∧ ∀ e' ∈ es.modify j f, e' ∈ es ∨ e' = f e)
  | [], i, _ => .inl ⟨rfl, rfl⟩
  | e :: es, i, h => by
    obtain ⟨m, b, h1, h2⟩ := h e (List.mem_cons_self ..)
    by_cases hm : n = m
    · subst hm
      refine .inr ⟨0, b, e, ?_, ?_, rfl, h1, fun f hf => ⟨?_, fun m hne => ?_, fun e' he => ?_⟩⟩
      · simp [mapFind, h1, h2]
      · simp [Instr.findNow, Instr.sameNow, h1, h2]
      · simp [mapFind, hf]
      · simp [mapFind, hf, h1, hne]
      · simp only [List.modify_zero_cons, List.mem_cons] at he ⊢
        rcases he with h | h
        · exact .inr h
        · exact .inl (.inr h)
    · have hs : Instr.findNow (.int .i64) (.int .i64 n) (e :: es) i = Instr.findNow (.int .i64) (.int .i64 n) es (i + 1) := by
        have hb : (n == m) = false := by simp [hm]
        simp [Instr.findNow, Instr.sameNow, h1, hb]
      have hf : mapFind n (e :: es) = mapFind n es := by simp [mapFind, h1, hm]
      rcases findNow_int (es := es) (i := i + 1) (fun e he => h e (List.mem_cons_of_mem _ he)) with ⟨k1, k2⟩ | ⟨j, b', e', k1, k2, k3, k4, k5⟩
      · exact .inl ⟨hf.trans k1, hs.trans k2⟩
      · refine .inr ⟨j + 1, b', e', hf.trans k1, by rw [hs, k2]; congr 3; omega, by simpa using k3, k4, fun f hfk => ?_⟩
        obtain ⟨q1, q2, q3⟩ := k5 f hfk
        refine ⟨by rw [List.modify_succ_cons]; simp [mapFind, h1, hm, q1], fun m' hne => ?_, fun e'' he => ?_⟩
        · rw [List.modify_succ_cons]
          simp only [mapFind, h1, q2 m' hne]
        · rw [List.modify_succ_cons, List.mem_cons] at he
          rcases he with he | he
          · exact .inl (by rw [he]; exact List.mem_cons_self ..)
          · exact (q3 e'' he).imp (List.mem_cons_of_mem _) fun h => h

theorem getObj_map {P : Program} {w : World} {r : Nat} {es : Array MapEntry} {ck : Nat} (h : w.heap[r]? = some (.map es ck)) : (getObj r).run P w = .ok (.map es ck) w := by
  simp [getObj, Sem.run, h]
theorem setObj_map {P : Program} {w : World} {r : Nat} {es : Array MapEntry} {ck : Nat} (o : Go.Obj) (h : w.heap[r]? = some (.map es ck)) : (setObj r o).run P w = .ok () { w with heap := w.heap.setIfInBounds r o } := by
  simp [setObj, Sem.run, h]

theorem checkKey_int {P : Program} {w : World} {k : TypeId} {b : Bool} {n : Int} (h : P.underlying k = some (.int .i64)) : (Instr.checkKey b 10000 k (.int .i64 n)).run P w = .ok () w := by
  unfold Instr.checkKey
  simp [run_underlying h]

theorem findKey_int {P : Program} {w : World} {k : TypeId} {n : Int} {es : List MapEntry} {r : Option (Nat × Value)} (h : P.underlying k = some (.int .i64)) (hf : Instr.findNow (.int .i64) (.int .i64 n) es 0 = some r) : (Instr.findKey k (.int .i64 n) es).run P w = .ok r w := by
  unfold Instr.findKey
  simp [run_underlying h, hf]

theorem lookupS_sound {P : Program} {M : Mst} {w : World} (ok : Ok M) (hM : M.H = w.heap) {t : TypeId} {x i v : AVal} {u : Upd} {rx ri : Value} (hx : VRep M x rx) (hi : VRep M i ri) (h : Yields (lookupS P M.h t x i) v u) : RunsV P (Instr.lookup t rx ri false) M w v u := by
  unfold lookupS at h
  split at h
  case h_2 => exact h.elim
  rename_i id n
  split at h
  case h_2 => exact h.elim
  rename_i kvs hid
  obtain ⟨hb, h⟩ := yields_if h
  obtain ⟨rfl, rfl⟩ := yields_one h
  obtain ⟨k, e, inf, h1, h2, h3, h4⟩ := boolMap_some hb
  obtain ⟨C, B, hC, hB, rfl⟩ := hx
  obtain ⟨C', hC', B', es, ck, k1, k2, k3, k4, k5⟩ := ok.obj id _ hid
  rw [hC] at hC'; cases hC'
  rw [hB] at k1; cases k1
  have hri : ri = .int .i64 n := hi
  subst hri
  rw [hM] at k3
  refine .pure (rv := .bool ((kvs.lookup n).getD false)) ok hM ?_ rfl
  have h5 := k5 n
  unfold Instr.lookup
  rcases findNow_int (n := n) (i := 0) k4 with ⟨q1, q2⟩ | ⟨j, b, e', q1, q2, q3, q4, q5⟩
  · rw [q1] at h5
    have : kvs.lookup n = none := by cases hl : kvs.lookup n with | none => rfl | some b => rw [hl] at h5; cases h5
    simp [run_underlying h1, getObj_map k3, checkKey_int h2, findKey_int h2 q2, zeroValue, typeInfo, h3, h4, this]
  · rw [q1] at h5
    have : kvs.lookup n = some b := by cases hl : kvs.lookup n with | none => rw [hl] at h5; cases h5 | some b => rw [hl] at h5; cases h5; rfl
    simp [run_underlying h1, getObj_map k3, checkKey_int h2, findKey_int h2 q2, this]

theorem mapFind_push {n : Int} {b : Bool} {c : Nat} : ∀ {es : List MapEntry}, mapFind n es = none → ∀ m, mapFind m (es ++ [⟨.int .i64 n, .bool b, c⟩]) = if m = n then some (.bool b) else mapFind m es
  | [], _, m => by simp [mapFind]
  | e :: es, h, m => by
    rw [List.cons_append]
    have hstep : ∀ (m : Int) (l : List MapEntry), mapFind m (e :: l) = match e.key with | .int .i64 k => if m = k then some e.val else mapFind m l | _ => mapFind m l := fun m l => rfl
    rw [hstep] at h
    rw [hstep, hstep]
    split at h
    · rename_i k hk
      split at h
      · cases h
      · rename_i hne
        by_cases hm : m = k
        · subst hm
          rw [if_pos rfl, if_neg (fun e => hne e.symm), if_pos rfl]
        · rw [if_neg hm, mapFind_push h m, if_neg hm]
    · exact mapFind_push h m

theorem mapUpdateS_sound {P : Program} {M : Mst} {w : World} (ok : Ok M) (hM : M.H = w.heap) {t : TypeId} {x i y v : AVal} {u : Upd} {rx ri ry : Value} (hx : VRep M x rx) (hi : VRep M i ri) (hy : VRep M y ry) (h : Yields (mapUpdateS P M.h t x i y) v u) :
    v = .undef ∧ RunsU P (Instr.mapUpdate t rx ri ry) M w u := by
  unfold mapUpdateS at h
  split at h
  case h_2 => exact h.elim
  rename_i id n b
  split at h
  case h_2 => exact h.elim
  rename_i kvs hid
  obtain ⟨hb, h⟩ := yields_if h
  obtain ⟨_, rfl, rfl⟩ := yields_alt h
  obtain ⟨k, e, inf, h1, h2, h3, h4⟩ := boolMap_some hb
  obtain ⟨C, B, hC, hB, rfl⟩ := hx
  obtain ⟨C', hC', B', es, ck, k1, k2, k3, k4, k5⟩ := ok.obj id _ hid
  rw [hC] at hC'; cases hC'
  rw [hB] at k1; cases k1
  have hri : ri = .int .i64 n := hi
  subst hri
  have hry : ry = .bool b := hy
  subst hry
  have k3' := k3
  rw [hM] at k3
  have hlt : B < w.heap.size := (Array.getElem?_eq_some_iff.1 k3).1
  -- what is written
  have write : ∀ (es' : Array MapEntry) (ck' : Nat), (Instr.mapUpdate t (.map (some B)) (.int .i64 n) (.bool b)).run P w = .ok () { w with heap := w.heap.setIfInBounds B (.map es' ck') } →
      (∀ e ∈ es'.toList, ∃ m b, e.key = .int .i64 m ∧ e.val = .bool b) → (∀ m, mapFind m es'.toList = if m = n then some (.bool b) else mapFind m es.toList) → RunsU P (Instr.mapUpdate t (.map (some B)) (.int .i64 n) (.bool b)) M w [(id, .imap ((n, b) :: kvs))] := by
    intro es' ck' hr he hf
    have hat : ∀ c, (w.heap.setIfInBounds B (.map es' ck'))[c]? = if c = B then some (.map es' ck') else w.heap[c]? := fun c => by
      rw [Array.getElem?_setIfInBounds]
      by_cases hc : B = c
      · subst hc; simp [hlt]
      · rw [if_neg hc, if_neg (fun e => hc e.symm)]
    have hH : ∀ c, c ∉ C.fp → (w.heap.setIfInBounds B (.map es' ck'))[c]? = M.H[c]? := fun c hc => by
      rw [hat, if_neg (fun (e : c = B) => hc (by rw [e]; exact fp_blk hB)), hM]
    have hbs : ∀ c, c < M.H.size → bsize (w.heap.setIfInBounds B (.map es' ck')) c = bsize M.H c := fun c _ => by
      unfold bsize
      rw [hat, hM]
      by_cases hc : c = B
      · subst hc; rw [if_pos rfl, k3]
      · rw [if_neg hc]
    have := Mst.write_ok ok hid rfl hC C.le_refl (fun _ h => h) (by rw [hM]; simp) hH hbs (o' := .imap ((n, b) :: kvs)) (by
      refine ⟨B, es', ck', hB, k2, ?_, he, fun m => ?_⟩
      · show (w.heap.setIfInBounds B (.map es' ck'))[B]? = _
        rw [hat, if_pos rfl]
      · rw [hf m, List.lookup_cons]
        by_cases hm : m = n
        · subst hm; simp
        · have : (m == n) = false := by simp [hm]
          rw [if_neg hm, this, k5 m])
    exact ⟨_, _, hr, rfl, rfl, rfl, rfl, rfl, this.1, this.2⟩
  refine ⟨rfl, ?_⟩
  rcases findNow_int (n := n) (i := 0) k4 with ⟨q1, q2⟩ | ⟨j, b', e', q1, q2, q3, q4, q5⟩
  · refine write (es.push ⟨.int .i64 n, .bool b, ck⟩) (ck + 1) ?_ (fun e he => ?_) fun m => ?_
    · unfold Instr.mapUpdate
      simp [run_underlying h1, getObj_map k3, checkKey_int h2, findKey_int h2 q2, setObj_map _ k3]
    · rw [Array.toList_push, List.mem_append, List.mem_singleton] at he
      rcases he with he | he
      · exact k4 e he
      · exact ⟨n, b, by rw [he], by rw [he]⟩
    · rw [Array.toList_push]
      exact mapFind_push q1 m
  · obtain ⟨r1, r2, r3⟩ := q5 (fun e => { e with key := .int .i64 n, val := .bool b }) fun _ => rfl
    refine write (es.modify j fun e => { e with key := .int .i64 n, val := .bool b }) ck ?_ (fun e he => ?_) fun m => ?_
    · have hkey : ((es[j]?).map (·.key)).getD (.int .i64 n) = .int .i64 n := by
        have : es[j]? = some e' := by simpa using q3
        rw [this]; exact q4
      unfold Instr.mapUpdate
      rw [Nat.zero_add] at q2
      simp only [Array.getElem?_toList] at q3
      simp [run_underlying h1, getObj_map k3, checkKey_int h2, findKey_int h2 q2, setObj_map _ k3, q3, q4, Instr.keyThatStays, Instr.sameBits]
    · rw [Array.toList_modify] at he
      rcases r3 e he with he | he
      · exact k4 e he
      · exact ⟨n, b, by rw [he], by rw [he]⟩
    · rw [Array.toList_modify]
      by_cases hm : m = n
      · subst hm; rw [if_pos rfl]; exact r1
      · rw [if_neg hm]; exact r2 m hm
end Go.Ab
