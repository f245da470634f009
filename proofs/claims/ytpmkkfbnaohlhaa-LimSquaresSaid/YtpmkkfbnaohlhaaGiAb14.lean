/- copy into a box. -/
import Derived.Test.YtpmkkfbnaohlhaaGiAb13
set_option linter.unusedVariables false
set_option linter.unusedSimpArgs false
namespace Go.Ab

theorem intsOf_rep {M : Mst} : ∀ {cs : List CVal} {ns : List Int}, intsOf cs = some ns → cs = ns.map (.int .i64)
  | [], ns, h => by cases h; rfl
  | .int .i64 n :: l, ns, h => by
    unfold intsOf at h
    split at h
    · rename_i r hr
      cases h
      rw [intsOf_rep (M := M) hr]; rfl
    · cases h

theorem copyInts_eq (xs : List Int) : ∀ (ns : List Int) (i : Nat), copyInts xs i (ns.map (.int .i64)) = (((xs.drop i).take ns.length) ++ ns.drop ((xs.drop i).take ns.length).length).map (.int .i64)
  | [], i => by simp [copyInts]
  | n :: ns, i => by
    simp only [List.map_cons, copyInts, copyInts_eq xs ns (i + 1)]
    by_cases hi : i < xs.length
    · have hb : Nat.blt i xs.length = true := by simpa [Nat.blt_eq] using hi
      rw [hb, List.drop_eq_getElem_cons hi]
      simp only [cond_true, List.length_cons, List.take_succ_cons, List.drop_succ_cons, List.cons_append, List.map_cons]
      rw [show xs.getD i 0 = xs[i] by simp [List.getD, hi]]
    · have hb : Nat.blt i xs.length = false := by
        cases h : Nat.blt i xs.length with
        | false => rfl
        | true => exact absurd (by simpa [Nat.blt_eq] using h) hi
      have e1 : xs.drop i = [] := List.drop_eq_nil_of_le (by omega)
      have e2 : xs.drop (i + 1) = [] := List.drop_eq_nil_of_le (by omega)
      rw [hb, e1, e2]
      simp

theorem copyS_sound {P : Program} {M : Mst} {w : World} (ok : Ok M) (hM : M.H = w.heap) {t e : TypeId} {ts : Array TypeId} {T : TypeId} {d s v : AVal} {u : Upd} {rd rs : Value} (h0 : ts[0]? = some t) (hu : P.underlying t = some (.slice e)) (he : P.cellsOf e = 1)
    (hd : VRep M d rd) (hs : VRep M s rs) (h : Yields (copyS M.h d s) v u) : RunsV P (Builtin.copy_ ts T #[rd, rs]) M w v u := by
  unfold copyS at h
  split at h
  case h_2 => exact h.elim
  rename_i id off n s
  split at h
  case h_2 => exact h.elim
  rename_i cells ys hid hsrc
  split at h
  case h_2 => exact h.elim
  rename_i vs hcut
  split at h
  case h_2 => exact h.elim
  rename_i ns hns
  obtain ⟨_, rfl, rfl⟩ := yields_alt h
  clear h
  obtain ⟨C, B, hC, hB, rfl⟩ := hd
  obtain ⟨C', hC', B', vals, ev, k1, k2, k3, k4, k5⟩ := ok.obj id _ hid
  rw [hC] at hC'; cases hC'
  rw [hB] at k1; cases k1
  obtain ⟨c1, c2, c3⟩ := cutCells_some hcut
  obtain ⟨i, hi⟩ := info_of_cells (P := P) (t := e) (by omega)
  -- the source
  obtain ⟨A, k, rfl, hrd⟩ : ∃ A k, rs = .slice A ys.length k ∧ ∃ news, Rd M.H (.slice A ys.length k) ys.length 1 news ∧ news = ys.map (.int .i64) := by
    split at hsrc
    · cases hsrc
      exact ⟨none, 0, hs, [], ⟨none, 0, rfl, rfl, by simp, rfl⟩, rfl⟩
    · obtain ⟨news, hR, F, hE⟩ := readSl_sound ok hs hsrc rfl
      obtain ⟨A, k, e, hl, r⟩ := hR
      refine ⟨A, k, e, news, ⟨A, k, rfl, hl, r⟩, ?_⟩
      refine List.ext_getElem (by simpa [Ty.size] using hl) fun j h1 h2 => ?_
      have := hE j (by simpa using h2)
      simp only [ERep, Ty.size, Nat.mul_one, Nat.add_zero] at this
      rw [List.getElem?_eq_getElem h1, Option.some.injEq] at this
      rw [this]; simp
  obtain ⟨news, ⟨A', k', e', hl, hone, hrd⟩, hnews⟩ := hrd
  cases e'
  let m := min ys.length n
  have hm : Nat.min ys.length n = m := rfl
  have hfirst : (Builtin.firstCells 1 m (.slice A ys.length k)).run P w = .ok (news.take m).toArray w := by
    have : Rd M.H (.slice A m k) m 1 (news.take m) := by
      refine ⟨A, k, rfl, ?_, fun u hu => hone u (List.mem_of_mem_take hu), ?_⟩
      · rw [List.length_take, hl]; omega
      · cases A with
        | none => have : ys.length = 0 := hrd; omega
        | some a =>
          rcases hrd with h | ⟨h1, h2⟩
          · left; omega
          · refine .inr ⟨h1, fun j u hu => h2 j u ?_⟩
            rw [List.getElem?_take] at hu
            split at hu
            · exact hu
            · cases hu
    have := this.first (P := P) w hM.symm
    cases A <;> exact this
  have hbw : w.heap[B]? = some (.cells vals ev (0, 0)) := by rw [← hM]; exact k3
  have hkl := k4.length
  have hnl : (news.take m).length = m := by rw [List.length_take, hl]; omega
  have hfit : off + (news.take m).length ≤ vals.size := by
    rw [hnl]; simp at hkl; omega
  have hst := run_storeCells_at (P := P) B off ev (news.take m) 0 vals w hbw (by simpa using hfit) (fun v hv => one1_one' (hone v (List.mem_of_mem_take hv)))
  simp only [Nat.add_zero] at hst
  have hrun : (Builtin.copy_ ts T #[.slice (some ⟨B, off, none⟩) n n, .slice A ys.length k]).run P w = .ok (.int .i64 (m : Nat)) (w.setRow B (putRow vals off (news.take m))) := by
    simp [Builtin.copy_, h0, run_underlying hu, Builtin.lenOf, run_size w hi, he, hm, hfirst, goInt]
    have e : (storeCells ⟨B, off, none⟩ (news.take m)).run P w = .ok () (w.setRow B (putRow vals off (news.take m))) := hst
    rw [e]; rfl
  obtain ⟨f1, f2, f3, f4⟩ := setRow_facts hbw (new := putRow vals off (news.take m)) (putRow_size hfit)
  have hH : ∀ b, b ∉ C.fp → (w.setRow B (putRow vals off (news.take m))).heap[b]? = M.H[b]? := fun b hbn => by
    rw [hM]; exact f3 b fun e => hbn (e ▸ fp_blk hB)
  have hbs : ∀ b, b < M.H.size → bsize (w.setRow B (putRow vals off (news.take m))).heap b = bsize M.H b := fun b _ => by rw [hM]; exact f4 b
  let o' : Obj := .box true (cells.take off ++ copyInts ys 0 vs ++ cells.drop (off + n))
  have x := Mst.write_ext ok hid rfl hC C.le_refl hH hbs o'
  have hcells : cells.take off ++ copyInts ys 0 vs ++ cells.drop (off + n) = cells.take off ++ (ys.take m).map (.int .i64) ++ cells.drop (off + ((ys.take m).map (CVal.int .i64)).length) := by
    have hv := intsOf_rep (M := M) hns
    have hnn : ns.length = n := by rw [← c3, hv]; simp
    have htake : (ys.drop 0).take ns.length = ys.take m := by
      rw [List.drop_zero, hnn]
      by_cases h : ys.length ≤ n
      · rw [List.take_of_length_le h, List.take_of_length_le (by omega)]
      · rw [show m = n by omega]
    rw [hv, copyInts_eq, htake, List.map_append, List.map_drop, ← hv, List.append_assoc, List.append_assoc, List.append_assoc]
    congr 2
    have hlm : (ys.take m).length = m := by rw [List.length_take]; omega
    have e1 : cells.drop (off + n) = (cells.drop (off + m)).drop (n - m) := by
      rw [List.drop_drop]; congr 1; omega
    rw [List.length_map, hlm, c2, List.drop_take, List.drop_drop, e1, List.take_append_drop]
  have := Mst.write_ok ok hid rfl hC C.le_refl (fun _ h => h) (by rw [hM]; exact f1) hH hbs (o' := o') (by
    refine ⟨B, _, ev, hB, k2, f2, ?_, fun h => (by cases h)⟩
    rw [hcells]
    refine put_rep x k4 (us := news.take m) ?_ (by simpa using hfit)
    rw [hnews]
    refine All2.of_get (by simp) fun j h1 h2 => ?_
    simp [CRep])
  exact ⟨_, _, _, hrun, rfl, rfl, rfl, rfl, rfl, this.1, this.2, rfl⟩
end Go.Ab
