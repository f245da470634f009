/- Values and rows that are put together. -/
import Derived.Test.YtpmkkfbnaohlhaaGiAb8
set_option linter.unusedVariables false
set_option linter.unusedSimpArgs false
namespace Go.Ab

theorem fold_put (off : Nat) : ∀ (l : List Value) (k : Nat) (cells : Array Value), off + k + l.length ≤ cells.size →
    (l.zipIdx k).foldl (fun (cs : Array Value) (p : Value × Nat) => cs.setIfInBounds (off + p.2) p.1) cells = putRow cells (off + k) l
  | [], k, cells, h => by
    apply Array.ext_getElem?
    intro j
    rw [putRow_get h]
    simp only [List.zipIdx_nil, List.foldl_nil, List.length_nil]
    split
    · rfl
    · rw [if_neg (by omega)]
  | c :: l, k, cells, h => by
    simp only [List.length_cons] at h
    simp only [List.zipIdx_cons, List.foldl_cons]
    rw [fold_put off l (k + 1) _ (by rw [Array.size_setIfInBounds]; omega)]
    apply Array.ext_getElem?
    intro j
    rw [putRow_get (by rw [Array.size_setIfInBounds]; omega), putRow_get (by simp only [List.length_cons]; omega)]
    simp only [List.length_cons]
    by_cases e : j = off + k
    · subst e
      rw [if_pos (by omega), if_neg (by omega), if_pos (by omega)]
      simp [show off + k < cells.size by omega]
    · have e2 : (cells.setIfInBounds (off + k) c)[j]? = cells[j]? := by rw [Array.getElem?_setIfInBounds_ne (Ne.symm e)]
      simp only [e2]
      by_cases h1 : j < off + k
      · rw [if_pos (by omega), if_pos h1]
      · rw [if_neg (by omega), if_neg h1]
        by_cases h2 : j < off + (k + 1) + l.length
        · rw [if_pos h2, if_pos (by omega)]
          obtain ⟨m, hm⟩ : ∃ m, j - (off + k) = m + 1 := ⟨j - (off + k) - 1, by omega⟩
          rw [hm, List.getElem?_cons_succ]
          congr 1; omega
        · rw [if_neg h2, if_neg (by omega)]

theorem fill_cons (place : Nat → Option (Nat × Nat)) (cells : Array Value) (i : Nat) (v : Value) (rest : List (Nat × Value)) (off size : Nat) (h : place i = some (off, size)) (h1 : v.cells.size = size) (h2 : off + size ≤ cells.size) :
    Instr.fill place cells ((i, v) :: rest) = Instr.fill place (putRow cells off v.cells.toList) rest := by
  have hc : ¬ (v.cells.size ≠ size || decide (off + v.cells.size > cells.size)) = true := by
    simp only [ne_eq, bne_iff_ne, Bool.or_eq_true, decide_eq_true_eq, not_or]
    exact ⟨fun hn => hn h1, by omega⟩
  simp only [Instr.fill, h]
  rw [if_neg hc]
  congr 1
  rw [← Array.foldl_toList, Array.toList_zipIdx]
  have := fold_put off v.cells.toList 0 cells (by simp; omega)
  rw [Nat.add_zero] at this
  exact this

def PRep (M : Mst) : (Nat × AVal) → (Nat × Value) → Prop := fun p q => p.1 = q.1 ∧ VRep M p.2 q.2

theorem fillC_sound {M : Mst} {place : Nat → Option (Nat × Nat)} : ∀ {parts : List (Nat × AVal)} {rparts : List (Nat × Value)} {cells out : List CVal} {vals : Array Value}, All2 (CRep M) cells vals.toList →
    All2 (PRep M) parts rparts → fillC place cells parts = some out → ∃ res, Instr.fill place vals rparts = some res ∧ All2 (CRep M) out res.toList
  | [], [], cells, out, vals, hc, _, h => by cases h; exact ⟨vals, rfl, hc⟩
  | (i, v) :: parts, (i', rv) :: rparts, cells, out, vals, hc, hp, h => by
    obtain ⟨⟨hi, hv⟩, hp⟩ := hp
    dsimp only at hi hv
    subst hi
    unfold fillC at h
    split at h
    · rename_i off size vs hpl hvs
      cases hb : (Nat.beq vs.length size && Nat.ble (off + size) cells.length) with
      | false => rw [hb] at h; cases h
      | true =>
        rw [hb] at h
        simp only [cond_true] at h
        simp only [Bool.and_eq_true] at hb
        have b1 := Nat.eq_of_beq_eq_true hb.1
        have b2 := Nat.le_of_ble_eq_true hb.2
        split at h
        · rename_i cells' hput
          obtain ⟨p1, rfl⟩ := putCells_some _ _ _ _ hput
          have hrep := valCells_rep hvs hv
          have hl := hrep.length
          have hl2 := hc.length
          simp only [Array.length_toList] at hl hl2
          have hcell := put_rep (Ext.refl M) hc hrep (off := off) (by rw [Array.length_toList]; omega)
          obtain ⟨res, h1, h2⟩ := fillC_sound hcell hp h
          exact ⟨res, by rw [fill_cons place vals i rv rparts off size hpl (by omega) (by omega)]; exact h1, h2⟩
        · cases h
    · cases h
  | [], _ :: _, _, _, _, _, hh, _ => hh.elim
  | _ :: _, [], _, _, _, _, hh, _ => hh.elim

theorem mapM_sizes {P : Program} (w : World) : ∀ (l : List Field), l.all (fun f => (P.info? f.type).isSome) = true →
    (l.mapM fun f => (do pure (f.offset, ← sizeOf f.type) : Sem (Nat × Nat))).run P w = .ok (l.map fun f => (f.offset, P.cellsOf f.type)) w
  | [], _ => by simp
  | f :: l, h => by
    simp only [List.all_cons, Bool.and_eq_true] at h
    obtain ⟨i, hi⟩ := Option.isSome_iff_exists.1 h.1
    rw [List.mapM_cons]
    simp only [Sem.run_bind, run_size w hi, Result.andThen_ok, Sem.run_pure, mapM_sizes w l h.2, List.map_cons]

theorem buildS_sound {P : Program} {M : Mst} {w : World} (ok : Ok M) (hM : M.H = w.heap) {t : TypeId} {parts : List (Nat × AVal)} {rparts : List (Nat × Value)} {v : AVal} {u : Upd} (hp : All2 (PRep M) parts rparts)
    (h : Yields (buildS P t parts) v u) : RunsV P (Instr.build t rparts.toArray) M w v u := by
  unfold buildS at h
  split at h
  · exact h.elim
  · rename_i zero hz
    obtain ⟨i, z, h1, h2, h3, h4, rfl⟩ := zeroCells_some hz
    have hzero := absCs_rep M h4
    split at h
    · rename_i fs hs
      obtain ⟨hall, h⟩ := bif_stuck h
      split at h
      · rename_i cells hf
        obtain ⟨rfl, rfl⟩ := yields_one h
        have hpl : (fun (j : Nat) => (fs[j]?).map fun (f : Field) => (f.offset, P.cellsOf f.type)) = (fun (j : Nat) => (fs.toList.map fun f => (f.offset, P.cellsOf f.type)).toArray[j]?) := by
          funext j; simp
        rw [hpl] at hf
        obtain ⟨res, k1, k2⟩ := fillC_sound hzero hp hf
        refine RunsV.pure ok hM (rv := .agg res) ?_ ⟨res, rfl, k2⟩
        have hm := mapM_sizes (P := P) w fs.toList hall
        simp only [Instr.build, zeroValue, Sem.run_bind, run_info w h1, Result.andThen_ok, h2, Sem.run_pure, run_underlying hs, Array.mapM_eq_mapM_toList, Sem.run_map, hm]
        rw [k1]
        rfl
      · exact h.elim
    · rename_i n e hs
      obtain ⟨hall, h⟩ := bif_stuck h
      obtain ⟨y, hy⟩ := Option.isSome_iff_exists.1 hall
      split at h
      · rename_i cells hf
        obtain ⟨rfl, rfl⟩ := yields_one h
        obtain ⟨res, k1, k2⟩ := fillC_sound hzero hp hf
        refine RunsV.pure ok hM (rv := .agg res) ?_ ⟨res, rfl, k2⟩
        simp only [Instr.build, zeroValue, Sem.run_bind, run_info w h1, Result.andThen_ok, h2, Sem.run_pure, run_underlying hs, run_size w hy]
        rw [k1]
        rfl
      · exact h.elim
    · exact h.elim

theorem RunsV.after {P : Program} {s : Sem Value} {M M1 : Mst} {w : World} {v : AVal} {u1 u2 : Upd} (h1 : M1.h = happly M.h u1) (st : Step M M1) (h : RunsV P s M1 w v u2) : RunsV P s M w v (u1 ++ u2) := by
  obtain ⟨rv, w', M', a1, a2, a3, a4, a5, a6, a7, a8, a9⟩ := h
  exact ⟨rv, w', M', a1, a2, a3, a4, a5, by rw [a6, h1, happly_append], a7, st.trans a8, a9⟩

theorem Frz.fresh {h0 h : Hp} (hf : Frz h0 h) {n : Nat} (hn : h0 n = none) : h n = none := by
  rcases hf n with e | ⟨o, t, xs, e1, _⟩ | ⟨o, xs, e1, _⟩
  · rw [e]; exact hn
  · rw [hn] at e1; cases e1
  · rw [hn] at e1; cases e1

theorem fromCells_some {t : Ty} {vs : List CVal} {x : t.den} (h : fromCells t vs = some x) : vs.length = t.size ∧ setMany t t.dflt 0 vs = some x := by
  unfold fromCells at h
  cases hb : Nat.beq vs.length t.size with
  | false => rw [hb] at h; cases h
  | true => rw [hb] at h; exact ⟨Nat.eq_of_beq_eq_true hb, h⟩

theorem fromCells_rep {M : Mst} {t : Ty} {vs : List CVal} {us : List Value} {x : t.den} (h : fromCells t vs = some x) (hv : All2 (CRep M) vs us) {rd : Nat → Option Value} (hr : ∀ i, i < us.length → rd i = us[i]?) : ERep M.H M.G t x rd := by
  obtain ⟨h1, h2⟩ := fromCells_some h
  have hl := hv.length
  refine setMany_rep t vs us t.dflt x 0 (fun j => (zeroVals t)[j]?) rd (zero_rep t _ fun _ _ => rfl) h2 hv (fun i hi => by rw [Nat.zero_add]; exact hr i hi) (fun j hj hjs => by omega)

theorem fillE_sound {h0 : Hp} {t : Ty} {n : Nat} : ∀ {parts : List (Nat × AVal)} {rparts : List (Nat × Value)} {xs out : List t.den} {vals : Array Value} {u : Upd} {M : Mst}, Ok M → Frz h0 M.h → xs.length = n → vals.size = n * t.size →
    (∀ k (h : k < xs.length), ERep M.H M.G t xs[k] (fun j => vals[k * t.size + j]?)) → (∀ p ∈ parts, p.1 < n) → All2 (PRep M) parts rparts → fillE h0 t xs parts = some (out, u) →
    ∃ res M', Instr.fill (fun i => some (i * t.size, t.size)) vals rparts = some res ∧ M'.H = M.H ∧ M'.h = happly M.h u ∧ Ok M' ∧ Step M M' ∧ Frz h0 M'.h ∧ out.length = n ∧ res.size = n * t.size ∧
      (∀ k (h : k < out.length), ERep M'.H M'.G t out[k] (fun j => res[k * t.size + j]?))
  | [], [], xs, out, vals, u, M, ok, hf, hx, hs, hE, _, _, h => by
    cases h
    exact ⟨vals, M, rfl, rfl, rfl, ok, Step.refl M, hf, hx, hs, hE⟩
  | (i, v) :: parts, (i', rv) :: rparts, xs, out, vals, u, M, ok, hf, hx, hs, hE, hlt, hp, h => by
    obtain ⟨⟨hi, hv⟩, hp⟩ := hp
    dsimp only at hi hv
    subst hi
    unfold fillE at h
    split at h
    · rename_i vs hvs
      split at h
      · rename_i vs' u1 hfz
        split at h
        · rename_i x hfrom
          split at h
          · rename_i xs' us hrest
            cases h
            have hrep := valCells_rep hvs hv
            obtain ⟨M1, a1, a2, a3, a4, a5, a6, a7⟩ := frzL_sound ok hf hrep hfz
            have hl := a5.length
            simp only [Array.length_toList] at hl
            have hfl := (fromCells_some hfrom).1
            have hin : i < n := hlt (i, v) (List.mem_cons_self ..)
            have hrow := Nat.mul_le_mul_right t.size (show i + 1 ≤ n by omega)
            rw [Nat.add_mul] at hrow
            have hfit : i * t.size + rv.cells.toList.length ≤ vals.size := by rw [Array.length_toList]; omega
            have hE1 : ∀ k (h : k < (xs.set i x).length), ERep M1.H M1.G t (xs.set i x)[k] (fun j => (putRow vals (i * t.size) rv.cells.toList)[k * t.size + j]?) := by
              intro k hk
              rw [List.length_set] at hk
              by_cases e : k = i
              · subst e
                rw [List.getElem_set_self]
                refine fromCells_rep hfrom a5 fun j hj => ?_
                rw [putRow_get hfit, if_neg (by omega), if_pos (by omega)]
                congr 1; omega
              · rw [List.getElem_set_ne (Ne.symm e)]
                refine ERep_mono a4.ext.G a4.ext.sameG t _ _ _ (fun j hj => ?_) (hE k hk)
                rw [putRow_get hfit, Array.length_toList]
                rcases mul_lt_mul_aux (Ne.symm e) hj with h | h
                · rw [if_pos (by omega)]
                · rw [if_neg (by omega), if_neg (by omega)]
            obtain ⟨res, M2, b1, b2, b3, b4, b5, b6, b7, b8, b9⟩ := fillE_sound a3 a6 (by rw [List.length_set]; exact hx) (by rw [putRow_size hfit]; exact hs) hE1
              (fun p hp => hlt p (List.mem_cons_of_mem _ hp)) (hp.mono fun p q hpq => ⟨hpq.1, by
                obtain ⟨_, hq⟩ := hpq
                exact VRep.ext a4.ext hq⟩) hrest
            exact ⟨res, M2, by rw [fill_cons _ vals i rv rparts (i * t.size) t.size rfl (by omega) (by omega)]; exact b1, b2.trans a1, by rw [b3, a2, happly_append], b4, a4.trans b5, b6, b7, b8, b9⟩
          · cases h
        · cases h
      · cases h
    · cases h
  | [], _ :: _, _, _, _, _, _, _, _, _, _, _, _, hh, _ => hh.elim
  | _ :: _, [], _, _, _, _, _, _, _, _, _, _, _, hh, _ => hh.elim
end Go.Ab
