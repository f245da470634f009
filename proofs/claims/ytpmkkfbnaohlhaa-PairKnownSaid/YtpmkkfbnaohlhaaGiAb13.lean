/- append in all its forms; copy, len, max; nil; maps are left out. -/
import Derived.Test.YtpmkkfbnaohlhaaGiAb12
set_option linter.unusedVariables false
set_option linter.unusedSimpArgs false
namespace Go.Ab

theorem yields_unless {c : Bool} {s : Sres} {v : AVal} {u : Upd} (h : Yields (bif c then .stuck else s) v u) : c = false ∧ Yields s v u := by
  cases c with
  | true => exact h.elim
  | false => exact ⟨rfl, h⟩
theorem yields_if {c : Bool} {s : Sres} {v : AVal} {u : Upd} (h : Yields (bif c then s else .stuck) v u) : c = true ∧ Yields s v u := by
  cases c with
  | true => exact ⟨rfl, h⟩
  | false => exact h.elim

theorem yields_bif {c : Bool} {a b : Sres} {v : AVal} {u : Upd} (h : Yields (bif c then a else b) v u) : (c = true ∧ Yields a v u) ∨ (c = false ∧ Yields b v u) := by
  cases c with
  | true => exact .inl ⟨rfl, h⟩
  | false => exact .inr ⟨rfl, h⟩

theorem zeros_at {z : Value} {t : Ty} (h : z.cells.toList = zeroVals t) (hs : z.cells.size = t.size) {n i j : Nat} (hj : j < t.size) (hi : i < n) : (Builtin.zeroCells z.cells n).toList[i * t.size + j]? = (zeroVals t)[j]? := by
  have hrow := Nat.mul_le_mul_right t.size (show i + 1 ≤ n by omega)
  rw [Nat.add_mul] at hrow
  rw [List.getElem?_eq_getElem (l := zeroVals t) (by rw [zeroVals_length]; exact hj), ← zero_at h hs (i := i) hj]
  simp only [Builtin.zeroCells, Array.getElem?_toList]
  rw [Array.getElem?_map, Array.getElem?_range, if_pos (by rw [hs]; omega)]
  rfl

theorem zeros_one {z : Value} {t : Ty} (h : z.cells.toList = zeroVals t) (hs : z.cells.size = t.size) {n : Nat} : ∀ v ∈ (Builtin.zeroCells z.cells n).toList, v.one1 = true := by
  intro v hv
  have hz : ∀ u ∈ zeroVals t, u.one1 = true := by
    clear h hs hv
    induction t with
    | pair a b iha ihb =>
      intro u hu
      rcases List.mem_append.1 hu with hu | hu
      · exact iha u hu
      · exact ihb u hu
    | _ =>
      intro u hu
      rw [List.mem_singleton.1 hu]; rfl
  obtain ⟨k, hk, rfl⟩ := List.getElem_of_mem hv
  have hk' : k < n * t.size := by rw [Array.length_toList, size_zeros, hs] at hk; exact hk
  have h0 := t.size_pos
  have := zeros_at h hs (n := n) (i := k / t.size) (j := k % t.size) (Nat.mod_lt _ h0) (by
    rw [Nat.div_lt_iff_lt_mul h0]; exact hk')
  rw [Nat.div_add_mod' k t.size, List.getElem?_eq_getElem hk, List.getElem?_eq_getElem (by rw [zeroVals_length]; exact Nat.mod_lt _ h0), Option.some.injEq] at this
  rw [this]
  exact hz _ (List.getElem_mem _)

theorem room_in {P : Program} {M : Mst} {w : World} (ok : Ok M) (hM : M.H = w.heap) {id nm n' : Nat} {t : Ty} {xs0 zs : List t.den} {C : Conc} {H' : Array Go.Obj} {s : Sem Value} {c : Nat} {A : Option Addr} {w' : World}
    (hid : M.h id = some (.arr true t xs0)) (hC : M.κ id = some C) (hnm : M.h nm = none) (hsz : H'.size = M.H.size) (hH : ∀ b, b ∉ C.fp → H'[b]? = M.H[b]?) (hbs : ∀ b, bsize H' b = bsize M.H b)
    (hx : ∀ M', Ext M M' → M'.H = H' → M'.G = M.G → match C.blk with
      | none => zs = []
      | some B => ∃ vals e, H'[B]? = some (.cells vals e (0, 0)) ∧ zs.length * t.size ≤ vals.size ∧ ∀ i (h : i < zs.length), ERep M'.H M'.G t zs[i] (fun j => vals[i * t.size + j]?))
    (hn : n' ≤ zs.length) (hc : zs.length ≤ c) (hA : match C.blk with
      | none => A = none ∧ n' = 0 ∧ c = 0
      | some B => ∃ a, A = some ⟨B, a, none⟩ ∧ (c = 0 ∨ a = 0) ∧ c * t.size ≤ bsize M.H B)
    (hw : w'.heap = H' ∧ w'.os = w.os ∧ w'.tape = w.tape ∧ w'.output = w.output) (hr : s.run P w = .ok (.slice A n' c) w') :
    RunsV P s M w (.c (.osl nm (some (0, n')))) [(id, .gone), (nm, .arr true t zs)] := by
  obtain ⟨C0, hC0, hO⟩ := ok.obj id _ hid
  rw [hC] at hC0; cases hC0
  obtain ⟨fr, ff⟩ := arr_fp hO
  have hne : id ≠ nm := fun e => by rw [e, hnm] at hid; cases hid
  let C' : Conc := ⟨C.blk, zs.length, t.size, 0, []⟩
  have hh : ∀ n', (happly M.h [(id, .gone), (nm, .arr true t zs)]) n' = if n' = nm then some (.arr true t zs) else if n' = id then some .gone else M.h n' := fun n' => by
    show (hset (hset M.h id .gone) nm _) n' = _
    by_cases e : n' = nm
    · rw [if_pos e, e, hset_same]
    · rw [if_neg e, hset_ne _ _ e]
      by_cases e2 : n' = id
      · rw [if_pos e2, e2, hset_same]
      · rw [if_neg e2, hset_ne _ _ e2]
  have := Mst.move_ok (M := M) (nm := nm) (o' := .arr true t zs) (C' := C') (h' := happly M.h [(id, .gone), (nm, .arr true t zs)]) (H' := H') ok (fun j => j = id) hnm
    (fun j hj => ⟨.arr true t xs0, by rw [hj]; exact hid, rfl, by rw [hh, hj, if_neg hne, if_pos rfl]⟩)
    (by rw [hh, if_pos rfl]) (fun n' h1 h2 => by rw [hh, if_neg h2, if_neg h1]) (by omega) (fun b hb hn => hH b (hn id C rfl hC)) (fun b _ => hbs b)
    (fun b hb => .inr ⟨id, C, rfl, hC, by
      simp only [C', Conc.fp, List.filterMap_nil, List.append_nil] at hb
      rw [ff]; exact hb⟩)
    (fun x => by
      refine ⟨rfl, rfl, fun _ => rfl, ?_⟩
      have := hx _ x rfl rfl
      show match C.blk with
        | none => _
        | some B => _
      cases hB : C.blk with
      | none => rw [hB] at this; exact this
      | some B =>
        rw [hB] at this
        obtain ⟨vals, e, h1, h2, h3⟩ := this
        exact ⟨vals, e, h1, fun h => (by cases h), h2, h3⟩)
  refine ⟨_, _, _, hr, hw.2.1, hw.2.2.1, hw.2.2.2, by rw [hw.1]; rfl, rfl, this.1, this.2, C', κset_same _ _ _, by show 0 + n' ≤ zs.length; omega, ⟨_, c, rfl, ?_⟩, _, _, _, rfl, by show zs.length ≤ 0 + c; omega⟩
  show match C.blk with
    | none => _
    | some B => _
  cases hB : C.blk with
  | none => rw [hB] at hA; exact hA
  | some B =>
    rw [hB] at hA
    obtain ⟨a, h2, h3, h4⟩ := hA
    refine ⟨by omega, a, h2, by simpa using h3, ?_⟩
    show (0 + c) * t.size ≤ bsize H' B
    rw [hbs, Nat.zero_add]; exact h4

/-- A part of a row, put further ahead in it. -/
theorem appendS_in {P : Program} {M : Mst} {w : World} (ok : Ok M) (hM : M.H = w.heap) {id nm i j m : Nat} {t e T : TypeId} {ty : Ty} {x b : Value} {xs : List ty.den} (hu : P.underlying t = some (.slice e)) (hty : elemTy P e = some ty)
    (hnm : M.h nm = none) (hid : M.h id = some (.arr true ty xs)) (hb : CRep M (.osl id (some (0, i))) b) (hx : CRep M (.osl id (some (j, m))) x) (hij : i ≤ j) :
    RunsV P (Builtin.append_ #[t, t] T #[b, x]) M w (.c (.osl nm (some (0, i + m)))) [(id, .gone), (nm, .arr true ty (xs.take i ++ slc xs j m ++ xs.drop (i + m)))] := by
  obtain ⟨inf, z, h1, h2, h3, h4, h5, h6, h7⟩ := elemTy_some hty
  obtain ⟨C, hC, hO⟩ := ok.obj id _ hid
  obtain ⟨news, hR, hE⟩ := rd_osl hC hO hx
  obtain ⟨C1, hC1, hx1, _⟩ := hx
  rw [hC] at hC1; cases hC1
  obtain ⟨C1, hC1, hb1, ⟨A, c, rfl, hS⟩, hcap⟩ := hb
  rw [hC] at hC1; cases hC1
  obtain ⟨_, _, _, hcap, hcl⟩ := hcap
  cases hcap
  have hlen := hO.1
  have hsm : (rng xs (some (j, m))).length = m := slc_length (by omega)
  rw [hsm] at hR
  have hnl : news.length = m * ty.size := hR.choose_spec.choose_spec.2.1
  have hst1 : (slc xs j m).length = m := hsm
  have hti : (xs.take i).length = i := by rw [List.length_take]; omega
  have hzl : (xs.take i ++ slc xs j m ++ xs.drop (i + m)).length = xs.length := by
    rw [List.length_append, List.length_append, hst1, hti, List.length_drop]; omega
  have hroom : i + m ≤ c := by omega
  cases hB : C.blk with
  | none =>
    rw [hB] at hS
    obtain ⟨rfl, rfl, rfl⟩ := hS
    have hr := append_room (P := P) (w := w) (A := none) (sLen := 0) (sCap := 0) T hu h1 h3 (by rw [← hM]; exact hR) hroom w rfl
    refine room_in (s := Builtin.append_ #[t, t] T #[.slice none 0 0, x]) (H' := M.H) ok hM hid hC hnm rfl (fun _ _ => rfl) (fun _ => rfl) (fun M' _ _ _ => ?_) (by omega) (by omega) ?_ ⟨hM.symm, rfl, rfl, rfl⟩ hr
    · rw [hB]
      exact List.eq_nil_of_length_eq_zero (by omega)
    · rw [hB]
      exact ⟨rfl, by omega, rfl⟩
  | some B =>
    rw [hB] at hS
    obtain ⟨hc, a, rfl, ha, hs⟩ := hS
    obtain ⟨k1, k2, k3, k4⟩ := hO
    rw [hB] at k4
    obtain ⟨vals, ev, k5, k6, k7, k8⟩ := k4
    rw [Nat.zero_mul] at ha
    rw [Nat.zero_add, k2] at hs
    have hbs : bsize M.H B = vals.size := by simp only [bsize, k5]
    have hwB : w.heap[B]? = some (.cells vals ev (0, 0)) := by rw [← hM]; exact k5
    by_cases h0 : c = 0
    · have hm0 : m = 0 := by omega
      have hr := append_room (P := P) (w := w) (A := some ⟨B, a, none⟩) (sLen := i) (sCap := c) T hu h1 h3 (by rw [← hM]; exact hR) hroom w (by
        have : news = [] := List.eq_nil_of_length_eq_zero (by rw [hnl, hm0, Nat.zero_mul])
        rw [this]; rfl)
      refine room_in (s := Builtin.append_ #[t, t] T #[.slice (some ⟨B, a, none⟩) i c, x]) (H' := M.H) ok hM hid hC hnm rfl (fun _ _ => rfl) (fun _ => rfl) (fun M' _ _ _ => ?_) (by omega) (by omega) ?_ ⟨hM.symm, rfl, rfl, rfl⟩ hr
      · rw [hB]
        refine ⟨vals, ev, k5, by rw [hzl]; exact k7, fun p hp => ?_⟩
        rw [hzl] at hp; omega
      · rw [hB]
        exact ⟨a, rfl, .inl h0, by rw [h0]; simp⟩
    · have ha0 : a = 0 := by rcases ha with ha | ha <;> omega
      subst ha0
      have hle := Nat.mul_le_mul_right ty.size (show i + m ≤ xs.length by omega)
      rw [Nat.add_mul] at hle
      have hfit : i * ty.size + news.length ≤ vals.size := by omega
      have hst := run_storeCells_at (P := P) B (i * ty.size) ev news 0 vals w hwB (by simpa using hfit) (fun v hv => one1_one' (hR.choose_spec.choose_spec.2.2.1 v hv))
      simp only [Nat.add_zero] at hst
      have hr := append_room (P := P) (w := w) (A := some ⟨B, 0, none⟩) (sLen := i) (sCap := c) T hu h1 h3 (by rw [← hM]; exact hR) hroom (w.setRow B (putRow vals (i * ty.size) news)) (by show (storeCells (Addr.add ⟨B, 0, none⟩ (i * ty.size)) news).run P w = _; rw [Addr.add_lit, Nat.zero_add]; exact hst)
      obtain ⟨f1, f2, f3, f4⟩ := setRow_facts hwB (new := putRow vals (i * ty.size) news) (putRow_size hfit)
      refine room_in (s := Builtin.append_ #[t, t] T #[.slice (some ⟨B, 0, none⟩) i c, x]) (H' := (w.setRow B (putRow vals (i * ty.size) news)).heap) ok hM hid hC hnm (by rw [hM]; exact f1)
        (fun b hb => by rw [hM]; exact f3 b fun e => hb (e ▸ fp_blk hB)) (fun b => by rw [hM]; exact f4 b) (fun M' xt hH hG => ?_) (by omega) (by omega) ?_ ⟨rfl, rfl, rfl, rfl⟩ hr
      · rw [hB]
        refine ⟨_, ev, f2, by rw [hzl, putRow_size hfit]; exact k7, fun p hp => ?_⟩
        rw [hzl] at hp
        have hrow := Nat.mul_le_mul_right ty.size (show p + 1 ≤ xs.length by omega)
        rw [Nat.add_mul] at hrow
        have old : (xs.take i ++ slc xs j m ++ xs.drop (i + m))[p]? = xs[p]? → (∀ q, q < ty.size → (putRow vals (i * ty.size) news)[p * ty.size + q]? = vals[p * ty.size + q]?) → ERep M'.H M'.G ty ((xs.take i ++ slc xs j m ++ xs.drop (i + m))[p]'(by omega)) (fun q => (putRow vals (i * ty.size) news)[p * ty.size + q]?) := fun e1 e2 => by
          have e3 : (xs.take i ++ slc xs j m ++ xs.drop (i + m))[p]'(by omega) = xs[p] := by
            rw [List.getElem?_eq_getElem (by omega), List.getElem?_eq_getElem hp, Option.some.injEq] at e1
            exact e1
          rw [e3]
          exact ERep_mono xt.G xt.sameG ty _ _ _ e2 (k8 p hp)
        by_cases hp1 : p < i
        · refine old ?_ fun q hq => ?_
          · rw [List.append_assoc, List.getElem?_append_left (by omega), List.getElem?_take, if_pos hp1]
          · have := Nat.mul_le_mul_right ty.size (show p + 1 ≤ i by omega)
            rw [Nat.add_mul] at this
            rw [putRow_get hfit, if_pos (by omega)]
        · by_cases hp2 : p < i + m
          · have e3 : (xs.take i ++ slc xs j m ++ xs.drop (i + m))[p]'(by omega) = (rng xs (some (j, m)))[p - i]'(by omega) := by
              rw [List.getElem_append_left (by rw [List.length_append, hti, hst1]; exact hp2), List.getElem_append_right (by omega)]
              simp only [hti]; rfl
            rw [e3]
            refine ERep_mono xt.G xt.sameG ty _ _ _ (fun q hq => ?_) (hE (p - i) (by omega))
            have q1 := Nat.mul_le_mul_right ty.size (show i ≤ p by omega)
            have q2 := Nat.mul_le_mul_right ty.size (show p - i + 1 ≤ m by omega)
            rw [Nat.add_mul] at q2
            have q3 : (p - i) * ty.size = p * ty.size - i * ty.size := Nat.sub_mul ..
            rw [putRow_get hfit, if_neg (by omega), if_pos (by omega)]
            congr 1; omega
          · refine old ?_ fun q hq => ?_
            · rw [List.getElem?_append_right (by rw [List.length_append, hti, hst1]; omega), List.getElem?_drop]
              congr 1
              rw [List.length_append, hti, hst1]; omega
            · have := Nat.mul_le_mul_right ty.size (show i + m ≤ p by omega)
              rw [Nat.add_mul] at this
              rw [putRow_get hfit, if_neg (by omega), if_neg (by omega)]
      · rw [hB]
        exact ⟨0, rfl, .inr rfl, by rw [← k2] at hs ⊢; exact hs⟩

/-- A part of a row is cleared. -/
theorem clearS_sound {P : Program} {M : Mst} {w : World} (ok : Ok M) (hM : M.H = w.heap) {t T : TypeId} {id lo n : Nat} {rx : Value} {v : AVal} {u : Upd} (hx : CRep M (.osl id (some (lo, n))) rx)
    (h : Yields (clearS P M.h t id lo n) v u) : RunsV P (Builtin.clear_ #[t] T #[rx]) M w v u := by
  unfold clearS at h
  split at h
  case h_2 => exact h.elim
  rename_i e s xs hu hid
  split at h
  case h_2 => exact h.elim
  rename_i ty hty
  obtain ⟨heq, h⟩ := yields_if h
  have := tyEq_spec heq
  subst this
  obtain ⟨_, rfl, rfl⟩ := yields_alt h
  obtain ⟨inf, z, h1, h2, h3, h4, h5, h6, h7⟩ := elemTy_some hty
  obtain ⟨C, hC, hx1, ⟨A, c, rfl, hS⟩, _⟩ := hx
  obtain ⟨C1, hC1, hO⟩ := ok.obj id _ hid
  rw [hC] at hC1; cases hC1
  by_cases hn0 : n = 0
  · subst hn0
    have e0 : xs.take lo ++ List.replicate 0 ty.dflt ++ xs.drop (lo + 0) = xs := by simp
    rw [e0]
    refine ⟨.tuple #[], w, M, ?_, rfl, rfl, rfl, hM, ?_, ok, Step.refl M, trivial⟩
    · cases A with
      | none => simp [Builtin.clear_, run_underlying hu]
      | some a => simp [Builtin.clear_, run_underlying hu]
    · rw [happly_one, hset_self hid]
  · obtain ⟨k1, k2, k3, k4⟩ := hO
    cases hB : C.blk with
    | none => rw [hB] at hS; omega
    | some B =>
      rw [hB] at hS k4
      obtain ⟨hc, a, rfl, ha, hs⟩ := hS
      obtain ⟨vals, ev, k5, k6, k7, k8⟩ := k4
      have ha' : a = lo * ty.size := by rw [← k2]; rcases ha with ha | ha <;> omega
      subst ha'
      have hwB : w.heap[B]? = some (.cells vals ev (0, 0)) := by rw [← hM]; exact k5
      have hzl : (Builtin.zeroCells z.cells n).toList.length = n * ty.size := by rw [Array.length_toList, size_zeros, h7]
      have hle := Nat.mul_le_mul_right ty.size (show lo + n ≤ xs.length by omega)
      rw [Nat.add_mul] at hle
      have hfit : lo * ty.size + (Builtin.zeroCells z.cells n).toList.length ≤ vals.size := by omega
      have hone : ∀ v ∈ (Builtin.zeroCells z.cells n).toList, v.one1 = true := zeros_one h4 h7
      have hst := run_storeCells_at (P := P) B (lo * ty.size) ev (Builtin.zeroCells z.cells n).toList 0 vals w hwB (by simpa using hfit) (fun v hv => one1_one' (hone v hv))
      simp only [Nat.add_zero] at hst
      obtain ⟨f1, f2, f3, f4⟩ := setRow_facts hwB (new := putRow vals (lo * ty.size) (Builtin.zeroCells z.cells n).toList) (putRow_size hfit)
      have hrun : (Builtin.clear_ #[t] T #[.slice (some ⟨B, lo * ty.size, none⟩) n c]).run P w = .ok (.tuple #[]) (w.setRow B (putRow vals (lo * ty.size) (Builtin.zeroCells z.cells n).toList)) := by
        obtain ⟨n', rfl⟩ : ∃ n', n = n' + 1 := ⟨n - 1, by omega⟩
        have e : (storeCells ⟨B, lo * ty.size, none⟩ (Builtin.zeroCells z.cells (n' + 1)).toList).run P w = .ok () (w.setRow B (putRow vals (lo * ty.size) (Builtin.zeroCells z.cells (n' + 1)).toList)) := hst
        simp [Builtin.clear_, run_underlying hu, zeroValue, typeInfo, h1, h2, e]
      have hH : ∀ b, b ∉ C.fp → (w.setRow B (putRow vals (lo * ty.size) (Builtin.zeroCells z.cells n).toList)).heap[b]? = M.H[b]? := fun b hbn => by
        rw [hM]; exact f3 b fun e => hbn (e ▸ fp_blk hB)
      have hbs : ∀ b, b < M.H.size → bsize (w.setRow B (putRow vals (lo * ty.size) (Builtin.zeroCells z.cells n).toList)).heap b = bsize M.H b := fun b _ => by rw [hM]; exact f4 b
      have hol : (xs.take lo ++ List.replicate n ty.dflt ++ xs.drop (lo + n)).length = xs.length := by
        simp only [List.length_append, List.length_take, List.length_replicate, List.length_drop]; omega
      have x := Mst.write_ext ok hid rfl hC C.le_refl hH hbs (.arr true ty (xs.take lo ++ List.replicate n ty.dflt ++ xs.drop (lo + n)))
      have := Mst.write_ok ok hid rfl hC C.le_refl (fun _ h => h) (by rw [hM]; exact f1) hH hbs (o' := .arr true ty (xs.take lo ++ List.replicate n ty.dflt ++ xs.drop (lo + n))) (by
        refine ⟨by rw [hol]; exact k1, k2, k3, ?_⟩
        rw [hB]
        refine ⟨_, ev, f2, fun h => (by cases h), by rw [hol, putRow_size hfit]; exact k7, fun p hp => ?_⟩
        rw [hol] at hp
        have hrow := Nat.mul_le_mul_right ty.size (show p + 1 ≤ xs.length by omega)
        rw [Nat.add_mul] at hrow
        have htl : (xs.take lo).length = lo := by rw [List.length_take]; omega
        have old : (xs.take lo ++ List.replicate n ty.dflt ++ xs.drop (lo + n))[p]? = xs[p]? → (∀ q, q < ty.size → (putRow vals (lo * ty.size) (Builtin.zeroCells z.cells n).toList)[p * ty.size + q]? = vals[p * ty.size + q]?) →
            ERep (M.write id (.arr true ty (xs.take lo ++ List.replicate n ty.dflt ++ xs.drop (lo + n))) C (w.setRow B (putRow vals (lo * ty.size) (Builtin.zeroCells z.cells n).toList)).heap).H (M.write id (.arr true ty (xs.take lo ++ List.replicate n ty.dflt ++ xs.drop (lo + n))) C (w.setRow B (putRow vals (lo * ty.size) (Builtin.zeroCells z.cells n).toList)).heap).G ty ((xs.take lo ++ List.replicate n ty.dflt ++ xs.drop (lo + n))[p]'(by omega)) (fun q => (putRow vals (lo * ty.size) (Builtin.zeroCells z.cells n).toList)[p * ty.size + q]?) := fun e1 e2 => by
          have e3 : (xs.take lo ++ List.replicate n ty.dflt ++ xs.drop (lo + n))[p]'(by omega) = xs[p] := by
            rw [List.getElem?_eq_getElem (by omega), List.getElem?_eq_getElem hp, Option.some.injEq] at e1
            exact e1
          rw [e3]
          exact ERep_mono x.G x.sameG ty _ _ _ e2 (k8 p hp)
        by_cases hp1 : p < lo
        · refine old ?_ fun q hq => ?_
          · rw [List.append_assoc, List.getElem?_append_left (by omega), List.getElem?_take, if_pos hp1]
          · have := Nat.mul_le_mul_right ty.size (show p + 1 ≤ lo by omega)
            rw [Nat.add_mul] at this
            rw [putRow_get hfit, if_pos (by omega)]
        · by_cases hp2 : p < lo + n
          · have e3 : (xs.take lo ++ List.replicate n ty.dflt ++ xs.drop (lo + n))[p]'(by omega) = ty.dflt := by
              rw [List.getElem_append_left (by rw [List.length_append, htl, List.length_replicate]; exact hp2), List.getElem_append_right (by omega)]
              simp
            rw [e3]
            refine zero_rep ty _ fun q hq => ?_
            have q1 := Nat.mul_le_mul_right ty.size (show lo ≤ p by omega)
            have q2 := Nat.mul_le_mul_right ty.size (show p - lo + 1 ≤ n by omega)
            rw [Nat.add_mul] at q2
            have q3 : (p - lo) * ty.size = p * ty.size - lo * ty.size := Nat.sub_mul ..
            rw [putRow_get hfit, if_neg (by omega), if_pos (by omega), show p * ty.size + q - lo * ty.size = (p - lo) * ty.size + q by omega, zeros_at h4 h7 hq (by omega)]
          · refine old ?_ fun q hq => ?_
            · rw [List.getElem?_append_right (by rw [List.length_append, htl, List.length_replicate]; omega), List.getElem?_drop]
              congr 1
              rw [List.length_append, htl, List.length_replicate]; omega
            · have := Nat.mul_le_mul_right ty.size (show lo + n ≤ p by omega)
              rw [Nat.add_mul] at this
              rw [putRow_get hfit, if_neg (by omega), if_neg (by omega)])
      exact ⟨_, _, _, hrun, rfl, rfl, rfl, rfl, rfl, this.1, this.2, trivial⟩

theorem appendS_sound {P : Program} {M : Mst} {w : World} (ok : Ok M) (hM : M.H = w.heap) {mat : Bool} {nm : Nat} {t T : TypeId} {b x v : AVal} {u : Upd} {rb rx : Value}
    (hb : VRep M b rb) (hx : VRep M x rx) (h : Yields (appendS P mat nm M.h t b x) v u) : RunsV P (Builtin.append_ #[t, t] T #[rb, rx]) M w v u := by
  unfold appendS at h
  split at h
  case h_2 => exact h.elim
  rename_i e b x hu hnm
  replace hb : CRep M b rb := hb
  replace hx : CRep M x rx := hx
  split at h
  · exact h.elim
  rename_i ty hty
  dsimp only at h
  cases mat with
  | true =>
    simp only [cond_true] at h
    split at h
    · rename_i id jd
      split at h
      · rename_i v1 xs v2 ys hid hjd
        cases hne : Nat.beq id jd with
        | true => rw [hne] at h; exact h.elim
        | false =>
          rw [hne] at h
          obtain ⟨hr, rfl, rfl⟩ := yields_alt h
          exact appendS_mat ok hM hu hty hnm hid hjd (fun e => by subst e; simp at hne) hb hx (roomOk hr)
      · exact h.elim
    · exact h.elim
  | false =>
    simp only [cond_false] at h
    split at h
    · split at h
      · rename_i ys u1 ht
        obtain ⟨hr, rfl, rfl⟩ := yields_alt h
        obtain ⟨rfl, news, h1, h2⟩ := tailOf_sound ok hx ht
        rw [show rb = .slice none 0 0 from hb]
        exact appendS_nil ok hM hu hty hnm h1 h2 (roomOk hr)
      · exact h.elim
    · rename_i id r
      split at h
      · rename_i s xs hid
        split at h
        · rename_i zs ys u1 hz ht
          obtain ⟨e1, hz⟩ := castL_some hz
          subst e1
          subst hz
          obtain ⟨rfl, news, h1, h2⟩ := tailOf_sound ok hx ht
          split at h
          · rename_i i
            rcases yields_bif h with ⟨hc, h⟩ | ⟨_, h⟩
            · split at h
              · rename_i i' jd j m zs e1 e2 _
                cases e1
                have := Nat.eq_of_beq_eq_true hc
                subst this
                obtain ⟨_, hz⟩ := castL_some e2
                subst hz
                obtain ⟨hr, rfl, rfl⟩ := yields_alt h
                exact appendS_in ok hM hu hty hnm hid hb hx (Nat.le_of_ble_eq_true hr)
              · exact h.elim
            · obtain ⟨hr, rfl, rfl⟩ := yields_alt h
              exact appendS_own ok hM hu hty hnm hid hb rfl h1 h2 (roomOk hr)
          · rcases yields_bif h with ⟨hc, h⟩ | ⟨_, h⟩
            · exact h.elim
            · obtain ⟨hr, rfl, rfl⟩ := yields_alt h
              exact appendS_own ok hM hu hty hnm hid hb trivial h1 h2 (roomOk hr)
          · exact h.elim
        · exact h.elim
      · exact h.elim
    · exact h.elim

/-! ### What a slice reads -/
theorem readSl_sound {M : Mst} (ok : Ok M) {c : CVal} {v : Value} {t : Ty} {ys : List t.den} (hv : CRep M c v) (h : readSl M.h c = some ⟨t, ys⟩) (ht : t = .int .i64) :
    ∃ news, Rd M.H v ys.length t.size news ∧ ∃ F, ∀ i (hi : i < ys.length), ERep M.H F t ys[i] (fun j => news[i * t.size + j]?) := by
  unfold readSl at h
  split at h
  · rename_i sh s xs
    cases h
    obtain ⟨news, h1, h2⟩ := rd_fsl hv
    exact ⟨news, h1, _, h2⟩
  · rename_i id r
    split at h
    · rename_i own s xs hid
      cases h
      obtain ⟨C, hC, hO⟩ := ok.obj _ _ hid
      obtain ⟨news, h1, h2⟩ := rd_osl hC hO hv
      exact ⟨news, h1, _, h2⟩
    · cases r with
      | none => cases h; cases ht
      | some p => cases h
    · cases h
  · rename_i id i ver
    split at h
    · rename_i v' xs hid
      cases hver : Nat.beq v' ver with
      | false => rw [hver] at h; cases h
      | true =>
        rw [hver] at h
        cases h
        have e : v' = ver := by simpa using hver
        subst e
        obtain ⟨C, hC, hO⟩ := ok.obj _ _ hid
        obtain ⟨C', hC', hone, _, hrow⟩ := hv
        rw [hC] at hC'; cases hC'
        obtain ⟨rb, rl, hr1, hr2⟩ := hrow hO.1
        by_cases hi : i < xs.length
        · obtain ⟨B, rb', v2, k1, k2, k3, k4, k5, k6⟩ := mat_row hO hi
          rw [hr1] at k3
          cases k3
          rw [show xs.getD i [] = xs[i] by simp [List.getD, hi]]
          cases rb with
          | none =>
            obtain ⟨rfl, h0⟩ := hr2
            have hnil : xs[i] = [] := List.eq_nil_of_length_eq_zero h0
            rw [hnil]
            obtain ⟨news, q1, q2⟩ := rd_nil (H := M.H) (F := M.G) (t := .int .i64) (A := none) (c := 0)
            exact ⟨news, q1, _, q2⟩
          | some R =>
            obtain ⟨a, c, rfl, h1, h2, h3⟩ := hr2
            by_cases h0 : xs[i].length = 0
            · have hnil : xs[i] = [] := List.eq_nil_of_length_eq_zero h0
              rw [hnil]
              obtain ⟨news, q1, q2⟩ := rd_nil (H := M.H) (F := M.G) (t := .int .i64) (A := some ⟨R, a, none⟩) (c := c)
              exact ⟨news, q1, _, q2⟩
            · have ha : a = 0 := by rcases h2 with h | h <;> omega
              subst ha
              obtain ⟨news, q1, q2⟩ := rd_block (H := M.H) (F := fun _ => True) (t := .int .i64) (ys := xs[i]) (B := R) (o := 0) (c := c) h1 (fun j hj => by
                simp only [ERep, Ty.size, Nat.zero_add, Nat.mul_one, Nat.add_zero]
                exact k6 R rfl j hj)
              exact ⟨news, q1, _, q2⟩
        · have : C.rows[i]? = none := List.getElem?_eq_none (by have := hO.2.2.2.1; omega)
          rw [this] at hr1; cases hr1
    · cases h
  · cases h

theorem readSl_len {M : Mst} (ok : Ok M) {c : CVal} {v : Value} {t : Ty} {ys : List t.den} (hv : CRep M c v) (h : readSl M.h c = some ⟨t, ys⟩) : ∃ A k, v = .slice A ys.length k := by
  by_cases ht : t = .int .i64
  · obtain ⟨news, ⟨A, k, e, _⟩, _⟩ := readSl_sound ok hv h ht
    exact ⟨A, k, e⟩
  unfold readSl at h
  split at h
  · cases h
    obtain ⟨news, ⟨A, k, e, _⟩, _⟩ := rd_fsl hv
    exact ⟨A, k, e⟩
  · rename_i id r
    split at h
    · rename_i own s xs hid
      cases h
      obtain ⟨C, hC, hO⟩ := ok.obj _ _ hid
      obtain ⟨news, ⟨A, k, e, _⟩, _⟩ := rd_osl hC hO hv
      exact ⟨A, k, e⟩
    · rename_i ver xs hid
      cases r with
      | none =>
        cases h
        obtain ⟨C, hC, hO⟩ := ok.obj _ _ hid
        obtain ⟨C', hC', A, k, e, _⟩ := hv
        rw [hC] at hC'; cases hC'
        exact ⟨A, k, by rw [e, hO.2.1]⟩
      | some p => cases h
    · cases h
  · rename_i id i ver
    split at h
    · cases hver : Nat.beq _ ver with
      | false => rw [hver] at h; cases h
      | true => rw [hver] at h; cases h; exact absurd rfl ht
    · cases h
  · cases h

theorem lenSl_sound {M : Mst} (ok : Ok M) {c : CVal} {v : Value} {n : Nat} (hv : CRep M c v) (h : lenSl M.h c = some n) : ∃ A k, v = .slice A n k := by
  unfold lenSl at h
  split at h
  · cases h; exact ⟨none, 0, hv⟩
  · cases h
    obtain ⟨C, B, _, _, e⟩ := hv
    exact ⟨_, _, e⟩
  · split at h
    · rename_i t xs hr
      cases h
      exact readSl_len ok hv hr
    · cases h

theorem run_len {P : Program} {w : World} {t e : TypeId} {A : Option Addr} {n k : Nat} {T : TypeId} {ts : Array TypeId} (h0 : ts[0]? = some t) (hu : P.underlying t = some (.slice e)) :
    (Builtin.len_ ts T #[.slice A n k]).run P w = .ok (.int .i64 n) w := by
  have hr : (underlying t).run P w = .ok (.slice e) w := by simp [underlying, hu]
  simp [Builtin.len_, h0, hr, goInt]

theorem maxS_sound {P : Program} {M : Mst} {w : World} (ok : Ok M) (hM : M.H = w.heap) {lt : Bool} {l : List AVal} {rl : Array Value} {v : AVal} {u : Upd} {ts : Array TypeId} {T : TypeId} (hl : All2 (VRep M) l rl.toList)
    (h : Yields (maxS lt l) v u) : RunsV P (bif lt then Builtin.min_ ts T rl else Builtin.max_ ts T rl) M w v u := by
  unfold maxS at h
  split at h
  · rename_i k x j y
    obtain ⟨rfl, rfl⟩ := yields_one h
    obtain ⟨rl⟩ := rl
    match rl, hl with
    | [a, b], ⟨h1, h2, _⟩ =>
      rw [show a = .int k x from h1, show b = .int j y from h2]
      refine .pure (rv := .int k (bif lt then (bif decide (y < x) then y else x) else (bif decide (y > x) then y else x))) ok hM ?_ rfl
      cases lt <;> simp [Builtin.min_, Builtin.max_, Builtin.min2, Builtin.max2, Bool.cond_decide]
  · rename_i k x j y i z
    obtain ⟨rfl, rfl⟩ := yields_one h
    obtain ⟨rl⟩ := rl
    match rl, hl with
    | [a, b, c], ⟨h1, h2, h3, _⟩ =>
      rw [show a = .int k x from h1, show b = .int j y from h2, show c = .int i z from h3]
      refine .pure (rv := _) ok hM ?_ rfl
      cases lt <;> simp [Builtin.min_, Builtin.max_, Builtin.min2, Builtin.max2, Bool.cond_decide]
  · exact h.elim
end Go.Ab
