/- Memory that is made. -/
import Derived.Test.YtpmkkfbnaohlhaaGiAb7
set_option linter.unusedVariables false
set_option linter.unusedSimpArgs false
namespace Go.Ab

/-- A new object, out of new memory and of objects that are given up. -/
def Mst.move (M : Mst) (nm : Nat) (C : Conc) (h : Hp) (H : Array Go.Obj) : Mst := { M with κ := κset M.κ nm C, h := h, H := H }

theorem Mst.move_ok {M : Mst} (ok : Ok M) {nm : Nat} {o' : Obj} {C' : Conc} {h' : Hp} {H' : Array Go.Obj} (J : Nat → Prop) (hnm : M.h nm = none)
    (hJ : ∀ j, J j → ∃ o, M.h j = some o ∧ o.owned = true ∧ h' j = some .gone) (hnew : h' nm = some o') (hrest : ∀ n, ¬ J n → n ≠ nm → h' n = M.h n) (hsz : M.H.size ≤ H'.size)
    (hH : ∀ b, b < M.H.size → (∀ j C, J j → M.κ j = some C → b ∉ C.fp) → H'[b]? = M.H[b]?) (hbs : ∀ b, b < M.H.size → bsize H' b = bsize M.H b)
    (hfp : ∀ b ∈ C'.fp, (M.H.size ≤ b ∧ b < H'.size) ∨ ∃ j C, J j ∧ M.κ j = some C ∧ b ∈ C.fp)
    (hO : Ext M (M.move nm C' h' H') → ORep (M.move nm C' h' H') o' C') : Ok (M.move nm C' h' H') ∧ Step M (M.move nm C' h' H') := by
  have hJo : ∀ j C b, J j → M.κ j = some C → b ∈ C.fp → Own M b := fun j C b hj hC hb => by
    obtain ⟨o, h1, h2, _⟩ := hJ j hj
    exact ⟨j, o, C, h1, h2, hC, hb⟩
  have hnF : ∀ b, M.F b → ∀ j C, J j → M.κ j = some C → b ∉ C.fp := fun b hF j C hj hC hb => (ok.own b (hJo j C b hj hC hb)).1 hF
  have x : Ext M (M.move nm C' h' H') :=
    { κ := fun n D h => by
        have : n ≠ nm := fun e => by rw [e, ok.non nm hnm] at h; cases h
        exact ⟨D, by simp only [Mst.move]; rw [κset_ne _ _ this]; exact h, D.le_refl⟩
      F := fun _ h => h
      G := fun _ h => h
      same := fun b h => hH b (ok.Flt b h) (hnF b h)
      sameG := fun b h => hH b (ok.Flt b (ok.GF b h)) (hnF b (ok.GF b h))
      bsz := hbs }
  have hJnm : ∀ j, J j → j ≠ nm := fun j hj e => by
    obtain ⟨o, h1, _⟩ := hJ j hj
    rw [e, hnm] at h1; cases h1
  have hget : ∀ n q, n ≠ nm → h' n = some q → q.owned = true → ¬ J n ∧ M.h n = some q := by
    intro n q e h1 h2
    by_cases hj : J n
    · obtain ⟨o, _, _, k⟩ := hJ n hj
      rw [k] at h1
      cases h1
      cases h2
    · exact ⟨hj, by rw [← hrest n hj e]; exact h1⟩
  have hOwn : ∀ b, Own (M.move nm C' h' H') b → (M.H.size ≤ b ∧ b < H'.size) ∨ Own M b := by
    rintro b ⟨n, q, D, h1, h2, h3, h4⟩
    by_cases e : n = nm
    · subst e
      simp only [Mst.move, κset_same, Option.some.injEq] at h3
      subst h3
      rcases hfp b h4 with h | ⟨j, C, hj, hC, hb⟩
      · exact .inl h
      · exact .inr (hJo j C b hj hC hb)
    · obtain ⟨_, h1'⟩ := hget n q e h1 h2
      simp only [Mst.move] at h3
      rw [κset_ne _ _ e] at h3
      exact .inr ⟨n, q, D, h1', h2, h3, h4⟩
  refine ⟨ok.build x (fun n => n = nm ∨ J n) (fun n hn => hrest n (fun hj => hn (.inr hj)) (fun e => hn (.inl e))) (fun n hn => κset_ne _ _ fun e => hn (.inl e)) ?_ ?_ hsz ?_ ?_ ?_ ok.GF ?_, x, hsz, ?_, ?_, fun b h _ => .inl h, fun b h _ => .inl h⟩
  · intro n q D hn h1 h2 h3 b hb
    refine hH b (ok.own b ⟨n, q, D, h1, h2, h3, hb⟩).2 fun j C hj hC hc => ?_
    obtain ⟨o, k1, k2, _⟩ := hJ j hj
    exact ok.disj n j q o D C b (fun e => hn (.inr (e ▸ hj))) h1 k1 h2 k2 h3 hC hb hc
  · intro n q D hn h1 h2 h3 b hb
    exact (ok.own b ⟨n, q, D, h1, h2, h3, hb⟩).1
  · rintro n q (rfl | hj) h1
    · simp only [Mst.move] at h1
      rw [hnew] at h1; cases h1
      exact ⟨C', κset_same _ _ _, hO x⟩
    · obtain ⟨o, k1, _, k⟩ := hJ n hj
      simp only [Mst.move] at h1
      rw [k] at h1; cases h1
      obtain ⟨C, hC, _⟩ := ok.obj n o k1
      exact ⟨C, by simp only [Mst.move]; rw [κset_ne _ _ (hJnm n hj)]; exact hC, trivial⟩
  · rintro n (rfl | hj) h1
    · simp only [Mst.move] at h1
      rw [hnew] at h1; cases h1
    · obtain ⟨o, _, _, k⟩ := hJ n hj
      simp only [Mst.move] at h1
      rw [k] at h1; cases h1
  · rintro n q D b (rfl | hj) h1 h2 h3 hb
    · simp only [Mst.move, κset_same, Option.some.injEq] at h3
      subst h3
      rcases hfp b hb with hnew' | ⟨j, C, hj, hC, hb'⟩
      · refine ⟨fun k qk Dk hk k1 k2 k3 k4 => ?_, fun hF => ?_, hnew'.2⟩
        · obtain ⟨_, k1'⟩ := hget k qk hk k1 k2
          simp only [Mst.move] at k3
          rw [κset_ne _ _ hk] at k3
          have := (ok.own b ⟨k, qk, Dk, k1', k2, k3, k4⟩).2
          omega
        · have := ok.Flt b hF
          omega
      · have ho := ok.own b (hJo j C b hj hC hb')
        refine ⟨fun k qk Dk hk k1 k2 k3 k4 => ?_, ho.1, by simp only [Mst.move]; omega⟩
        obtain ⟨hkJ, k1'⟩ := hget k qk hk k1 k2
        simp only [Mst.move] at k3
        rw [κset_ne _ _ hk] at k3
        obtain ⟨o, j1, j2, _⟩ := hJ j hj
        exact ok.disj k j qk o Dk C b (fun e => hkJ (e ▸ hj)) k1' j1 k2 j2 k3 hC k4 hb'
    · obtain ⟨o, _, _, k⟩ := hJ n hj
      simp only [Mst.move] at h1
      rw [k] at h1; cases h1
      cases h2
  · intro b hb
    have := ok.Flt b hb
    simp only [Mst.move]; omega
  · intro b hb hn
    exact hH b hb fun j C hj hC hc => hn (hJo j C b hj hC hc)
  · intro b hb hlt
    rcases hOwn b hb with h | h
    · omega
    · exact h

/-! ### Boxes -/
theorem new_box {P : Program} {M : Mst} {w : World} (ok : Ok M) (hM : M.H = w.heap) {nm : Nat} {vs : List CVal} {us : Array Value} {e : TypeId} {s : Sem Value} (hnm : M.h nm = none)
    (hvs : All2 (CRep M) vs us.toList) (hr : s.run P w = .ok (.pointer (some ⟨w.heap.size, 0, none⟩)) (w.alloc (.cells us e))) :
    RunsV P s M w (.c (.ptr nm 0)) [(nm, .box true vs)] := by
  let C : Conc := ⟨some M.H.size, 0, 0, 0, []⟩
  have := Mst.new_ok ok hnm (.box true vs) C (.cells us e) (by simp [C, Conc.fp]) (by
    refine ⟨M.H.size, us, e, rfl, rfl, push_new, hvs.mono fun _ _ h => h.ext (Mst.new_ext ok hnm _ _ _), fun h => (by cases h)⟩)
  exact ⟨_, _, _, hr, rfl, rfl, rfl, by show M.H.push _ = w.heap.push _; rw [hM], rfl, this.1, this.2, C, M.H.size, κset_same _ _ _, rfl, by rw [hM]⟩

/-! ### Zeros -/
theorem zero_rep {H : Array Go.Obj} {F : Nat → Prop} : ∀ (t : Ty) (rd : Nat → Option Value), (∀ j, j < t.size → rd j = (zeroVals t)[j]?) → ERep H F t t.dflt rd
  | .int k, rd, h => by simp only [ERep, Ty.dflt]; rw [h 0 (by simp [Ty.size])]; rfl
  | .bool, rd, h => by simp only [ERep, Ty.dflt]; rw [h 0 (by simp [Ty.size])]; rfl
  | .sl t, rd, h => by
    simp only [ERep, Ty.dflt]
    exact ⟨none, 0, 0, by rw [h 0 (by simp [Ty.size])]; rfl, rfl, Nat.le_refl _, .inl ⟨by trivial, fun _ => rfl⟩⟩
  | .pair a b, rd, h => by
    have hl : ∀ t : Ty, (zeroVals t).length = t.size := by
      intro t
      induction t with
      | pair a b iha ihb => simp [zeroVals, Ty.size, iha, ihb]
      | _ => rfl
    simp only [ERep, Ty.dflt]
    simp only [Ty.size, zeroVals] at h
    refine ⟨zero_rep a rd fun j hj => ?_, zero_rep b _ fun j hj => ?_⟩
    · rw [h j (by omega), List.getElem?_append_left (by rw [hl]; exact hj)]
    · rw [h _ (by omega), List.getElem?_append_right (by rw [hl]; omega), hl]
      congr 1; omega

theorem zeroVals_length : ∀ t : Ty, (zeroVals t).length = t.size
  | .int _ | .bool | .sl _ => rfl
  | .pair a b => by simp [zeroVals, Ty.size, zeroVals_length a, zeroVals_length b]

theorem valEq_eq {a b : Value} (h : valEq a b = true) : a = b := by
  unfold valEq at h
  split at h
  · simp only [Bool.and_eq_true, decide_eq_true_eq] at h
    rw [kindEq_spec h.1, h.2]
  · rename_i x y
    cases x <;> cases y <;> first | rfl | cases h
  · rfl
  · cases h
theorem valsEq_eq : ∀ {l m : List Value}, valsEq l m = true → l = m
  | [], [], _ => rfl
  | a :: l, b :: m, h => by
    simp only [valsEq, Bool.and_eq_true] at h
    rw [valEq_eq h.1, valsEq_eq h.2]
  | [], _ :: _, h => by cases h
  | _ :: _, [], h => by cases h

theorem elemTy_some {P : Program} {e : TypeId} {t : Ty} (h : elemTy P e = some t) : ∃ i z, P.info? e = some i ∧ i.zero = some z ∧ i.size = t.size ∧ z.cells.toList = zeroVals t ∧ P.cellsOf e = t.size ∧ P.bytesOf e = i.bytes ∧ z.cells.size = t.size := by
  unfold elemTy at h
  split at h
  · rename_i t' i h1 h2
    split at h
    · rename_i z hz
      cases hb : (Nat.beq i.size t'.size && valsEq z.cells.toList (zeroVals t')) with
      | false => rw [hb] at h; cases h
      | true =>
        rw [hb] at h
        cases h
        simp only [Bool.and_eq_true] at hb
        have e1 := Nat.eq_of_beq_eq_true hb.1
        have e2 := valsEq_eq hb.2
        refine ⟨i, z, h2, hz, e1, e2, by rw [cellsOf_info h2]; exact e1, bytesOf_info h2, ?_⟩
        have := congrArg List.length e2
        rw [zeroVals_length] at this
        simpa using this
    · cases h
  · cases h

theorem zero_at {z : Value} {t : Ty} (h : z.cells.toList = zeroVals t) (hs : z.cells.size = t.size) {i j : Nat} (hj : j < t.size) : z.cells[(i * t.size + j) % z.cells.size]! = (zeroVals t)[j]'(by rw [zeroVals_length]; exact hj) := by
  have e1 : (i * t.size + j) % z.cells.size = j := by rw [hs, Nat.mul_comm, Nat.mul_add_mod, Nat.mod_eq_of_lt hj]
  rw [e1, getElem!_pos z.cells j (by omega)]
  have : z.cells.toList[j]'(by simp; omega) = (zeroVals t)[j]'(by rw [zeroVals_length]; exact hj) := by simp only [h]
  simpa using this

/-- A row of zeros. -/
theorem made_rep {H : Array Go.Obj} {F : Nat → Prop} {z : Value} {t : Ty} (h : z.cells.toList = zeroVals t) (hs : z.cells.size = t.size) {n i : Nat} (hi : i < n) :
    ERep H F t t.dflt (fun j => (madeCells z.cells (n * t.size))[i * t.size + j]?) := by
  refine zero_rep t _ fun j hj => ?_
  have hrow := Nat.mul_le_mul_right t.size (show i + 1 ≤ n by omega)
  rw [Nat.add_mul] at hrow
  rw [List.getElem?_eq_getElem (by rw [zeroVals_length]; exact hj), ← zero_at h hs (i := i) hj]
  simp only [madeCells]
  rw [Array.getElem?_map, Array.getElem?_range]
  simp only [show i * t.size + j < n * t.size by omega, if_true, Option.map_some]

theorem new_arr {P : Program} {M : Mst} {w : World} (ok : Ok M) (hM : M.H = w.heap) {nm : Nat} {t : Ty} {xs : List t.den} {us : Array Value} {e : TypeId} {s : Sem Value} {c : Nat} (hnm : M.h nm = none)
    (hc : xs.length ≤ c) (hs : c * t.size ≤ us.size) (hx : ∀ i (h : i < xs.length), ERep M.H M.G t xs[i] (fun j => us[i * t.size + j]?))
    (hr : s.run P w = .ok (.slice (some ⟨w.heap.size, 0, none⟩) xs.length c) (w.alloc (.cells us e))) :
    RunsV P s M w (.c (.osl nm none)) [(nm, .arr true t xs)] := by
  let C : Conc := ⟨some M.H.size, xs.length, t.size, 0, []⟩
  have x := Mst.new_ext ok hnm (.arr true t xs) C (.cells us e)
  have hle := Nat.mul_le_mul_right t.size hc
  have := Mst.new_ok ok hnm (.arr true t xs) C (.cells us e) (by simp [C, Conc.fp]) (by
    refine ⟨rfl, rfl, fun _ => rfl, us, e, push_new, fun h => (by cases h), by omega, fun i hi => ?_⟩
    exact ERep_mono x.G x.sameG t _ _ _ (fun _ _ => rfl) (hx i hi))
  refine ⟨_, _, _, hr, rfl, rfl, rfl, by show M.H.push _ = w.heap.push _; rw [hM], rfl, this.1, this.2, C, κset_same _ _ _, _, c, rfl, ?_⟩
  refine ⟨hc, 0, by rw [hM], .inr (by simp), ?_⟩
  simp only [Nat.zero_add]
  have : bsize (M.H.push (.cells us e)) M.H.size = us.size := by simp [bsize]
  show c * t.size ≤ bsize (M.H.push (.cells us e)) M.H.size
  rw [this]; exact hs

theorem allocS_sound {P : Program} {M : Mst} {w : World} (ok : Ok M) (hM : M.H = w.heap) {nm : Nat} {t : TypeId} {zs : List CVal} (hnm : M.h nm = none) (hz : zeroCells P t = some zs) :
    RunsV P (Instr.alloc t true (.tuple #[])) M w (.c (.ptr nm 0)) [(nm, .box true zs)] := by
  obtain ⟨i, v, h1, h2, h3, h4, rfl⟩ := zeroCells_some hz
  refine new_box ok hM hnm (us := v.cells) (e := t) (absCs_rep M h4) ?_
  simp [Instr.alloc, zeroValue, typeInfo, h1, h2, newVar, newRow]

theorem boxS_sound {P : Program} {M : Mst} {w : World} (ok : Ok M) (hM : M.H = w.heap) {nm : Nat} {t : TypeId} {x : AVal} {rx : Value} {vs : List CVal} (hnm : M.h nm = none) (hx : VRep M x rx) (hv : valCells x = some vs) :
    RunsV P (Instr.box t rx) M w (.c (.ptr nm 0)) [(nm, .box true vs)] := by
  refine new_box ok hM hnm (us := rx.cells) (e := t) (valCells_rep hv hx) ?_
  simp [Instr.box, newVar, newRow]

theorem getElem_replicate' {α : Type} {n i : Nat} {a : α} (h : i < (List.replicate n a).length) : (List.replicate n a)[i] = a := by simp

/-- A row of rows, none of which has anything. -/
theorem new_mat0 {P : Program} {M : Mst} {w : World} (ok : Ok M) (hM : M.H = w.heap) {nm n : Nat} {us : Array Value} {e : TypeId} {s : Sem Value} {c : Nat} (hnm : M.h nm = none)
    (hc : n ≤ c) (hs : c ≤ us.size) (hx : ∀ i, i < n → us[i]? = some (.slice none 0 0))
    (hr : s.run P w = .ok (.slice (some ⟨w.heap.size, 0, none⟩) n c) (w.alloc (.cells us e))) :
    RunsV P s M w (.c (.osl nm none)) [(nm, .mat 0 (List.replicate n []))] := by
  let C : Conc := ⟨some M.H.size, n, 1, 0, List.replicate n (none, 0)⟩
  have hfm : (List.replicate n ((none, 0) : Option Nat × Nat)).filterMap (·.1) = [] := by
    rw [List.filterMap_eq_nil_iff]
    intro a ha
    rw [List.eq_of_mem_replicate ha]
  have hfp : C.fp = [M.H.size] := by simp [C, Conc.fp, hfm]
  have := Mst.new_ok ok hnm (.mat 0 (List.replicate n [])) C (.cells us e) (by rw [hfp]; simp) (by
    refine ⟨rfl, by simp [C], rfl, by simp [C], by rw [hfp]; simp, us, e, push_new, by simp; omega, fun i hi => ?_⟩
    have hin : i < n := by simpa using hi
    refine ⟨none, .slice none 0 0, by simp [C, hin], hx i hin, ⟨rfl, by simp⟩, fun R hR => (by cases hR)⟩)
  refine ⟨_, _, _, hr, rfl, rfl, rfl, by show M.H.push _ = w.heap.push _; rw [hM], rfl, this.1, this.2, C, κset_same _ _ _, _, c, rfl, ?_⟩
  refine ⟨hc, 0, by rw [hM], .inr (by simp), ?_⟩
  simp only [Nat.zero_add]
  have : bsize (M.H.push (.cells us e)) M.H.size = us.size := by simp [bsize]
  show c * 1 ≤ bsize (M.H.push (.cells us e)) M.H.size
  rw [this]; omega

theorem makeSliceS_sound {P : Program} {M : Mst} {w : World} (ok : Ok M) (hM : M.H = w.heap) {mat : Bool} {nm : Nat} {t : TypeId} {l c v : AVal} {u : Upd} {rl rc : Value} (hl : VRep M l rl) (hc : VRep M c rc)
    (h : Yields (makeSliceS P mat nm M.h t l c) v u) : RunsV P (Instr.makeSlice t rl rc) M w v u := by
  unfold makeSliceS at h
  split at h
  · rename_i e l c hu hnm
    have e1 : rl = .int .i64 l := hl
    have e2 : rc = .int .i64 c := hc
    subst e1; subst e2
    cases mat with
    | true =>
      simp only [cond_true] at h
      split at h
      · rename_i hty
        obtain ⟨hok, rfl, rfl⟩ := yields_alt h
        obtain ⟨i, z, h1, h2, h3, h4, h5, h6, h7⟩ := elemTy_some hty
        simp only [Bool.and_eq_true, decide_eq_true_eq] at hok
        obtain ⟨⟨⟨o1, o2⟩, o3⟩, o4⟩ := hok
        have hr := run_make (P := P) w t e i z hu h1 h2 .i64 .i64 l c o1 o2 (by rw [h6] at o3; rw [Int.mul_comm]; omega) (by omega)
        have hsz : i.size = 1 := h3
        rw [hsz, Nat.mul_one] at hr
        refine new_mat0 ok hM hnm (n := l.toNat) (c := c.toNat) (by omega) (by rw [size_madeCells]; exact Nat.le_refl _) (fun k hk => ?_) hr
        have hz0 : z.cells.toList = [.slice none 0 0] := h4
        have hz1 : z.cells.size = 1 := h7
        simp only [madeCells]
        rw [Array.getElem?_map, Array.getElem?_range]
        simp only [show k < c.toNat by omega, if_true, Option.map_some, hz1, Nat.mod_one]
        rw [getElem!_pos z.cells 0 (by omega)]
        have : z.cells.toList[0]'(by simp; omega) = .slice none 0 0 := by simp only [hz0, List.getElem_cons_zero]
        simpa using this
      · exact h.elim
    | false =>
      simp only [cond_false] at h
      split at h
      · rename_i ty hty
        obtain ⟨hok, rfl, rfl⟩ := yields_alt h
        obtain ⟨i, z, h1, h2, h3, h4, h5, h6, h7⟩ := elemTy_some hty
        simp only [Bool.and_eq_true, decide_eq_true_eq] at hok
        obtain ⟨⟨⟨o1, o2⟩, o3⟩, o4⟩ := hok
        have hr := run_make (P := P) w t e i z hu h1 h2 .i64 .i64 l c o1 o2 (by rw [h6] at o3; rw [Int.mul_comm]; omega) (by omega)
        rw [h3] at hr
        refine new_arr ok hM hnm (c := c.toNat) (us := madeCells z.cells (c.toNat * ty.size)) (e := e) (by simp; omega) (by rw [size_madeCells]; exact Nat.le_refl _) (fun k hk => ?_) (by simpa using hr)
        rw [getElem_replicate' hk]
        simp only [List.length_replicate] at hk
        exact made_rep h4 h7 (by omega)
      · exact h.elim
  · exact h.elim
end Go.Ab
