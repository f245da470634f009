/- Calls that hand over boxes: the way in. -/
import Derived.Test.YtpmkkfbnaohlhaaGiAb33
set_option linter.unusedVariables false
set_option linter.unusedSimpArgs false
set_option linter.unusedSectionVars false
namespace Go.Ab

/-- A block of what is handed over. -/
def Hand (M : Mst) (mine : List Nat) (b : Nat) : Prop := ∃ id ∈ mine, ∃ C, M.κ id = some C ∧ b ∈ C.fp

/-- The callee's view. -/
structure LoX (M : Mst) (mine : List Nat) (Ml : Mst) : Prop where
  H : Ml.H = M.H
  F : Ml.F = fun b => b < M.H.size ∧ ¬ Hand M mine b
  G : Ml.G = M.G

/-- All that is handed over is the caller's own. -/
def Owned (M : Mst) (mine : List Nat) : Prop := ∀ id ∈ mine, ∃ o, M.h id = some o ∧ o.owned = true

theorem Hand.own {M : Mst} {mine : List Nat} (ho : Owned M mine) {b : Nat} (h : Hand M mine b) : Own M b := by
  obtain ⟨id, hid, C, hC, hb⟩ := h
  obtain ⟨o, h1, h2⟩ := ho id hid
  exact ⟨id, o, C, h1, h2, hC, hb⟩

theorem not_hand_F {M : Mst} (ok : Ok M) {mine : List Nat} (ho : Owned M mine) {b : Nat} (h : M.F b) : b < M.H.size ∧ ¬ Hand M mine b := ⟨ok.Flt b h, fun hh => (ok.own b (hh.own ho)).1 h⟩

/-- Frozen by itself: nothing of what is handed over lies in it. -/
theorem frozen_apart {M M' : Mst} (ok : Ok M) {mine : List Nat} (ho : Owned M mine) {id : Nat} {o : Obj} (hn : id ∉ mine) (hh : M'.h = hset M.h id o) (hκ : M'.κ = M.κ) (hH : M'.H = M.H) (ok' : Ok M') {b : Nat} (h : M'.G b) : b < M.H.size ∧ ¬ Hand M mine b := by
  have hf := ok'.GF b h
  refine ⟨by have := ok'.Flt b hf; rwa [hH] at this, fun hd => ?_⟩
  obtain ⟨jd, hj, C, hC, hb⟩ := hd
  obtain ⟨q, h1, h2⟩ := ho jd hj
  refine (ok'.own b ⟨jd, q, C, ?_, h2, ?_, hb⟩).1 hf
  · rw [hh, hset_ne _ _ (fun e => hn (by rw [← e]; exact hj))]; exact h1
  · rw [hκ]; exact hC

theorem readSl_apart {M : Mst} (ok : Ok M) {mine : List Nat} (ho : Owned M mine) {c : CVal} {v : Value} {t : Ty} {xs : List t.den} (hn : ∀ id ∈ idsC c, id ∉ mine) (hv : CRep M c v) (h : readSl M.h c = some ⟨t, xs⟩) :
    ERep M.H (fun b => b < M.H.size ∧ ¬ Hand M mine b) (.sl t) xs (fun _ => some v) := by
  unfold readSl at h
  split at h
  · rename_i sh s ys
    cases h
    cases sh with
    | true => exact ERep_mono (fun b hb => not_hand_F ok ho (ok.GF b hb)) (fun _ _ => rfl) _ _ _ _ (fun _ _ => rfl) hv
    | false => exact ERep_mono (fun b hb => not_hand_F ok ho hb) (fun _ _ => rfl) _ _ _ _ (fun _ _ => rfl) hv
  · rename_i id r
    have hid' : id ∉ mine := hn id (by simp [idsC])
    split at h
    · rename_i own s ys hid
      cases h
      cases own with
      | false =>
        obtain ⟨C, hC, hO⟩ := ok.obj _ _ hid
        exact ERep_mono (fun b hb => not_hand_F ok ho (ok.GF b hb)) (fun _ _ => rfl) _ _ _ _ (fun _ _ => rfl) (arr_fsl hC hO hv)
      | true =>
        obtain ⟨M', h1, h2, h3, h4, h5⟩ := frz_arr' ok hid
        obtain ⟨C, hC, hO⟩ := h3.obj id _ (by rw [h2]; exact hset_same _ _ _)
        have := arr_fsl hC hO (hv.ext h4.ext)
        exact ERep_mono (fun b hb => frozen_apart ok ho hid' h2 h5 h1 h3 hb) (fun b _ => by rw [h1]) _ _ _ _ (fun _ _ => rfl) this
    · rename_i ver ys hid
      cases r with
      | some p => cases h
      | none =>
        cases h
        obtain ⟨M', h1, h2, h3, h4, h5⟩ := frz_mat' ok hid
        obtain ⟨C, hC, hO⟩ := h3.obj id _ (by rw [h2]; exact hset_same _ _ _)
        have := arr_fsl (r := none) hC hO (hv.ext h4.ext)
        exact ERep_mono (fun b hb => frozen_apart ok ho hid' h2 h5 h1 h3 hb) (fun b _ => by rw [h1]) _ _ _ _ (fun _ _ => rfl) this
    · cases h
  · rename_i id i ver
    have hid' : id ∉ mine := hn id (by simp [idsC])
    split at h
    · rename_i v' ys hid
      cases hver : Nat.beq v' ver with
      | false => rw [hver] at h; cases h
      | true =>
        rw [hver] at h
        cases h
        have e : v' = ver := by simpa using hver
        subst e
        obtain ⟨C, hC, hO⟩ := ok.obj _ _ hid
        obtain ⟨C', hC', hone, _, hrow⟩ := hv
        rw [hC] at hC'; cases hC'
        obtain ⟨rb, rl, hr1, hr2⟩ := hrow hO.1
        by_cases hi : i < ys.length
        · obtain ⟨B, rb', v2, k1, k2, k3, k4, k5, k6⟩ := mat_row hO hi
          rw [hr1] at k3
          cases k3
          rw [show ys.getD i [] = ys[i] by simp [List.getD, hi]]
          simp only [ERep]
          cases rb with
          | none =>
            obtain ⟨rfl, h0⟩ := hr2
            exact ⟨none, 0, 0, rfl, h0.symm, Nat.le_refl _, .inl ⟨List.eq_nil_of_length_eq_zero h0, fun _ => rfl⟩⟩
          | some R =>
            obtain ⟨a, c, rfl, h1, h2, h3⟩ := hr2
            refine ⟨_, _, c, rfl, rfl, h1, ?_⟩
            by_cases h0 : ys[i].length = 0
            · exact .inl ⟨List.eq_nil_of_length_eq_zero h0, fun h => by cases h⟩
            · have ha : a = 0 := by rcases h2 with h | h <;> omega
              subst ha
              have hR : R ∈ C.fp := by
                have : (some R, ys[i].length) ∈ C.rows := List.mem_of_getElem? hr1
                simp only [Conc.fp, List.mem_append, List.mem_filterMap]
                exact .inr ⟨_, this, rfl⟩
              refine .inr ⟨R, 0, rfl, ⟨?_, fun hd => ?_⟩, fun j hj => ?_⟩
              · have := k6 R rfl 0 (by omega)
                unfold hcell at this
                cases hR : M.H[R]? with
                | none => rw [hR] at this; cases this
                | some x => exact (Array.getElem?_eq_some_iff.1 hR).1
              · obtain ⟨jd, hj, D, hD, hb⟩ := hd
                obtain ⟨q, q1, q2⟩ := ho jd hj
                exact ok.disj jd id q _ D C R (fun e => hid' (by rw [← e]; exact hj)) q1 hid q2 rfl hD hC hb hR
              · simp only [ERep, Ty.size, Nat.zero_add, Nat.mul_one, Nat.add_zero]
                exact k6 R rfl j hj
        · have : C.rows[i]? = none := List.getElem?_eq_none (by have := hO.2.2.2.1; omega)
          rw [this] at hr1; cases hr1
    · cases h
  · cases h

/-- One cell stands for another's value in the callee's view. -/
def TrX (M : Mst) (mine : List Nat) (c c' : CVal) : Prop := ∀ v Ml, LoX M mine Ml → CRep M c v → CRep Ml c' v

theorem inP_trX {M : Mst} (ok : Ok M) {mine : List Nat} (ho : Owned M mine) {p : PC} {c : CVal} {d : p.den} (hn : ∀ id ∈ idsC c, id ∉ mine) (h : inP M.h p c = some d) : TrX M mine c (absP p d) := by
  intro v Ml lo hv
  unfold inP at h
  split at h
  · rename_i k j n
    cases e : kindEq j k with
    | false => rw [e] at h; cases h
    | true => rw [e] at h; cases h; rw [← kindEq_spec e]; exact hv
  · cases h; exact hv
  · rename_i t c
    show ERep Ml.H Ml.F _ _ _
    rw [lo.H, lo.F]
    unfold dataOf at h
    split at h
    · cases h
      rw [show v = .slice none 0 0 from hv]
      exact ERep_nil
    · split at h
      · rename_i s ys hr
        obtain ⟨e, hx⟩ := castL_some h
        subst e
        subst hx
        exact readSl_apart ok ho hn hv hr
      · cases h
  · rename_i t s xs
    obtain ⟨e, hx⟩ := castL_some h
    subst e
    subst hx
    show ERep Ml.H Ml.G _ _ _
    rw [lo.H, lo.G]
    exact hv
  · cases h
    rw [show v = .slice none 0 0 from hv]
    exact ERep_nil
  · rename_i f g
    cases e : Nat.beq f g with
    | false => rw [e] at h; cases h
    | true =>
      have : f = g := by simpa using e
      subst this
      obtain ⟨cv, rfl, hc⟩ := hv
      refine ⟨cv, rfl, ?_⟩
      generalize cv.toList = l at hc
      cases l with
      | nil => trivial
      | cons _ _ => exact hc.elim
  · cases h

/-- A cell in the callee's view, where rows have names of their own. -/
def TrK (M : Mst) (mine : List Nat) (κ : Nat → Option Conc) (c c' : CVal) : Prop := ∀ v Ml, LoX M mine Ml → Ml.κ = κ → CRep M c v → CRep Ml c' v

/-- Rows that are handed over, under names of their own. -/
structure RowAt (M : Mst) (id : Nat) (o : Obj) (C : Conc) : Prop where
  κ : M.κ id = some C
  rep : ∀ Ml : Mst, Ml.H = M.H → Ml.G = M.G → ORep Ml o { C with ver := 0 }
  own : o.owned = true
  was : ∃ q, M.h id = some q ∧ q.owned = true

theorem ORep_imap_at {M Ml : Mst} (hH : Ml.H = M.H) {kvs : List (Int × Bool)} {C : Conc} (h : ORep M (.imap kvs) C) : ORep Ml (.imap kvs) { C with ver := 0 } := by
  obtain ⟨B, es, ck, h1, h2, h3, h4, h5⟩ := h
  exact ⟨B, es, ck, h1, h2, by rw [hH]; exact h3, h4, h5⟩

theorem inXL_tr {M : Mst} (ok : Ok M) {mine : List Nat} (ho : Owned M mine) {κ : Nat → Option Conc} : ∀ {l : List XC} {cs : List CVal} {d : XL l} {n : Nat}, inXL M.h l cs = some d → (∀ id ∈ datIds l cs, id ∉ mine) →
    (rowIds l cs).length = (absXL l d n).2.length ∧ (∀ (i : Nat) (id : Nat) (o : Obj), (rowIds l cs)[i]? = some id → (absXL l d n).2[i]? = some o → ∃ C, RowAt M id o C) ∧
      ((∀ (i : Nat) (id : Nat) (C : Conc), (rowIds l cs)[i]? = some id → M.κ id = some C → κ (n + i) = some { C with ver := 0 }) → All2 (TrK M mine κ) cs (absXL l d n).1)
  | [], [], _, n, _, _ => ⟨rfl, fun i id o h => by simp [rowIds] at h, fun _ => trivial⟩
  | x :: l, c :: cs, d, n, h, hn => by
    unfold inXL at h
    split at h
    · rename_i y ys h1 h2
      cases h
      cases x with
      | p p =>
        have hn1 : ∀ id ∈ idsC c, id ∉ mine := fun id hid => hn id (List.mem_append_left _ hid)
        obtain ⟨k1, k2, k3⟩ := inXL_tr ok ho (κ := κ) (n := n) h2 (fun id hid => hn id (List.mem_append_right _ hid))
        exact ⟨k1, k2, fun hκ => ⟨fun v Ml lo _ hv => inP_trX ok ho hn1 h1 v Ml lo hv, k3 hκ⟩⟩
      | own t =>
        cases c with
        | osl id r =>
          cases r with
          | some _ => cases h1
          | none =>
            have h1 : (match M.h id with | some (.arr true s xs) => castL s t xs | _ => none) = some y := h1
            split at h1
            · rename_i s xs hid
              obtain ⟨e, hx⟩ := castL_some h1
              subst e
              subst hx
              obtain ⟨C, hC, hO⟩ := ok.obj id _ hid
              obtain ⟨k1, k2, k3⟩ := inXL_tr ok ho (κ := κ) (n := n + 1) h2 hn
              refine ⟨by simp only [rowIds, absXL, List.length_cons, k1], fun i jd o hi ho' => ?_, fun hκ => ⟨fun v Ml lo hk hv => ?_, k3 fun i jd D hi hD => ?_⟩⟩
              · cases i with
                | zero =>
                  cases hi
                  cases ho'
                  refine ⟨C, hC, fun Ml e1 e2 => ?_, rfl, _, hid, rfl⟩
                  obtain ⟨q1, q2, q3, q4⟩ := hO
                  refine ⟨q1, q2, q3, ?_⟩
                  rw [e1, e2]
                  exact q4
                | succ i => exact k2 i jd o hi ho'
              · obtain ⟨D, hD, hS⟩ := hv
                rw [hC] at hD; cases hD
                refine ⟨{ C with ver := 0 }, by rw [hk]; exact hκ 0 id C rfl hC, ?_⟩
                show SlV Ml.H { C with ver := 0 } 0 C.len v
                rw [lo.H]
                exact hS
              · have := hκ (i + 1) jd D hi hD
                rw [← this]; congr 1; omega
            · cases h1
        | _ => cases h1
      | mat =>
        cases c with
        | osl id r =>
          cases r with
          | some _ => cases h1
          | none =>
            have h1 : (match M.h id with | some (.mat _ xs) => some xs | _ => none) = some y := h1
            split at h1
            · rename_i ver xs hid
              cases h1
              obtain ⟨C, hC, hO⟩ := ok.obj id _ hid
              obtain ⟨k1, k2, k3⟩ := inXL_tr ok ho (κ := κ) (n := n + 1) h2 hn
              refine ⟨by simp only [rowIds, absXL, List.length_cons, k1], fun i jd o hi ho' => ?_, fun hκ => ⟨fun v Ml lo hk hv => ?_, k3 fun i jd D hi hD => ?_⟩⟩
              · cases i with
                | zero =>
                  cases hi
                  cases ho'
                  refine ⟨C, hC, fun Ml e1 e2 => ?_, rfl, _, hid, rfl⟩
                  obtain ⟨q1, q2⟩ := hO
                  refine ⟨rfl, ?_⟩
                  rw [e1]
                  exact q2
                | succ i => exact k2 i jd o hi ho'
              · obtain ⟨D, hD, hS⟩ := hv
                rw [hC] at hD; cases hD
                refine ⟨{ C with ver := 0 }, by rw [hk]; exact hκ 0 id C rfl hC, ?_⟩
                show SlV Ml.H { C with ver := 0 } 0 C.len v
                rw [lo.H]
                exact hS
              · have := hκ (i + 1) jd D hi hD
                rw [← this]; congr 1; omega
            · cases h1
        | _ => cases h1
      | map =>
        cases c with
        | map id =>
          have h1 : (match M.h id with | some (.imap kvs) => some kvs | _ => none) = some y := h1
          split at h1
          · rename_i kvs hid
            cases h1
            obtain ⟨C, hC, hO⟩ := ok.obj id _ hid
            obtain ⟨k1, k2, k3⟩ := inXL_tr ok ho (κ := κ) (n := n + 1) h2 hn
            refine ⟨by simp only [rowIds, absXL, List.length_cons, k1], fun i jd o hi ho' => ?_, fun hκ => ⟨fun v Ml lo hk hv => ?_, k3 fun i jd D hi hD => ?_⟩⟩
            · cases i with
              | zero =>
                cases hi
                cases ho'
                exact ⟨C, hC, fun Ml e1 e2 => ORep_imap_at e1 hO, rfl, _, hid, rfl⟩
              | succ i => exact k2 i jd o hi ho'
            · obtain ⟨D, B, hD, hB, e⟩ := hv
              rw [hC] at hD; cases hD
              exact ⟨{ C with ver := 0 }, B, by rw [hk]; exact hκ 0 id C rfl hC, hB, e⟩
            · have := hκ (i + 1) jd D hi hD
              rw [← this]; congr 1; omega
          · cases h1
        | _ => cases h1
    · cases h
  | [], _ :: _, _, _, h, _ => by cases h
  | _ :: _, [], _, _, h, _ => by cases h
end Go.Ab
