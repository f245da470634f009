/- Calls by data: the way in. -/
import Derived.Test.YtpmkkfbnaohlhaaGiAb24
set_option linter.unusedVariables false
set_option linter.unusedSimpArgs false
set_option linter.unusedSectionVars false
namespace Go.Ab

/-- The callee's view: all that lies there is not written. -/
structure Lo (M Ml : Mst) : Prop where
  H : Ml.H = M.H
  F : Ml.F = fun b => b < M.H.size
  G : Ml.G = M.G

theorem below_of_frz {M M' : Mst} (ok : Ok M') (hH : M'.H = M.H) {t : Ty} {xs : List t.den} {v : Value} (h : ERep M'.H M'.G (.sl t) xs (fun _ => some v)) : ERep M.H (fun b => b < M.H.size) (.sl t) xs (fun _ => some v) := by
  refine ERep_mono (fun b hb => ?_) (fun b _ => by rw [hH]) _ _ _ _ (fun _ _ => rfl) h
  have := ok.Flt b (ok.GF b hb)
  rw [hH] at this
  exact this

theorem readSl_below {M : Mst} (ok : Ok M) {c : CVal} {v : Value} {t : Ty} {xs : List t.den} (hv : CRep M c v) (h : readSl M.h c = some ⟨t, xs⟩) : ERep M.H (fun b => b < M.H.size) (.sl t) xs (fun _ => some v) := by
  unfold readSl at h
  split at h
  · rename_i sh s ys
    cases h
    cases sh with
    | true => exact ERep_mono (fun b hb => ok.Flt b (ok.GF b hb)) (fun _ _ => rfl) _ _ _ _ (fun _ _ => rfl) hv
    | false => exact ERep_mono (fun b hb => ok.Flt b hb) (fun _ _ => rfl) _ _ _ _ (fun _ _ => rfl) hv
  · rename_i id r
    split at h
    · rename_i own s ys hid
      cases h
      cases own with
      | false =>
        obtain ⟨C, hC, hO⟩ := ok.obj _ _ hid
        exact below_of_frz ok rfl (arr_fsl hC hO hv)
      | true =>
        obtain ⟨M', h1, h2, h3, h4⟩ := frz_arr ok hid
        obtain ⟨C, hC, hO⟩ := h3.obj id _ (by rw [h2]; exact hset_same _ _ _)
        exact below_of_frz h3 h1 (arr_fsl hC hO (hv.ext h4.ext))
    · rename_i ver ys hid
      cases r with
      | some p => cases h
      | none =>
        cases h
        obtain ⟨M', h1, h2, h3, h4⟩ := frz_mat ok hid
        obtain ⟨C, hC, hO⟩ := h3.obj id _ (by rw [h2]; exact hset_same _ _ _)
        exact below_of_frz h3 h1 (arr_fsl (r := none) hC hO (hv.ext h4.ext))
    · cases h
  · rename_i id i ver
    split at h
    · rename_i v' ys hid
      cases hver : Nat.beq v' ver with
      | false => rw [hver] at h; cases h
      | true =>
        rw [hver] at h
        cases h
        have e : v' = ver := by simpa using hver
        subst e
        obtain ⟨C, hC, hO⟩ := ok.obj _ _ hid
        obtain ⟨C', hC', hone, _, hrow⟩ := hv
        rw [hC] at hC'; cases hC'
        obtain ⟨rb, rl, hr1, hr2⟩ := hrow hO.1
        by_cases hi : i < ys.length
        · obtain ⟨B, rb', v2, k1, k2, k3, k4, k5, k6⟩ := mat_row hO hi
          rw [hr1] at k3
          cases k3
          rw [show ys.getD i [] = ys[i] by simp [List.getD, hi]]
          simp only [ERep]
          cases rb with
          | none =>
            obtain ⟨rfl, h0⟩ := hr2
            exact ⟨none, 0, 0, rfl, h0.symm, Nat.le_refl _, .inl ⟨List.eq_nil_of_length_eq_zero h0, fun _ => rfl⟩⟩
          | some R =>
            obtain ⟨a, c, rfl, h1, h2, h3⟩ := hr2
            refine ⟨_, _, c, rfl, rfl, h1, ?_⟩
            by_cases h0 : ys[i].length = 0
            · exact .inl ⟨List.eq_nil_of_length_eq_zero h0, fun h => by cases h⟩
            · have ha : a = 0 := by rcases h2 with h | h <;> omega
              subst ha
              refine .inr ⟨R, 0, rfl, ?_, fun j hj => ?_⟩
              · have := k6 R rfl 0 (by omega)
                unfold hcell at this
                cases hR : M.H[R]? with
                | none => rw [hR] at this; cases this
                | some x => exact (Array.getElem?_eq_some_iff.1 hR).1
              · simp only [ERep, Ty.size, Nat.zero_add, Nat.mul_one, Nat.add_zero]
                exact k6 R rfl j hj
        · have : C.rows[i]? = none := List.getElem?_eq_none (by have := hO.2.2.2.1; omega)
          rw [this] at hr1; cases hr1
    · cases h
  · cases h

theorem ERep_nil {H : Array Go.Obj} {F : Nat → Prop} {t : Ty} : ERep H F (.sl t) ([] : List t.den) (fun _ => some (.slice none 0 0)) := ⟨none, 0, 0, rfl, rfl, Nat.le_refl _, .inl ⟨rfl, fun _ => rfl⟩⟩

theorem dataOf_below {M : Mst} (ok : Ok M) {c : CVal} {v : Value} {t : Ty} {xs : List t.den} (hv : CRep M c v) (h : dataOf M.h t c = some xs) : ERep M.H (fun b => b < M.H.size) (.sl t) xs (fun _ => some v) := by
  unfold dataOf at h
  split at h
  · cases h
    rw [show v = .slice none 0 0 from hv]
    exact ERep_nil
  · split at h
    · rename_i s ys hr
      obtain ⟨e, hx⟩ := castL_some h
      subst e
      subst hx
      exact readSl_below ok hv hr
    · cases h

/-- One cell stands for another's value in the callee's view. -/
def Tr (M : Mst) (c c' : CVal) : Prop := ∀ v Ml, Lo M Ml → CRep M c v → CRep Ml c' v

theorem inP_tr {M : Mst} (ok : Ok M) {p : PC} {c : CVal} {d : p.den} (h : inP M.h p c = some d) : Tr M c (absP p d) := by
  intro v Ml lo hv
  unfold inP at h
  split at h
  · rename_i k j n
    cases e : kindEq j k with
    | false => rw [e] at h; cases h
    | true => rw [e] at h; cases h; rw [← kindEq_spec e]; exact hv
  · cases h; exact hv
  · rename_i t c
    have := dataOf_below ok hv h
    show ERep Ml.H Ml.F _ _ _
    rw [lo.H, lo.F]
    exact this
  · rename_i t s xs
    obtain ⟨e, hx⟩ := castL_some h
    subst e
    subst hx
    show ERep Ml.H Ml.G _ _ _
    rw [lo.H, lo.G]
    exact hv
  · cases h
    rw [show v = .slice none 0 0 from hv]
    exact ERep_nil
  · rename_i f g
    cases e : Nat.beq f g with
    | false => rw [e] at h; cases h
    | true =>
      have : f = g := by simpa using e
      subst this
      obtain ⟨cv, rfl, hc⟩ := hv
      refine ⟨cv, rfl, ?_⟩
      generalize cv.toList = l at hc
      cases l with
      | nil => trivial
      | cons _ _ => exact hc.elim
  · cases h

theorem inL_tr {M : Mst} (ok : Ok M) : ∀ {l : List PC} {cs : List CVal} {d : PL l}, inL M.h l cs = some d → All2 (Tr M) cs (absL l d)
  | [], [], _, _ => trivial
  | p :: l, c :: cs, d, h => by
    unfold inL at h
    split at h
    · rename_i x xs h1 h2
      cases h
      exact ⟨inP_tr ok h1, inL_tr ok h2⟩
    · cases h
  | [], _ :: _, _, h => by cases h
  | _ :: _, [], _, h => by cases h

theorem trs_rep {M Ml : Mst} (lo : Lo M Ml) : ∀ {cs cs' : List CVal} {vs : List Value}, All2 (Tr M) cs cs' → All2 (CRep M) cs vs → All2 (CRep Ml) cs' vs
  | [], [], [], _, _ => trivial
  | _ :: _, _ :: _, _ :: _, h, k => ⟨h.1 _ _ lo k.1, trs_rep lo h.2 k.2⟩
  | [], [], _ :: _, _, k => k.elim
  | [], _ :: _, _, h, _ => h.elim
  | _ :: _, [], _, h, _ => h.elim
  | _ :: _, _ :: _, [], _, k => k.elim

/-! ### Boxes -/
def BoxAt (M : Mst) (C : Conc) (cells : List CVal) : Prop := ∃ B vals e, C.blk = some B ∧ C.rows = [] ∧ M.H[B]? = some (.cells vals e (0, 0)) ∧ All2 (CRep M) cells vals.toList

theorem boxOf_at {M : Mst} (ok : Ok M) {id : Nat} {cells : List CVal} (h : boxOf M.h id = some cells) : ∃ C, M.κ id = some C ∧ BoxAt M C cells := by
  unfold boxOf at h
  split at h
  · rename_i own cs hid
    cases h
    obtain ⟨C, hC, B, vals, e, h1, h2, h3, h4, _⟩ := ok.obj id _ hid
    exact ⟨C, hC, B, vals, e, h1, h2, h3, h4⟩
  · rename_i cs hid
    cases h
    obtain ⟨C, hC, B, vals, e, h1, h2, h3, h4, _⟩ := ok.obj id _ hid
    exact ⟨C, hC, B, vals, e, h1, h2, h3, h4⟩
  · cases h

theorem BoxAt.tr {M Ml : Mst} (lo : Lo M Ml) {C : Conc} {cs cs' : List CVal} (h : BoxAt M C cs) (ht : All2 (Tr M) cs cs') : BoxAt Ml C cs' := by
  obtain ⟨B, vals, e, h1, h2, h3, h4⟩ := h
  exact ⟨B, vals, e, h1, h2, by rw [lo.H]; exact h3, trs_rep lo ht h4⟩

theorem boxesOf_at {M : Mst} (ok : Ok M) : ∀ {ls : List (List PC)} {ids : List Nat} {cs cs' : List CVal}, boxesOf M.h ls ids = some cs → All2 (Tr M) cs cs' → cs.length = ls.flatten.length ∧ ids.length = ls.length ∧
    ∃ Cs : List Conc, All2 (fun id C => M.κ id = some C) ids Cs ∧ ∀ Ml, Lo M Ml → All2 (BoxAt Ml) Cs (cutAll ls cs')
  | [], [], cs, cs', h, ht => by cases h; exact ⟨rfl, rfl, [], trivial, fun _ _ => trivial⟩
  | l :: ls, id :: ids, cs, cs', h, ht => by
    unfold boxesOf at h
    split at h
    · rename_i cells rest h1 h2
      obtain ⟨hl, h⟩ : cells.length = l.length ∧ cells ++ rest = cs := by
        cases e : Nat.beq cells.length l.length with
        | false => rw [e] at h; cases h
        | true => rw [e] at h; cases h; exact ⟨by simpa using e, rfl⟩
      subst h
      have ht1 := All2.take l.length ht
      have ht2 := All2.drop l.length ht
      rw [← hl, List.take_left] at ht1
      rw [← hl, List.drop_left] at ht2
      obtain ⟨C, hC, hB⟩ := boxOf_at ok h1
      obtain ⟨k1, k2, Cs, k3, k4⟩ := boxesOf_at ok h2 ht2
      refine ⟨by simp [hl, k1], by simp [k2], C :: Cs, ⟨hC, k3⟩, fun Ml lo => ⟨?_, ?_⟩⟩
      · rw [← hl]; exact hB.tr lo ht1
      · rw [← hl]; exact k4 Ml lo
    · cases h
  | [], _ :: _, _, _, h, _ => by cases h
  | _ :: _, [], _, _, h, _ => by cases h

theorem cutAll_length : ∀ (ls : List (List PC)) (cs : List CVal), (cutAll ls cs).length = ls.length
  | [], _ => rfl
  | _ :: ls, cs => by simp [cutAll, cutAll_length ls]

/-! ### Arguments -/
theorem arg_rep {M : Mst} (ok : Ok M) {s : AS} {a : AVal} {v : Value} {cs cs' : List CVal} {n : Nat} (hv : VRep M a v) (h : s.get M.h a = some cs) (ht : All2 (Tr M) cs cs') :
    ∃ Cs : List Conc, (∀ Ml, Lo M Ml → All2 (BoxAt Ml) Cs (s.boxes cs')) ∧ (∀ Ml, Lo M Ml → (∀ i C, Cs[i]? = some C → Ml.κ (n + i) = some C) → VRep Ml (s.mk n cs') v) := by
  unfold AS.get at h
  split at h
  · rename_i p x
    cases h
    match cs', ht with
    | [c'], ht => exact ⟨[], fun _ _ => trivial, fun Ml lo _ => ht.1 v Ml lo hv⟩
  · rename_i l xs
    cases e : Nat.beq xs.length l.length with
    | false => rw [e] at h; cases h
    | true =>
      rw [e] at h
      cases h
      obtain ⟨vs, rfl, hx⟩ := hv
      exact ⟨[], fun _ _ => trivial, fun Ml lo _ => ⟨vs, rfl, trs_rep lo ht hx⟩⟩
  · rename_i l id
    have := boxesOf_at ok h ht
    obtain ⟨k1, k2, Cs, k3, k4⟩ := this
    obtain ⟨C, B, hC, hB, e⟩ := hv
    have hl : cs'.length = l.length := by rw [← ht.length, k1]; simp
    match Cs, k3 with
    | [C'], k3 =>
      have e' : C' = C := by
        have : M.κ id = some C' := k3.1
        rw [hC] at this; exact (Option.some.inj this).symm
      subst e'
      refine ⟨[C'], fun Ml lo => ?_, fun Ml lo hκ => ⟨C', B, hκ 0 C' rfl, hB, e⟩⟩
      have := k4 Ml lo
      simp only [cutAll] at this
      rw [List.take_of_length_le (by omega)] at this
      exact this
  · rename_i f caps g ids
    cases e : Nat.beq f g with
    | false => rw [e] at h; cases h
    | true =>
      rw [e] at h
      have efg : f = g := by simpa using e
      subst efg
      obtain ⟨k1, k2, Cs, k3, k4⟩ := boxesOf_at ok h ht
      refine ⟨Cs, k4, fun Ml lo hκ => ?_⟩
      obtain ⟨cv, rfl, hc⟩ := hv
      refine ⟨cv, rfl, ?_⟩
      have l1 := k3.length
      have l2 := hc.length
      refine All2.of_get (by rw [List.length_map, List.length_range]; omega) fun i h1 h2 => ?_
      simp only [List.getElem_map, List.getElem_range]
      have hi : i < ids.length := by simp at h1; omega
      have hi' : i < Cs.length := by omega
      obtain ⟨C, B, q1, q2, q3⟩ := hc.get i hi h2
      have q4 := k3.get i hi hi'
      have q4 : M.κ ids[i] = some Cs[i] := q4
      rw [q1] at q4
      exact ⟨Cs[i], B, hκ i _ (List.getElem?_eq_getElem hi'), by rw [← Option.some.inj q4]; exact q2, q3⟩
  · cases h

theorem boxesOf_length {h : Hp} : ∀ {ls : List (List PC)} {ids : List Nat} {cs : List CVal}, boxesOf h ls ids = some cs → cs.length = ls.flatten.length
  | [], [], cs, e => by cases e; rfl
  | l :: ls, id :: ids, cs, e => by
    unfold boxesOf at e
    split at e
    · rename_i cells rest h1 h2
      cases el : Nat.beq cells.length l.length with
      | false => rw [el] at e; cases e
      | true =>
        rw [el] at e
        cases e
        have : cells.length = l.length := by simpa using el
        simp [this, boxesOf_length h2]
    · cases e
  | [], _ :: _, _, e => by cases e
  | _ :: _, [], _, e => by cases e

theorem get_length {h : Hp} {s : AS} {a : AVal} {cs : List CVal} (e : s.get h a = some cs) : cs.length = s.cells.length := by
  unfold AS.get at e
  split at e
  · cases e; rfl
  · rename_i l xs
    cases el : Nat.beq xs.length l.length with
    | false => rw [el] at e; cases e
    | true => rw [el] at e; cases e; exact Nat.eq_of_beq_eq_true el
  · rw [boxesOf_length e]; simp [AS.cells]
  · rename_i f caps g ids
    cases el : Nat.beq f g with
    | false => rw [el] at e; cases e
    | true => rw [el] at e; exact boxesOf_length e
  · cases e

theorem args_in {M : Mst} (ok : Ok M) : ∀ {l : List AS} {as : List AVal} {vs : List Value} {cs cs' : List CVal} {n : Nat}, All2 (VRep M) as vs → getAll M.h l as = some cs → All2 (Tr M) cs cs' →
    ∃ Cs : List Conc, (∀ Ml, Lo M Ml → All2 (BoxAt Ml) Cs (mkArgs l cs' n).2) ∧ (∀ Ml, Lo M Ml → (∀ i C, Cs[i]? = some C → Ml.κ (n + i) = some C) → All2 (VRep Ml) (mkArgs l cs' n).1 vs)
  | [], [], [], cs, cs', n, _, _, _ => ⟨[], fun _ _ => trivial, fun _ _ _ => trivial⟩
  | s :: l, a :: as, v :: vs, cs, cs', n, hv, h, ht => by
    unfold getAll at h
    split at h
    · rename_i cs1 rest h1 h2
      cases h
      have hl := get_length h1
      have ht1 := All2.take s.cells.length ht
      have ht2 := All2.drop s.cells.length ht
      rw [← hl, List.take_left, hl] at ht1
      rw [← hl, List.drop_left, hl] at ht2
      obtain ⟨C1, k1, k2⟩ := arg_rep ok (n := n) hv.1 h1 ht1
      obtain ⟨C2, k3, k4⟩ := args_in ok (n := n + (s.boxes (cs'.take s.cells.length)).length) hv.2 h2 ht2
      refine ⟨C1 ++ C2, fun Ml lo => (k1 Ml lo).append (k3 Ml lo), fun Ml lo hκ => ⟨k2 Ml lo fun i C hi => hκ i C ?_, k4 Ml lo fun i C hi => ?_⟩⟩
      · have : i < C1.length := by
          rcases Nat.lt_or_ge i C1.length with h | h
          · exact h
          · rw [List.getElem?_eq_none h] at hi; cases hi
        rw [List.getElem?_append_left this]; exact hi
      · have hb := (k1 Ml lo).length
        have := hκ (C1.length + i) C (by rw [List.getElem?_append_right (by omega)]; rw [show C1.length + i - C1.length = i by omega]; exact hi)
        rw [hb, ← Nat.add_assoc] at this
        exact this
    · cases h
  | [], [], _ :: _, _, _, _, hv, _, _ => hv.elim
  | [], _ :: _, _, _, _, _, _, h, _ => by cases h
  | _ :: _, [], _, _, _, _, _, h, _ => by cases h
  | _ :: _, _ :: _, [], _, _, _, hv, _, _ => hv.elim

/-- The callee's own view of memory. -/
def Mst.below (M : Mst) (Cs : List Conc) (bs : List (List CVal)) : Mst := { κ := fun n => Cs[n]?, F := fun b => b < M.H.size, G := M.G, h := boxHp bs, H := M.H }

theorem Mst.below_lo (M : Mst) (Cs : List Conc) (bs : List (List CVal)) : Lo M (M.below Cs bs) := ⟨rfl, rfl, rfl⟩

theorem Mst.below_ok {M : Mst} (ok : Ok M) {Cs : List Conc} {bs : List (List CVal)} (h : All2 (BoxAt (M.below Cs bs)) Cs bs) : Ok (M.below Cs bs) ∧ ∀ b, ¬ Own (M.below Cs bs) b := by
  have hr : ∀ id o, (M.below Cs bs).h id = some o → ∃ cells, bs[id]? = some cells ∧ o = .robox cells := fun id o e => by
    have e : boxHp bs id = some o := e
    unfold boxHp at e
    split at e
    · rename_i cells hc
      cases e
      exact ⟨cells, hc, rfl⟩
    · cases e
  have hno : ∀ b, ¬ Own (M.below Cs bs) b := fun b ⟨id, o, C, h1, h2, _, _⟩ => by
    obtain ⟨cells, _, rfl⟩ := hr id o h1
    cases h2
  refine ⟨⟨fun id o e => ?_, fun id e => ?_, fun i j oi oj Ci Cj b _ h1 _ h3 _ _ _ _ _ => ?_, fun b hb => absurd hb (hno b), fun b hb => ok.Flt b (ok.GF b hb), fun b hb => hb⟩, hno⟩
  · obtain ⟨cells, hc, rfl⟩ := hr id o e
    have hlt : id < bs.length := by
      rcases Nat.lt_or_ge id bs.length with h | h
      · exact h
      · rw [List.getElem?_eq_none h] at hc; cases hc
    have hlt' : id < Cs.length := by rw [h.length]; exact hlt
    obtain ⟨B, vals, ev, q1, q2, q3, q4⟩ := h.get id hlt' hlt
    rw [List.getElem?_eq_getElem hlt] at hc
    cases hc
    refine ⟨Cs[id], List.getElem?_eq_getElem hlt', B, vals, ev, q1, q2, q3, q4, ?_⟩
    exact (Array.getElem?_eq_some_iff.1 q3).1
  · have e : boxHp bs id = none := e
    unfold boxHp at e
    split at e
    · cases e
    · rename_i hc
      show Cs[id]? = none
      rw [List.getElem?_eq_none_iff] at hc ⊢
      rw [h.length]; exact hc
  · obtain ⟨cells, _, rfl⟩ := hr i oi h1
    cases h3

/-- All that a call by data hands over, in the callee's view. -/
theorem in_ok {M : Mst} (ok : Ok M) {l : List AS} {as : List AVal} {vs : List Value} {d : AD l} (hv : All2 (VRep M) as vs) (h : inA M.h l as = some d) :
    ∃ Ml : Mst, Lo M Ml ∧ Ml.h = (absArgs l d).2 ∧ Ok Ml ∧ (∀ b, ¬ Own Ml b) ∧ All2 (VRep Ml) (absArgs l d).1 vs := by
  unfold inA at h
  split at h
  · rename_i cs hg
    obtain ⟨Cs, h1, h2⟩ := args_in ok (n := 0) hv hg (inL_tr ok h)
    have lo := M.below_lo Cs (mkArgs l (absL (l.flatMap AS.cells) d) 0).2
    have := Mst.below_ok ok (h1 _ lo)
    exact ⟨_, lo, rfl, this.1, this.2, h2 _ lo fun i C hi => by rw [Nat.zero_add]; exact hi⟩
  · cases h
end Go.Ab
