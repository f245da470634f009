/- Calls that hand over boxes: the callee's memory. -/
import Derived.Test.YtpmkkfbnaohlhaaGiAb34
set_option linter.unusedVariables false
set_option linter.unusedSimpArgs false
set_option linter.unusedSectionVars false
namespace Go.Ab

theorem trk_rep {M Ml : Mst} {mine : List Nat} (lo : LoX M mine Ml) : ∀ {cs cs' : List CVal} {vs : List Value}, All2 (TrK M mine Ml.κ) cs cs' → All2 (CRep M) cs vs → All2 (CRep Ml) cs' vs
  | [], [], [], _, _ => trivial
  | _ :: _, _ :: _, _ :: _, h, k => ⟨h.1 _ _ lo rfl k.1, trk_rep lo h.2 k.2⟩
  | [], [], _ :: _, _, k => k.elim
  | [], _ :: _, _, h, _ => h.elim
  | _ :: _, [], _, h, _ => h.elim
  | _ :: _, _ :: _, [], _, k => k.elim

/-- Which boxes are handed over. -/
def Fits (mine : List Nat) (bs : List (Bool × Nat)) : Prop := ∀ b ∈ bs, (b.1 = true → b.2 ∈ mine) ∧ (b.1 = false → b.2 ∉ mine)

theorem box_in {M : Mst} (ok : Ok M) {mine : List Nat} (ho : Owned M mine) {io : Bool} {id : Nat} {cells : List CVal} (h : boxX M.h io id = some cells) (hm : (io = true → id ∈ mine) ∧ (io = false → id ∉ mine)) :
    ∃ C B, M.κ id = some C ∧ C.blk = some B ∧ ∀ (Ml : Mst) (cells' : List CVal), LoX M mine Ml → All2 (TrK M mine Ml.κ) cells cells' → ORep Ml (bif io then .box true cells' else .robox cells') C := by
  unfold boxX at h
  split at h
  · rename_i cs hid
    cases h
    obtain ⟨C, hC, B, vals, e, h1, h2, h3, h4, h5⟩ := ok.obj id _ hid
    exact ⟨C, B, hC, h1, fun Ml cells' lo ht => ⟨B, vals, e, h1, h2, by rw [lo.H]; exact h3, trk_rep lo ht h4, fun e => by cases e⟩⟩
  · rename_i own cs hid
    cases h
    obtain ⟨C, hC, B, vals, e, h1, h2, h3, h4, h5⟩ := ok.obj id _ hid
    refine ⟨C, B, hC, h1, fun Ml cells' lo ht => ⟨B, vals, e, h1, h2, by rw [lo.H]; exact h3, trk_rep lo ht h4, ?_⟩⟩
    rw [lo.F]
    cases own with
    | false => exact not_hand_F ok ho (ok.GF B (h5 rfl))
    | true =>
      refine ⟨(Array.getElem?_eq_some_iff.1 h3).1, fun hd => ?_⟩
      obtain ⟨jd, hj, D, hD, hb⟩ := hd
      obtain ⟨q, q1, q2⟩ := ho jd hj
      exact ok.disj jd id q _ D C B (fun e => hm.2 rfl (by rw [← e]; exact hj)) q1 hid q2 rfl hD hC hb (by simp [Conc.fp, h1])
  · rename_i cs hid
    cases h
    obtain ⟨C, hC, B, vals, e, h1, h2, h3, h4, h5⟩ := ok.obj id _ hid
    refine ⟨C, B, hC, h1, fun Ml cells' lo ht => ⟨B, vals, e, h1, h2, by rw [lo.H]; exact h3, trk_rep lo ht h4, ?_⟩⟩
    rw [lo.F]
    exact not_hand_F ok ho h5
  · cases h

/-- Objects as boxes are told. -/
def BoxesOK (M : Mst) (mine : List Nat) (bs : List (Bool × Nat)) (mk : List CVal → List Obj) (cs : List CVal) : Prop := ∀ (Ml : Mst) (cs' : List CVal), LoX M mine Ml → All2 (TrK M mine Ml.κ) cs cs' →
  All2 (fun (b : Bool × Nat) o => ∃ C B, M.κ b.2 = some C ∧ C.blk = some B ∧ ORep Ml o C ∧ o.owned = b.1) bs (mk cs')

theorem boxes_in {M : Mst} (ok : Ok M) {mine : List Nat} (ho : Owned M mine) : ∀ {ls : List (Bool × List XC)} {ids : List Nat} {cs : List CVal} {bs : List (Bool × Nat)}, boxesX M.h ls ids = some (cs, bs) → Fits mine bs →
    cs.length = (ls.flatMap (·.2)).length ∧ bs = (ls.map (·.1)).zip ids ∧ ids.length = ls.length ∧ BoxesOK M mine bs (cutX ls) cs
  | [], [], cs, bs, h, _ => by cases h; exact ⟨rfl, rfl, rfl, fun _ _ _ _ => trivial⟩
  | (io, l) :: ls, id :: ids, cs, bs, h, hf => by
    unfold boxesX at h
    split at h
    · rename_i cells rest bs' h1 h2
      obtain ⟨hl, h⟩ := cond_some h
      cases h
      have hl : cells.length = l.length := Nat.eq_of_beq_eq_true hl
      obtain ⟨C, B, hC, hB, hO⟩ := box_in ok ho h1 (hf _ (List.mem_cons_self ..))
      obtain ⟨k1, k2, k3, k4⟩ := boxes_in ok ho h2 fun b hb => hf b (List.mem_cons_of_mem _ hb)
      refine ⟨by simp [hl, k1], by rw [k2]; rfl, by simp [k3], fun Ml cs' lo ht => ?_⟩
      have ht1 := All2.take l.length ht
      have ht2 := All2.drop l.length ht
      rw [← hl, List.take_left] at ht1
      rw [← hl, List.drop_left] at ht2
      refine ⟨⟨C, B, hC, hB, ?_, ?_⟩, ?_⟩
      · rw [← hl]; exact hO Ml _ lo ht1
      · cases io <;> rfl
      · rw [← hl]; exact k4 Ml _ lo ht2
    · cases h
  | [], _ :: _, _, _, h, _ => by cases h
  | _ :: _, [], _, _, h, _ => by cases h

theorem arg_inX {M : Mst} (ok : Ok M) {mine : List Nat} (ho : Owned M mine) {s : AX} {a : AVal} {v : Value} {cs : List CVal} {bs : List (Bool × Nat)} (hv : VRep M a v) (h : s.get M.h a = some (cs, bs)) (hf : Fits mine bs) :
    cs.length = s.cells.length ∧ BoxesOK M mine bs (fun cs' => s.boxes cs') cs ∧ ∀ (Ml : Mst) (cs' : List CVal) (n : Nat), LoX M mine Ml → All2 (TrK M mine Ml.κ) cs cs' → (∀ i b, bs[i]? = some b → Ml.κ (n + i) = M.κ b.2) → VRep Ml (s.mk n cs') v := by
  unfold AX.get at h
  split at h
  · rename_i p x
    cases h
    refine ⟨rfl, fun Ml cs' lo ht => trivial, fun Ml cs' n lo ht _ => ?_⟩
    match cs', ht with
    | [c'], ht => exact ht.1 v Ml lo rfl hv
  · rename_i l xs
    obtain ⟨hl, h'⟩ := cond_some h
    cases h'
    have hl : cs.length = l.length := Nat.eq_of_beq_eq_true hl
    obtain ⟨vs, rfl, hx⟩ := hv
    exact ⟨by simp [AX.cells, hl], fun Ml cs' lo ht => trivial, fun Ml cs' n lo ht _ => ⟨vs, rfl, trk_rep lo ht hx⟩⟩
  · rename_i io l id
    obtain ⟨k1, k2, k3, k4⟩ := boxes_in ok ho h hf
    refine ⟨by rw [k1]; simp [AX.cells], k4, fun Ml cs' n lo ht hκ => ?_⟩
    obtain ⟨C, B, hC, hB, e⟩ := hv
    exact ⟨C, B, by have := hκ 0 (io, id) (by rw [k2]; rfl); rw [Nat.add_zero] at this; rw [this]; exact hC, hB, e⟩
  · rename_i f caps g ids
    obtain ⟨hg, h'⟩ := cond_some h
    have efg : f = g := Nat.eq_of_beq_eq_true hg
    subst efg
    obtain ⟨k1, k2, k3, k4⟩ := boxes_in ok ho h' hf
    refine ⟨by rw [k1]; rfl, k4, fun Ml cs' n lo ht hκ => ?_⟩
    obtain ⟨cv, rfl, hc⟩ := hv
    refine ⟨cv, rfl, ?_⟩
    have l2 := hc.length
    refine All2.of_get (by rw [List.length_map, List.length_range]; omega) fun i h1 h2 => ?_
    simp only [List.getElem_map, List.getElem_range]
    have hi : i < ids.length := by simp at h1; omega
    obtain ⟨C, B, q1, q2, q3⟩ := hc.get i hi h2
    have hb : bs[i]? = some ((caps.map (·.1))[i]'(by simp at h1 ⊢; omega), ids[i]) := by
      rw [k2, List.getElem?_eq_getElem (by rw [List.length_zip, List.length_map]; omega), List.getElem_zip]
    exact ⟨C, B, by rw [hκ i _ hb]; exact q1, q2, q3⟩
  · cases h

theorem args_inX {M : Mst} (ok : Ok M) {mine : List Nat} (ho : Owned M mine) : ∀ {l : List AX} {as : List AVal} {vs : List Value} {cs : List CVal} {bs : List (Bool × Nat)}, All2 (VRep M) as vs → getAllX M.h l as = some (cs, bs) → Fits mine bs →
    cs.length = (l.flatMap AX.cells).length ∧ (∀ n, BoxesOK M mine bs (fun cs' => (mkX l cs' n).2) cs) ∧
      ∀ (Ml : Mst) (cs' : List CVal) (n : Nat), LoX M mine Ml → All2 (TrK M mine Ml.κ) cs cs' → (∀ i b, bs[i]? = some b → Ml.κ (n + i) = M.κ b.2) → All2 (VRep Ml) (mkX l cs' n).1 vs
  | [], [], [], cs, bs, _, h, _ => by cases h; exact ⟨rfl, fun _ _ _ _ _ => trivial, fun _ _ _ _ _ _ => trivial⟩
  | s :: l, a :: as, v :: vs, cs, bs, hv, h, hf => by
    unfold getAllX at h
    split at h
    · rename_i cs1 bs1 cs2 bs2 h1 h2
      cases h
      have hf1 : Fits mine bs1 := fun b hb => hf b (List.mem_append_left _ hb)
      have hf2 : Fits mine bs2 := fun b hb => hf b (List.mem_append_right _ hb)
      obtain ⟨k1, k2, k3⟩ := arg_inX ok ho hv.1 h1 hf1
      obtain ⟨k4, k5, k6⟩ := args_inX ok ho hv.2 h2 hf2
      have cut : ∀ {κ : Nat → Option Conc} {cs' : List CVal}, All2 (TrK M mine κ) (cs1 ++ cs2) cs' → All2 (TrK M mine κ) cs1 (cs'.take s.cells.length) ∧ All2 (TrK M mine κ) cs2 (cs'.drop s.cells.length) := by
        intro κ cs' ht
        have ht1 := All2.take s.cells.length ht
        have ht2 := All2.drop s.cells.length ht
        rw [← k1, List.take_left, k1] at ht1
        rw [← k1, List.drop_left, k1] at ht2
        exact ⟨ht1, ht2⟩
      refine ⟨by simp [k1, k4], fun n Ml cs' lo ht => ?_, fun Ml cs' n lo ht hκ => ?_⟩
      · obtain ⟨ht1, ht2⟩ := cut ht
        exact (k2 Ml _ lo ht1).append (k5 _ Ml _ lo ht2)
      · obtain ⟨ht1, ht2⟩ := cut ht
        have hlen := (k2 Ml _ lo ht1).length
        refine ⟨k3 Ml _ n lo ht1 fun i b hb => hκ i b ?_, k6 Ml _ _ lo ht2 fun i b hb => ?_⟩
        · have : i < bs1.length := (List.getElem?_eq_some_iff.1 hb).1
          rw [List.getElem?_append_left this]; exact hb
        · have := hκ (bs1.length + i) b (by rw [List.getElem?_append_right (by omega)]; rw [show bs1.length + i - bs1.length = i by omega]; exact hb)
          rw [← this, Nat.add_assoc, hlen]
    · cases h
  | [], [], _ :: _, _, _, hv, _, _ => hv.elim
  | [], _ :: _, _, _, _, _, h, _ => by cases h
  | _ :: _, [], _, _, _, _, h, _ => by cases h
  | _ :: _, _ :: _, [], _, _, hv, _, _ => hv.elim

/-- The callee's names. -/
def κX (M : Mst) (bs : List (Bool × Nat)) (rows : List Nat) : Nat → Option Conc := fun n => bif Nat.ble rowBase n then (match rows[n - rowBase]? with
    | some id => (M.κ id).map fun C => { C with ver := 0 }
    | none => none)
  else (match bs[n]? with
    | some b => M.κ b.2
    | none => none)

theorem ioIds_mem : ∀ {bs : List (Bool × Nat)} {i id : Nat}, bs[i]? = some (true, id) → id ∈ ioIds bs
  | (true, a) :: bs, 0, id, h => by cases h; exact List.mem_cons_self ..
  | (true, a) :: bs, i + 1, id, h => List.mem_cons_of_mem _ (ioIds_mem (bs := bs) (i := i) h)
  | (false, a) :: bs, 0, id, h => by cases h
  | (false, a) :: bs, i + 1, id, h => ioIds_mem (bs := bs) (i := i) h

theorem ioIds_inj : ∀ {bs : List (Bool × Nat)} {i j id : Nat}, (ioIds bs).Nodup → bs[i]? = some (true, id) → bs[j]? = some (true, id) → i = j
  | (true, a) :: bs, 0, 0, id, _, _, _ => rfl
  | (true, a) :: bs, 0, j + 1, id, hn, h, k => by
    cases h
    exact absurd (ioIds_mem (bs := bs) (i := j) k) (List.nodup_cons.1 hn).1
  | (true, a) :: bs, i + 1, 0, id, hn, h, k => by
    cases k
    exact absurd (ioIds_mem (bs := bs) (i := i) h) (List.nodup_cons.1 hn).1
  | (true, a) :: bs, i + 1, j + 1, id, hn, h, k => by rw [ioIds_inj (bs := bs) (List.nodup_cons.1 hn).2 h k]
  | (false, a) :: bs, 0, j, id, _, h, _ => by cases h
  | (false, a) :: bs, i + 1, 0, id, _, _, k => by cases k
  | (false, a) :: bs, i + 1, j + 1, id, hn, h, k => by rw [ioIds_inj (bs := bs) hn h k]

/-- All that is handed over, in the callee's view. -/
theorem in_okX {M : Mst} (ok : Ok M) {l : List AX} {as : List AVal} {vs : List Value} {cs : List CVal} {bs : List (Bool × Nat)} {d : XD l} (hv : All2 (VRep M) as vs) (hg : getAllX M.h l as = some (cs, bs)) (hd : inXL M.h (l.flatMap AX.cells) cs = some d)
    (hnd : (ioIds bs ++ rowIds (l.flatMap AX.cells) cs).Nodup) (hap : ∀ id ∈ datIds (l.flatMap AX.cells) cs, id ∉ ioIds bs ++ rowIds (l.flatMap AX.cells) cs) (hro : ∀ id ∈ roIds bs, id ∉ ioIds bs ++ rowIds (l.flatMap AX.cells) cs) (hlen : bs.length ≤ rowBase) (ho : Owned M (ioIds bs ++ rowIds (l.flatMap AX.cells) cs)) :
    ∃ Ml : Mst, LoX M (ioIds bs ++ rowIds (l.flatMap AX.cells) cs) Ml ∧ Ml.h = (absArgsX l d).2 ∧ Ok Ml ∧ (∀ b, Own Ml b → Hand M (ioIds bs ++ rowIds (l.flatMap AX.cells) cs) b) ∧ All2 (VRep Ml) (absArgsX l d).1 vs ∧ Ml.κ = κX M bs (rowIds (l.flatMap AX.cells) cs) := by
  generalize hmine : ioIds bs ++ rowIds (l.flatMap AX.cells) cs = mine at *
  have hfits : Fits mine bs := by
    intro b hb
    obtain ⟨i, hi, rfl⟩ := List.getElem_of_mem hb
    have hbi : bs[i]? = some bs[i] := List.getElem?_eq_getElem hi
    refine ⟨fun e => ?_, fun e => ?_⟩
    · rw [← hmine]
      have : bs[i]? = some (true, bs[i].2) := by rw [hbi, ← e]
      exact List.mem_append_left _ (ioIds_mem this)
    · apply hro
      clear hg hd hnd hap hro hlen ho hmine hv
      induction bs generalizing i with
      | nil => exact absurd hi (Nat.not_lt_zero i)
      | cons c bs ih =>
        obtain ⟨io, a⟩ := c
        cases i with
        | zero => cases io <;> first | exact List.mem_cons_self .. | cases e
        | succ i => cases io <;> first | exact List.mem_cons_of_mem _ (ih i (by simpa using hi) (List.getElem_mem _) (List.getElem?_eq_getElem _) e) | exact ih i (by simpa using hi) (List.getElem_mem _) (List.getElem?_eq_getElem _) e
  let κ := κX M bs (rowIds (l.flatMap AX.cells) cs)
  obtain ⟨k1, k2, k3⟩ := inXL_tr ok ho (κ := κ) (n := rowBase) hd hap
  have ht : All2 (TrK M mine κ) cs (absXL (l.flatMap AX.cells) d rowBase).1 := k3 fun i id C hi hC => by
    show κX M bs _ (rowBase + i) = _
    unfold κX
    rw [Nat.ble_eq_true_of_le (Nat.le_add_right _ _), show rowBase + i - rowBase = i by omega, hi]
    simp [hC]
  obtain ⟨a1, a2, a3⟩ := args_inX ok ho hv hg hfits
  let Ml : Mst := { κ := κ, F := fun b => b < M.H.size ∧ ¬ Hand M mine b, G := M.G, h := (absArgsX l d).2, H := M.H }
  have lo : LoX M mine Ml := ⟨rfl, rfl, rfl⟩
  have hbox := a2 0 Ml _ lo ht
  have hκbox : ∀ i b, bs[i]? = some b → Ml.κ (0 + i) = M.κ b.2 := fun i b hb => by
    have hi : i < bs.length := (List.getElem?_eq_some_iff.1 hb).1
    show κX M bs _ (0 + i) = _
    unfold κX
    have : Nat.ble rowBase (0 + i) = false := by
      cases h : Nat.ble rowBase (0 + i) with
      | false => rfl
      | true => have := Nat.le_of_ble_eq_true h; omega
    rw [this, Nat.zero_add, hb]
    rfl
  have hobj : ∀ id o, Ml.h id = some o → ∃ jd C, Ml.κ id = some C ∧ ORep Ml o C ∧ (o.owned = true → jd ∈ mine ∧ ∃ D, M.κ jd = some D ∧ D.fp = C.fp) ∧
      ((Nat.ble rowBase id = true ∧ (rowIds (l.flatMap AX.cells) cs)[id - rowBase]? = some jd) ∨ (Nat.ble rowBase id = false ∧ ∃ io, bs[id]? = some (io, jd) ∧ o.owned = io)) := by
    intro id o h
    have h : objHp (mkX l (absXL (l.flatMap AX.cells) d rowBase).1 0).2 (absXL (l.flatMap AX.cells) d rowBase).2 id = some o := h
    unfold objHp at h
    cases hb : Nat.ble rowBase id with
    | true =>
      rw [hb] at h
      have h : (absXL (l.flatMap AX.cells) d rowBase).2[id - rowBase]? = some o := h
      have hi := (List.getElem?_eq_some_iff.1 h).1
      have hj : (rowIds (l.flatMap AX.cells) cs)[id - rowBase]? = some ((rowIds (l.flatMap AX.cells) cs)[id - rowBase]'(by omega)) := List.getElem?_eq_getElem (by omega)
      obtain ⟨C, hR⟩ := k2 _ _ _ hj h
      refine ⟨_, { C with ver := 0 }, ?_, hR.rep Ml rfl rfl, fun _ => ⟨?_, C, hR.κ, rfl⟩, .inl ⟨rfl, hj⟩⟩
      · show κX M bs _ id = _
        unfold κX
        rw [hb, hj]
        simp [hR.κ]
      · rw [← hmine]
        exact List.mem_append_right _ (List.getElem_mem _)
    | false =>
      rw [hb] at h
      have h : (mkX l (absXL (l.flatMap AX.cells) d rowBase).1 0).2[id]? = some o := h
      have hi := (List.getElem?_eq_some_iff.1 h).1
      have hib : id < bs.length := by rw [hbox.length]; exact hi
      have hq := hbox.get id hib hi
      rw [List.getElem?_eq_getElem hi] at h
      cases h
      obtain ⟨C, B, q1, q2, q3, q4⟩ := hq
      have hbi : bs[id]? = some bs[id] := List.getElem?_eq_getElem hib
      refine ⟨bs[id].2, C, ?_, q3, fun e => ⟨(hfits _ (List.getElem_mem hib)).1 (by rw [← q4]; exact e), C, q1, rfl⟩, .inr ⟨rfl, bs[id].1, hbi, q4⟩⟩
      have := hκbox id _ hbi
      rw [Nat.zero_add] at this
      rw [this]; exact q1
  have hown : ∀ b, Own Ml b → Hand M mine b := fun b ⟨id, o, C, h1, h2, h3, h4⟩ => by
    obtain ⟨jd, C', q1, _, q3, _⟩ := hobj id o h1
    rw [h3] at q1
    cases q1
    obtain ⟨p1, D, p2, p3⟩ := q3 h2
    exact ⟨jd, p1, D, p2, by rw [p3]; exact h4⟩
  refine ⟨Ml, lo, rfl, ⟨fun id o h => ?_, fun id h => ?_, fun i j oi oj Ci Cj b hij h1 h2 h3 h4 h5 h6 h7 h8 => ?_, fun b hb => ⟨fun hf => hf.2 (hown b hb), (ok.own b ((hown b hb).own ho)).2⟩, fun b hb => not_hand_F ok ho (ok.GF b hb), fun b hb => hb.1⟩, hown, a3 Ml _ 0 lo ht hκbox, rfl⟩
  · obtain ⟨jd, C, q1, q2, _⟩ := hobj id o h
    exact ⟨C, q1, q2⟩
  · have h : objHp (mkX l (absXL (l.flatMap AX.cells) d rowBase).1 0).2 (absXL (l.flatMap AX.cells) d rowBase).2 id = none := h
    unfold objHp at h
    show κX M bs _ id = none
    unfold κX
    cases hb : Nat.ble rowBase id with
    | true =>
      rw [hb] at h
      have h : (absXL (l.flatMap AX.cells) d rowBase).2[id - rowBase]? = none := h
      rw [List.getElem?_eq_none_iff, ← k1] at h
      rw [List.getElem?_eq_none h]
      rfl
    | false =>
      rw [hb] at h
      have h : (mkX l (absXL (l.flatMap AX.cells) d rowBase).1 0).2[id]? = none := h
      rw [List.getElem?_eq_none_iff, ← hbox.length] at h
      rw [List.getElem?_eq_none h]
      rfl
  · obtain ⟨ji, Ci', p1, _, p3, p4⟩ := hobj i oi h1
    obtain ⟨jj, Cj', q1, _, q3, q4⟩ := hobj j oj h2
    rw [h5] at p1; cases p1
    rw [h6] at q1; cases q1
    obtain ⟨p5, Di, p6, p7⟩ := p3 h3
    obtain ⟨q5, Dj, q6, q7⟩ := q3 h4
    obtain ⟨oi', r1, r2⟩ := ho ji p5
    obtain ⟨oj', r3, r4⟩ := ho jj q5
    refine ok.disj ji jj oi' oj' Di Dj b (fun e => ?_) r1 r3 r2 r4 p6 q6 (by rw [p7]; exact h7) (by rw [q7]; exact h8)
    subst e
    rw [← hmine] at hnd
    obtain ⟨n1, n2, n3⟩ := List.nodup_append.1 hnd
    rcases p4 with ⟨p8, p9⟩ | ⟨p8, io, p9, p10⟩ <;> rcases q4 with ⟨q8, q9⟩ | ⟨q8, io', q9, q10⟩
    · have := (List.getElem?_inj (List.getElem?_eq_some_iff.1 p9).1 n2).1 (p9.trans q9.symm)
      have e1 := Nat.le_of_ble_eq_true p8
      have e2 := Nat.le_of_ble_eq_true q8
      exact hij (by omega)
    · rw [h4] at q10
      subst q10
      exact n3 _ (ioIds_mem q9) _ (List.mem_of_getElem? p9) rfl
    · rw [h3] at p10
      subst p10
      exact n3 _ (ioIds_mem p9) _ (List.mem_of_getElem? q9) rfl
    · rw [h3] at p10
      rw [h4] at q10
      subst p10
      subst q10
      exact hij (ioIds_inj n1 p9 q9)
end Go.Ab
