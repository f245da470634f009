/- part 3 -/
import Derived.Test.YtjjglblggikmeaaGreatGiAbC
import Derived.Laws.Externs
set_option linter.unusedVariables false
set_option linter.unusedSimpArgs false
set_option linter.unusedSectionVars false
namespace Go.Ab
theorem trk_rep {M Ml : Mst} {mine : List Nat} (lo : LoX M mine Ml) : ∀ {cs cs' : List CVal} {vs : List Value}, All2 (TrK M mine Ml.κ) cs cs' → All2 (CRep M) cs vs → All2 (CRep Ml) cs' vs
 | [], [], [], _, _ => trivial
 | _ :: _, _ :: _, _ :: _, h, k => ⟨h.1 _ _ lo rfl k.1, trk_rep lo h.2 k.2⟩
 | [], [], _ :: _, _, k => k.elim
 | [], _ :: _, _, h, _ => h.elim
 | _ :: _, [], _, h, _ => h.elim
 | _ :: _, _ :: _, [], _, k => k.elim
def Fits (mine : List Nat) (bs : List (Bool × Nat)) : Prop := ∀ b ∈ bs, (b.1 = true → b.2 ∈ mine) ∧ (b.1 = false → b.2 ∉ mine)
theorem box_in {M : Mst} (ok : Ok M) {mine : List Nat} (ho : Owned M mine) {io : Bool} {id : Nat} {cells : List CVal} (h : boxX M.h io id = some cells) (hm : (io = true → id ∈ mine) ∧ (io = false → id ∉ mine)) :
  ∃ C B, M.κ id = some C ∧ C.blk = some B ∧ ∀ (Ml : Mst) (cells' : List CVal), LoX M mine Ml → All2 (TrK M mine Ml.κ) cells cells' → ORep Ml (bif io then .box true cells' else .robox cells') C := by
 unfold boxX at h
 split at h
 ·rename_i cs hid
  cases h
  obtain ⟨C, hC, B, vals, e, h1, h2, h3, h4, h5⟩ := ok.obj id _ hid
  exact ⟨C, B, hC, h1, fun Ml cells' lo ht => ⟨B, vals, e, h1, h2, by rw [lo.H]; exact h3, trk_rep lo ht h4, fun e => by cases e⟩⟩
 ·rename_i own cs hid
  cases h
  obtain ⟨C, hC, B, vals, e, h1, h2, h3, h4, h5⟩ := ok.obj id _ hid
  refine ⟨C, B, hC, h1, fun Ml cells' lo ht => ⟨B, vals, e, h1, h2, by rw [lo.H]; exact h3, trk_rep lo ht h4, ?_⟩⟩
  rw [lo.F]
  cases own with
  | false => exact not_hand_F ok ho (ok.GF B (h5 rfl))
  | true =>
   refine ⟨(Array.getElem?_eq_some_iff.1 h3).1, fun hd => ?_⟩
   obtain ⟨jd, hj, D, hD, hb⟩ := hd
   obtain ⟨q, q1, q2⟩ := ho jd hj
   exact ok.disj jd id q _ D C B (fun e => hm.2 rfl (by rw [← e]; exact hj)) q1 hid q2 rfl hD hC hb (by simp [Conc.fp, h1])
 ·rename_i cs hid
  cases h
  obtain ⟨C, hC, B, vals, e, h1, h2, h3, h4, h5⟩ := ok.obj id _ hid
  refine ⟨C, B, hC, h1, fun Ml cells' lo ht => ⟨B, vals, e, h1, h2, by rw [lo.H]; exact h3, trk_rep lo ht h4, ?_⟩⟩
  rw [lo.F]
  exact not_hand_F ok ho h5
 ·cases h
def BoxesOK (M : Mst) (mine : List Nat) (bs : List (Bool × Nat)) (mk : List CVal → List Obj) (cs : List CVal) : Prop := ∀ (Ml : Mst) (cs' : List CVal), LoX M mine Ml → All2 (TrK M mine Ml.κ) cs cs' →
 All2 (fun (b : Bool × Nat) o => ∃ C B, M.κ b.2 = some C ∧ C.blk = some B ∧ ORep Ml o C ∧ o.owned = b.1) bs (mk cs')
theorem boxes_in {M : Mst} (ok : Ok M) {mine : List Nat} (ho : Owned M mine) : ∀ {ls : List (Bool × List XC)} {ids : List Nat} {cs : List CVal} {bs : List (Bool × Nat)}, boxesX M.h ls ids = some (cs, bs) → Fits mine bs →
  cs.length = (ls.flatMap (·.2)).length ∧ bs = (ls.map (·.1)).zip ids ∧ ids.length = ls.length ∧ BoxesOK M mine bs (cutX ls) cs
 | [], [], cs, bs, h, _ => by cases h; exact ⟨rfl, rfl, rfl, fun _ _ _ _ => trivial⟩
 | (io, l) :: ls, id :: ids, cs, bs, h, hf => by
  unfold boxesX at h
  split at h
  ·rename_i cells rest bs' h1 h2
   obtain ⟨hl, h⟩ := cond_some h
   cases h
   have hl : cells.length = l.length := Nat.eq_of_beq_eq_true hl
   obtain ⟨C, B, hC, hB, hO⟩ := box_in ok ho h1 (hf _ (List.mem_cons_self ..))
   obtain ⟨k1, k2, k3, k4⟩ := boxes_in ok ho h2 fun b hb => hf b (List.mem_cons_of_mem _ hb)
   refine ⟨by simp [hl, k1], by rw [k2]; rfl, by simp [k3], fun Ml cs' lo ht => ?_⟩
   have ht1 := All2.take l.length ht
   have ht2 := All2.drop l.length ht
   rw [← hl, List.take_left] at ht1
   rw [← hl, List.drop_left] at ht2
   refine ⟨⟨C, B, hC, hB, ?_, ?_⟩, ?_⟩
   ·rw [← hl]; exact hO Ml _ lo ht1
   ·cases io <;> rfl
   ·rw [← hl]; exact k4 Ml _ lo ht2
  ·cases h
 | [], _ :: _, _, _, h, _ => by cases h
 | _ :: _, [], _, _, h, _ => by cases h
theorem boxesX_len {h : Hp} : ∀ {ls : List (Bool × List XC)} {ids : List Nat} {cs : List CVal} {bs : List (Bool × Nat)}, boxesX h ls ids = some (cs, bs) → bs.length = ls.length
 | [], [], _, _, e => by cases e; rfl
 | (io, l) :: ls, id :: ids, cs, bs, e => by
  unfold boxesX at e
  split at e
  ·rename_i cells rest bs' h1 h2
   obtain ⟨_, e⟩ := cond_some e
   cases e
   simp [boxesX_len h2]
  ·cases e
 | [], _ :: _, _, _, e => by cases e
 | _ :: _, [], _, _, e => by cases e
theorem get_nb {h : Hp} {s : AX} {a : AVal} {cs : List CVal} {bs : List (Bool × Nat)} (e : s.get h a = some (cs, bs)) : bs.length = s.nb := by
 unfold AX.get at e
 split at e
 ·cases e; rfl
 ·obtain ⟨_, e⟩ := cond_some e
  cases e; rfl
 ·rw [boxesX_len e]; rfl
 ·obtain ⟨_, e⟩ := cond_some e
  rw [boxesX_len e]; rfl
 ·split at e
  ·rw [boxesX_len e]; simp [ioAlls, AX.nb]
  ·cases e
 ·cases e
theorem chainIds_head {h : Hp} : ∀ {n id : Nat} {ids : List Nat}, chainIds h n id = some ids → ids.head? = some id ∧ ids.length = n
 | 0, _, _, e => by cases e
 | 1, _, _, e => by cases e; exact ⟨rfl, rfl⟩
 | n + 2, id, ids, e => by
  unfold chainIds at e
  split at e
  ·split at e
   ·split at e
    ·rename_i l hl
     cases e
     exact ⟨rfl, by simp [(chainIds_head hl).2]⟩
    ·cases e
   ·cases e
  ·cases e
theorem arg_inX {M : Mst} (ok : Ok M) {mine : List Nat} (ho : Owned M mine) {s : AX} {a : AVal} {v : Value} {cs : List CVal} {bs : List (Bool × Nat)} (hv : VRep M a v) (h : s.get M.h a = some (cs, bs)) (hf : Fits mine bs) :
  cs.length = s.cells.length ∧ BoxesOK M mine bs (fun cs' => s.boxes cs') cs ∧ ∀ (Ml : Mst) (cs' : List CVal) (n : Nat), LoX M mine Ml → All2 (TrK M mine Ml.κ) cs cs' → (∀ i b, bs[i]? = some b → Ml.κ (n + i) = M.κ b.2) → VRep Ml (s.mk n cs') v := by
 unfold AX.get at h
 split at h
 ·rename_i p x
  cases h
  refine ⟨rfl, fun Ml cs' lo ht => trivial, fun Ml cs' n lo ht _ => ?_⟩
  match cs', ht with
  | [c'], ht => exact ht.1 v Ml lo rfl hv
 ·rename_i l xs
  obtain ⟨hl, h'⟩ := cond_some h
  cases h'
  have hl : cs.length = l.length := Nat.eq_of_beq_eq_true hl
  obtain ⟨vs, rfl, hx⟩ := hv
  exact ⟨by simp [AX.cells, hl], fun Ml cs' lo ht => trivial, fun Ml cs' n lo ht _ => ⟨vs, rfl, trk_rep lo ht hx⟩⟩
 ·rename_i io l id
  obtain ⟨k1, k2, k3, k4⟩ := boxes_in ok ho h hf
  refine ⟨by rw [k1]; simp [AX.cells], k4, fun Ml cs' n lo ht hκ => ?_⟩
  obtain ⟨C, B, hC, hB, e⟩ := hv
  exact ⟨C, B, by have := hκ 0 (io, id) (by rw [k2]; rfl); rw [Nat.add_zero] at this; rw [this]; exact hC, hB, e⟩
 ·rename_i f caps g ids
  obtain ⟨hg, h'⟩ := cond_some h
  have efg : f = g := Nat.eq_of_beq_eq_true hg
  subst efg
  obtain ⟨k1, k2, k3, k4⟩ := boxes_in ok ho h' hf
  refine ⟨by rw [k1]; rfl, k4, fun Ml cs' n lo ht hκ => ?_⟩
  obtain ⟨cv, rfl, hc⟩ := hv
  refine ⟨cv, rfl, ?_⟩
  have l2 := hc.length
  refine All2.of_get (by rw [List.length_map, List.length_range]; omega) fun i h1 h2 => ?_
  simp only [List.getElem_map, List.getElem_range]
  have hi : i < ids.length := by simp at h1; omega
  obtain ⟨C, B, q1, q2, q3⟩ := hc.get i hi h2
  have hb : bs[i]? = some ((caps.map (·.1))[i]'(by simp at h1 ⊢; omega), ids[i]) := by
   rw [k2, List.getElem?_eq_getElem (by rw [List.length_zip, List.length_map]; omega), List.getElem_zip]
  exact ⟨C, B, by rw [hκ i _ hb]; exact q1, q2, q3⟩
 ·rename_i ls id
  split at h
  ·rename_i ids hids
   obtain ⟨k1, k2, k3, k4⟩ := boxes_in ok ho h hf
   refine ⟨by rw [k1]; simp [AX.cells, ioAlls, List.flatMap_map, List.flatMap_id'], k4, fun Ml cs' n lo ht hκ => ?_⟩
   obtain ⟨C, B, hC, hB, e⟩ := hv
   have hb : bs[0]? = some (true, id) := by
    obtain ⟨h1, h2⟩ := chainIds_head hids
    rw [k2]
    cases ids with
    | nil => cases h1
    | cons i ids =>
     cases h1
     cases ls with
     | nil => cases k3
     | cons l ls => rfl
   exact ⟨C, B, by have := hκ 0 _ hb; rw [Nat.add_zero] at this; rw [this]; exact hC, hB, e⟩
  ·cases h
 ·cases h
theorem args_inX {M : Mst} (ok : Ok M) {mine : List Nat} (ho : Owned M mine) : ∀ {l : List AX} {as : List AVal} {vs : List Value} {cs : List CVal} {bs : List (Bool × Nat)}, All2 (VRep M) as vs → getAllX M.h l as = some (cs, bs) → Fits mine bs →
  cs.length = (l.flatMap AX.cells).length ∧ (∀ n, BoxesOK M mine bs (fun cs' => (mkX l cs' n).2) cs) ∧
   ∀ (Ml : Mst) (cs' : List CVal) (n : Nat), LoX M mine Ml → All2 (TrK M mine Ml.κ) cs cs' → (∀ i b, bs[i]? = some b → Ml.κ (n + i) = M.κ b.2) → All2 (VRep Ml) (mkX l cs' n).1 vs
 | [], [], [], cs, bs, _, h, _ => by cases h; exact ⟨rfl, fun _ _ _ _ _ => trivial, fun _ _ _ _ _ _ => trivial⟩
 | s :: l, a :: as, v :: vs, cs, bs, hv, h, hf => by
  unfold getAllX at h
  split at h
  ·rename_i cs1 bs1 cs2 bs2 h1 h2
   cases h
   have hf1 : Fits mine bs1 := fun b hb => hf b (List.mem_append_left _ hb)
   have hf2 : Fits mine bs2 := fun b hb => hf b (List.mem_append_right _ hb)
   obtain ⟨k1, k2, k3⟩ := arg_inX ok ho hv.1 h1 hf1
   obtain ⟨k4, k5, k6⟩ := args_inX ok ho hv.2 h2 hf2
   have cut : ∀ {κ : Nat → Option Conc} {cs' : List CVal}, All2 (TrK M mine κ) (cs1 ++ cs2) cs' → All2 (TrK M mine κ) cs1 (cs'.take s.cells.length) ∧ All2 (TrK M mine κ) cs2 (cs'.drop s.cells.length) := by
    intro κ cs' ht
    have ht1 := All2.take s.cells.length ht
    have ht2 := All2.drop s.cells.length ht
    rw [← k1, List.take_left, k1] at ht1
    rw [← k1, List.drop_left, k1] at ht2
    exact ⟨ht1, ht2⟩
   refine ⟨by simp [k1, k4], fun n Ml cs' lo ht => ?_, fun Ml cs' n lo ht hκ => ?_⟩
   ·obtain ⟨ht1, ht2⟩ := cut ht
    exact (k2 Ml _ lo ht1).append (k5 _ Ml _ lo ht2)
   ·obtain ⟨ht1, ht2⟩ := cut ht
    have hlen := (k2 Ml _ lo ht1).length
    refine ⟨k3 Ml _ n lo ht1 fun i b hb => hκ i b ?_, k6 Ml _ _ lo ht2 fun i b hb => ?_⟩
    ·have : i < bs1.length := (List.getElem?_eq_some_iff.1 hb).1
     rw [List.getElem?_append_left this]; exact hb
    ·have := hκ (bs1.length + i) b (by rw [List.getElem?_append_right (by omega)]; rw [show bs1.length + i - bs1.length = i by omega]; exact hb)
     rw [← this, Nat.add_assoc, hlen]
  ·cases h
 | [], [], _ :: _, _, _, hv, _, _ => hv.elim
 | [], _ :: _, _, _, _, _, h, _ => by cases h
 | _ :: _, [], _, _, _, _, h, _ => by cases h
 | _ :: _, _ :: _, [], _, _, hv, _, _ => hv.elim
def κX (M : Mst) (bs : List (Bool × Nat)) (rows : List Nat) : Nat → Option Conc := fun n => bif Nat.ble rowBase n then (match rows[n - rowBase]? with
  | some id => (M.κ id).map fun C => { C with ver := 0 }
  | none => none)
 else (match bs[n]? with
  | some b => M.κ b.2
  | none => none)
theorem ioIds_mem : ∀ {bs : List (Bool × Nat)} {i id : Nat}, bs[i]? = some (true, id) → id ∈ ioIds bs
 | (true, a) :: bs, 0, id, h => by cases h; exact List.mem_cons_self ..
 | (true, a) :: bs, i + 1, id, h => List.mem_cons_of_mem _ (ioIds_mem (bs := bs) (i := i) h)
 | (false, a) :: bs, 0, id, h => by cases h
 | (false, a) :: bs, i + 1, id, h => ioIds_mem (bs := bs) (i := i) h
theorem ioIds_inj : ∀ {bs : List (Bool × Nat)} {i j id : Nat}, (ioIds bs).Nodup → bs[i]? = some (true, id) → bs[j]? = some (true, id) → i = j
 | (true, a) :: bs, 0, 0, id, _, _, _ => rfl
 | (true, a) :: bs, 0, j + 1, id, hn, h, k => by
  cases h
  exact absurd (ioIds_mem (bs := bs) (i := j) k) (List.nodup_cons.1 hn).1
 | (true, a) :: bs, i + 1, 0, id, hn, h, k => by
  cases k
  exact absurd (ioIds_mem (bs := bs) (i := i) h) (List.nodup_cons.1 hn).1
 | (true, a) :: bs, i + 1, j + 1, id, hn, h, k => by rw [ioIds_inj (bs := bs) (List.nodup_cons.1 hn).2 h k]
 | (false, a) :: bs, 0, j, id, _, h, _ => by cases h
 | (false, a) :: bs, i + 1, 0, id, _, _, k => by cases k
 | (false, a) :: bs, i + 1, j + 1, id, hn, h, k => by rw [ioIds_inj (bs := bs) hn h k]
theorem in_okX {M : Mst} (ok : Ok M) {l : List AX} {as : List AVal} {vs : List Value} {cs : List CVal} {bs : List (Bool × Nat)} {d : XD l} (hv : All2 (VRep M) as vs) (hg : getAllX M.h l as = some (cs, bs)) (hd : inXL M.h (l.flatMap AX.cells) cs = some d)
  (hnd : (ioIds bs ++ rowIds (l.flatMap AX.cells) cs).Nodup) (hap : ∀ id ∈ datIds (l.flatMap AX.cells) cs, id ∉ ioIds bs ++ rowIds (l.flatMap AX.cells) cs) (hro : ∀ id ∈ roIds bs, id ∉ ioIds bs ++ rowIds (l.flatMap AX.cells) cs) (hlen : bs.length ≤ rowBase) (hlk : linksOk ((l.flatMap AX.cells).map XC.lnk) (bs.map (·.2)) cs = true) (ho : Owned M (ioIds bs ++ rowIds (l.flatMap AX.cells) cs)) :
  ∃ Ml : Mst, LoX M (ioIds bs ++ rowIds (l.flatMap AX.cells) cs) Ml ∧ Ml.h = (absArgsX l d).2 ∧ Ok Ml ∧ (∀ b, Own Ml b → Hand M (ioIds bs ++ rowIds (l.flatMap AX.cells) cs) b) ∧ All2 (VRep Ml) (absArgsX l d).1 vs ∧ Ml.κ = κX M bs (rowIds (l.flatMap AX.cells) cs) := by
 generalize hmine : ioIds bs ++ rowIds (l.flatMap AX.cells) cs = mine at *
 have hfits : Fits mine bs := by
  intro b hb
  obtain ⟨i, hi, rfl⟩ := List.getElem_of_mem hb
  have hbi : bs[i]? = some bs[i] := List.getElem?_eq_getElem hi
  refine ⟨fun e => ?_, fun e => ?_⟩
  ·rw [← hmine]
   have : bs[i]? = some (true, bs[i].2) := by rw [hbi, ← e]
   exact List.mem_append_left _ (ioIds_mem this)
  ·apply hro
   clear hg hd hnd hap hro hlen ho hmine hv hlk
   induction bs generalizing i with
   | nil => exact absurd hi (Nat.not_lt_zero i)
   | cons c bs ih =>
    obtain ⟨io, a⟩ := c
    cases i with
    | zero => cases io <;> first | exact List.mem_cons_self .. | cases e
    | succ i => cases io <;> first | exact List.mem_cons_of_mem _ (ih i (by simpa using hi) (List.getElem_mem _) (List.getElem?_eq_getElem _) e) | exact ih i (by simpa using hi) (List.getElem_mem _) (List.getElem?_eq_getElem _) e
 let κ := κX M bs (rowIds (l.flatMap AX.cells) cs)
 obtain ⟨k1, k2, k3⟩ := inXL_tr ok ho (κ := κ) (n := rowBase) (ids := bs.map (·.2)) hd hlk hap
 have ht : All2 (TrK M mine κ) cs (absXL (l.flatMap AX.cells) d rowBase).1 := k3 (fun i id C hi hC => by
  show κX M bs _ (rowBase + i) = _
  unfold κX
  rw [Nat.ble_eq_true_of_le (Nat.le_add_right _ _), show rowBase + i - rowBase = i by omega, hi]
  simp [hC]) fun j id hj => by
  rw [List.getElem?_map] at hj
  obtain ⟨b, hb, rfl⟩ := Option.map_eq_some_iff.1 hj
  have hi : j < bs.length := (List.getElem?_eq_some_iff.1 hb).1
  show κX M bs _ j = _
  unfold κX
  have : Nat.ble rowBase j = false := by
   cases h : Nat.ble rowBase j with
   | false => rfl
   | true => have := Nat.le_of_ble_eq_true h; omega
  rw [this, hb]
  rfl
 obtain ⟨a1, a2, a3⟩ := args_inX ok ho hv hg hfits
 let Ml : Mst := { κ := κ, F := fun b => b < M.H.size ∧ ¬ Hand M mine b, G := M.G, h := (absArgsX l d).2, H := M.H }
 have lo : LoX M mine Ml := ⟨rfl, rfl, rfl⟩
 have hbox := a2 0 Ml _ lo ht
 have hκbox : ∀ i b, bs[i]? = some b → Ml.κ (0 + i) = M.κ b.2 := fun i b hb => by
  have hi : i < bs.length := (List.getElem?_eq_some_iff.1 hb).1
  show κX M bs _ (0 + i) = _
  unfold κX
  have : Nat.ble rowBase (0 + i) = false := by
   cases h : Nat.ble rowBase (0 + i) with
   | false => rfl
   | true => have := Nat.le_of_ble_eq_true h; omega
  rw [this, Nat.zero_add, hb]
  rfl
 have hobj : ∀ id o, Ml.h id = some o → ∃ jd C, Ml.κ id = some C ∧ ORep Ml o C ∧ (o.owned = true → jd ∈ mine ∧ ∃ D, M.κ jd = some D ∧ D.fp = C.fp) ∧
   ((Nat.ble rowBase id = true ∧ (rowIds (l.flatMap AX.cells) cs)[id - rowBase]? = some jd) ∨ (Nat.ble rowBase id = false ∧ ∃ io, bs[id]? = some (io, jd) ∧ o.owned = io)) := by
  intro id o h
  have h : objHp (mkX l (absXL (l.flatMap AX.cells) d rowBase).1 0).2 (absXL (l.flatMap AX.cells) d rowBase).2 id = some o := h
  unfold objHp at h
  cases hb : Nat.ble rowBase id with
  | true =>
   rw [hb] at h
   have h : (absXL (l.flatMap AX.cells) d rowBase).2[id - rowBase]? = some o := h
   have hi := (List.getElem?_eq_some_iff.1 h).1
   have hj : (rowIds (l.flatMap AX.cells) cs)[id - rowBase]? = some ((rowIds (l.flatMap AX.cells) cs)[id - rowBase]'(by omega)) := List.getElem?_eq_getElem (by omega)
   obtain ⟨C, hR⟩ := k2 _ _ _ hj h
   refine ⟨_, { C with ver := 0 }, ?_, hR.rep Ml rfl rfl, fun _ => ⟨?_, C, hR.κ, rfl⟩, .inl ⟨rfl, hj⟩⟩
   ·show κX M bs _ id = _
    unfold κX
    rw [hb, hj]
    simp [hR.κ]
   ·rw [← hmine]
    exact List.mem_append_right _ (List.getElem_mem _)
  | false =>
   rw [hb] at h
   have h : (mkX l (absXL (l.flatMap AX.cells) d rowBase).1 0).2[id]? = some o := h
   have hi := (List.getElem?_eq_some_iff.1 h).1
   have hib : id < bs.length := by rw [hbox.length]; exact hi
   have hq := hbox.get id hib hi
   rw [List.getElem?_eq_getElem hi] at h
   cases h
   obtain ⟨C, B, q1, q2, q3, q4⟩ := hq
   have hbi : bs[id]? = some bs[id] := List.getElem?_eq_getElem hib
   refine ⟨bs[id].2, C, ?_, q3, fun e => ⟨(hfits _ (List.getElem_mem hib)).1 (by rw [← q4]; exact e), C, q1, rfl⟩, .inr ⟨rfl, bs[id].1, hbi, q4⟩⟩
   have := hκbox id _ hbi
   rw [Nat.zero_add] at this
   rw [this]; exact q1
 have hown : ∀ b, Own Ml b → Hand M mine b := fun b ⟨id, o, C, h1, h2, h3, h4⟩ => by
  obtain ⟨jd, C', q1, _, q3, _⟩ := hobj id o h1
  rw [h3] at q1
  cases q1
  obtain ⟨p1, D, p2, p3⟩ := q3 h2
  exact ⟨jd, p1, D, p2, by rw [p3]; exact h4⟩
 refine ⟨Ml, lo, rfl, ⟨fun id o h => ?_, fun id h => ?_, fun i j oi oj Ci Cj b hij h1 h2 h3 h4 h5 h6 h7 h8 => ?_, fun b hb => ⟨fun hf => hf.2 (hown b hb), (ok.own b ((hown b hb).own ho)).2⟩, fun b hb => not_hand_F ok ho (ok.GF b hb), fun b hb => hb.1⟩, hown, a3 Ml _ 0 lo ht hκbox, rfl⟩
 ·obtain ⟨jd, C, q1, q2, _⟩ := hobj id o h
  exact ⟨C, q1, q2⟩
 ·have h : objHp (mkX l (absXL (l.flatMap AX.cells) d rowBase).1 0).2 (absXL (l.flatMap AX.cells) d rowBase).2 id = none := h
  unfold objHp at h
  show κX M bs _ id = none
  unfold κX
  cases hb : Nat.ble rowBase id with
  | true =>
   rw [hb] at h
   have h : (absXL (l.flatMap AX.cells) d rowBase).2[id - rowBase]? = none := h
   rw [List.getElem?_eq_none_iff, ← k1] at h
   rw [List.getElem?_eq_none h]
   rfl
  | false =>
   rw [hb] at h
   have h : (mkX l (absXL (l.flatMap AX.cells) d rowBase).1 0).2[id]? = none := h
   rw [List.getElem?_eq_none_iff, ← hbox.length] at h
   rw [List.getElem?_eq_none h]
   rfl
 ·obtain ⟨ji, Ci', p1, _, p3, p4⟩ := hobj i oi h1
  obtain ⟨jj, Cj', q1, _, q3, q4⟩ := hobj j oj h2
  rw [h5] at p1; cases p1
  rw [h6] at q1; cases q1
  obtain ⟨p5, Di, p6, p7⟩ := p3 h3
  obtain ⟨q5, Dj, q6, q7⟩ := q3 h4
  obtain ⟨oi', r1, r2⟩ := ho ji p5
  obtain ⟨oj', r3, r4⟩ := ho jj q5
  refine ok.disj ji jj oi' oj' Di Dj b (fun e => ?_) r1 r3 r2 r4 p6 q6 (by rw [p7]; exact h7) (by rw [q7]; exact h8)
  subst e
  rw [← hmine] at hnd
  obtain ⟨n1, n2, n3⟩ := List.nodup_append.1 hnd
  rcases p4 with ⟨p8, p9⟩ | ⟨p8, io, p9, p10⟩ <;> rcases q4 with ⟨q8, q9⟩ | ⟨q8, io', q9, q10⟩
  ·have := (List.getElem?_inj (List.getElem?_eq_some_iff.1 p9).1 n2).1 (p9.trans q9.symm)
   have e1 := Nat.le_of_ble_eq_true p8
   have e2 := Nat.le_of_ble_eq_true q8
   exact hij (by omega)
  ·rw [h4] at q10
   subst q10
   exact n3 _ (ioIds_mem q9) _ (List.mem_of_getElem? p9) rfl
  ·rw [h3] at p10
   subst p10
   exact n3 _ (ioIds_mem p9) _ (List.mem_of_getElem? q9) rfl
  ·rw [h3] at p10
   rw [h4] at q10
   subst p10
   subst q10
   exact hij (ioIds_inj n1 p9 q9)
end Go.Ab
set_option linter.unusedVariables false
set_option linter.unusedSimpArgs false
set_option linter.unusedSectionVars false
namespace Go.Ab
theorem goneUpd_at {n : Nat} : ∀ {ids : List Nat} {h : Hp}, happly h (goneUpd ids) n = if n ∈ ids then some .gone else h n
 | [], _ => by simp [goneUpd, happly]
 | id :: ids, h => by
  show happly (hset h id .gone) (goneUpd ids) n = _
  rw [goneUpd_at (ids := ids)]
  by_cases e : n = id
  ·subst e; simp [hset_same]
  ·rw [hset_ne _ _ e]; simp [e]
def Mst.overX (M L : Mst) (mine : List Nat) : Mst := { κ := M.κ, F := fun b => M.F b ∨ L.G b, G := L.G, h := happly M.h (goneUpd mine), H := L.H }
theorem Mst.overX_ok {M Ml L : Mst} {mine : List Nat} (ok : Ok M) (okL : Ok L) (lo : LoX M mine Ml) (ho : Owned M mine) (hand : ∀ b, Own Ml b → Hand M mine b) (g : Grow Ml L) :
  Ok (M.overX L mine) ∧ Step M (M.overX L mine) ∧ (∀ b, Own (M.overX L mine) b → Own M b ∧ ¬ Hand M mine b) := by
 have hsame : ∀ b, b < M.H.size → ¬ Hand M mine b → L.H[b]? = M.H[b]? := fun b hb hn => by rw [g.same b (by rw [lo.F]; exact ⟨hb, hn⟩), lo.H]
 have hsz : M.H.size ≤ L.H.size := by have := g.size; rw [lo.H] at this; exact this
 have hG : ∀ b, L.G b → b < M.H.size → M.G b ∨ Hand M mine b := fun b hb hs => by
  rcases g.Gb b hb (by rw [lo.H]; exact hs) with h | h
  ·rw [lo.G] at h; exact .inl h
  ·exact .inr (hand b h)
 have hsF : ∀ b, M.F b → L.H[b]? = M.H[b]? := fun b h => hsame b (not_hand_F ok ho h).1 (not_hand_F ok ho h).2
 have x : Ext M (M.overX L mine) := ⟨fun id C h => ⟨C, h, C.le_refl⟩, fun b h => .inl h, fun b h => g.G b (by rw [lo.G]; exact h), fun b h => hsF b h, fun b h => hsF b (ok.GF b h), fun b h => by
  have := g.bsz b (by rw [lo.H]; exact h)
  rw [lo.H] at this
  exact this⟩
 have hobj : ∀ id o, (M.overX L mine).h id = some o → o.owned = true → id ∉ mine ∧ M.h id = some o := fun id o h hoo => by
  have h : happly M.h (goneUpd mine) id = some o := h
  rw [goneUpd_at] at h
  by_cases hm : id ∈ mine
  ·rw [if_pos hm] at h; cases h; cases hoo
  ·rw [if_neg hm] at h; exact ⟨hm, h⟩
 have hnot : ∀ id o C, id ∉ mine → M.h id = some o → o.owned = true → M.κ id = some C → ∀ b ∈ C.fp, ¬ Hand M mine b := fun id o C hm h hoo hC b hb ⟨jd, hj, D, hD, hbD⟩ => by
  obtain ⟨q, q1, q2⟩ := ho jd hj
  exact ok.disj id jd o q C D b (fun e => hm (by rw [e]; exact hj)) h q1 hoo q2 hC hD hb hbD
 have hown : ∀ b, Own (M.overX L mine) b → Own M b ∧ ¬ Hand M mine b := fun b ⟨id, o, C, h1, h2, h3, h4⟩ => by
  obtain ⟨k1, k2⟩ := hobj id o h1 h2
  exact ⟨⟨id, o, C, k2, h2, h3, h4⟩, hnot id o C k1 k2 h2 h3 b h4⟩
 refine ⟨⟨fun id o h => ?_, fun id h => ?_, fun i j oi oj Ci Cj b hij h1 h2 h3 h4 h5 h6 h7 h8 => ?_, fun b h => ⟨fun hf => ?_, ?_⟩, fun b h => .inr h, fun b h => ?_⟩, ⟨x, hsz, fun b hb hn => hsame b hb fun hh => hn (hh.own ho), fun b h _ => (hown b h).1, fun b h hs => ?_, fun b h hs => ?_⟩, hown⟩
 ·have h : happly M.h (goneUpd mine) id = some o := h
  rw [goneUpd_at] at h
  by_cases hm : id ∈ mine
  ·rw [if_pos hm] at h
   cases h
   obtain ⟨q, q1, q2⟩ := ho id hm
   obtain ⟨C, hC, _⟩ := ok.obj id q q1
   exact ⟨C, hC, trivial⟩
  ·rw [if_neg hm] at h
   obtain ⟨C, hC, hO⟩ := ok.obj id o h
   exact ⟨C, hC, hO.ext x fun hoo b hb => hsame b (ok.own b ⟨id, o, C, h, hoo, hC, hb⟩).2 (hnot id o C hm h hoo hC b hb)⟩
 ·have h : happly M.h (goneUpd mine) id = none := h
  rw [goneUpd_at] at h
  by_cases hm : id ∈ mine
  ·rw [if_pos hm] at h; cases h
  ·rw [if_neg hm] at h; exact ok.non id h
 ·exact ok.disj i j oi oj Ci Cj b hij (hobj i oi h1 h3).2 (hobj j oj h2 h4).2 h3 h4 h5 h6 h7 h8
 ·obtain ⟨k1, k2⟩ := hown b h
  have := ok.own b k1
  rcases hf with hf | hf
  ·exact this.1 hf
  ·rcases hG b hf this.2 with h | h
   ·exact this.1 (ok.GF b h)
   ·exact k2 h
 ·have h1 := (ok.own b (hown b h).1).2
  show b < L.H.size
  omega
 ·show b < L.H.size
  rcases h with h | h
  ·have := ok.Flt b h; omega
  ·exact okL.Flt b (okL.GF b h)
 ·rcases hG b h hs with h | h
  ·exact .inl h
  ·exact .inr (h.own ho)
 ·rcases h with h | h
  ·exact .inl h
  ·rcases hG b h hs with h | h
   ·exact .inl (ok.GF b h)
   ·exact .inr (h.own ho)
def Conc.bare (C : Conc) : Conc := { C with ver := C.ver + 1, rows := [] }
def Mst.revive (M : Mst) (id : Nat) (C : Conc) (cs : List CVal) : Mst := { M with κ := κset M.κ id C.bare, h := hset M.h id (.box true cs) }
theorem Mst.revive_ok {M : Mst} (ok : Ok M) {id : Nat} {C : Conc} {B : Nat} {vals : Array Value} {e : TypeId} {cs : List CVal} (hC : M.κ id = some C) (hB : C.blk = some B) (hH : M.H[B]? = some (.cells vals e (0, 0))) (hc : All2 (CRep M) cs vals.toList)
  (h1 : ¬ Own M B) (h2 : ¬ M.F B) : Ok (M.revive id C cs) ∧ Ext M (M.revive id C cs) ∧ (∀ b, Own (M.revive id C cs) b → Own M b ∨ b = B) := by
 have hκ : (M.revive id C cs).κ id = some C.bare := κset_same _ _ _
 have x : Ext M (M.revive id C cs) := ⟨fun jd D h => by
  by_cases e' : jd = id
  ·subst e'
   rw [hC] at h; cases h
   exact ⟨_, hκ, rfl, rfl, rfl, Nat.le_succ _, fun h => absurd h (by simp [Conc.bare])⟩
  ·exact ⟨D, by show κset M.κ id _ jd = _; rw [κset_ne _ _ e']; exact h, D.le_refl⟩, fun _ h => h, fun _ h => h, fun _ _ => rfl, fun _ _ => rfl, fun _ _ => rfl⟩
 have hfp : C.bare.fp = [B] := by simp [Conc.fp, Conc.bare, hB]
 have hat : (M.revive id C cs).h id = some (.box true cs) := hset_same _ _ _
 refine ⟨Ok.build ok x (fun jd => jd = id) (fun jd h => hset_ne _ _ h) (fun jd h => κset_ne _ _ h) (fun _ _ _ _ _ _ _ _ _ => rfl) (fun jd o' D k1 k2 k3 k4 b hb' => (ok.own b ⟨jd, o', D, k2, k3, k4, hb'⟩).1) (Nat.le_refl _)
  (fun jd o' e' h => ?_) (fun jd e' h => ?_) (fun jd o' D b e' k1 k2 k3 k4 => ?_) ok.GF ok.Flt, x, fun b hb' => ?_⟩
 ·subst e'
  rw [hat] at h
  cases h
  exact ⟨_, hκ, B, vals, e, hB, rfl, hH, hc.mono fun _ _ h => h.ext x, fun h => by cases h⟩
 ·subst e'
  rw [hat] at h; cases h
 ·subst e'
  rw [hκ] at k3
  cases k3
  rw [hfp, List.mem_singleton] at k4
  subst k4
  refine ⟨fun j oj Cj hj q1 q2 q3 q4 => h1 ⟨j, oj, Cj, ?_, q2, ?_, q4⟩, h2, (Array.getElem?_eq_some_iff.1 hH).1⟩
  ·rw [← q1]; exact (hset_ne _ _ hj).symm
  ·rw [← q3]; exact (κset_ne _ _ hj).symm
 ·obtain ⟨jd, o', D, k1, k2, k3, k4⟩ := hb'
  by_cases e' : jd = id
  ·subst e'
   rw [hκ] at k3
   cases k3
   rw [hfp, List.mem_singleton] at k4
   exact .inr k4
  ·exact .inl ⟨jd, o', D, by rw [← k1]; exact (hset_ne _ _ e').symm, k2, by rw [← k3]; exact (κset_ne _ _ e').symm, k4⟩
structure BackAt (M : Mst) (id : Nat) (cs : List CVal) (B : Nat) : Prop where
 at' : ∃ C, M.κ id = some C ∧ C.blk = some B
 rep : ∃ vals e, M.H[B]? = some (.cells vals e (0, 0)) ∧ All2 (CRep M) cs vals.toList
 own : ¬ Own M B
 F : ¬ M.F B
def Back3 (R : Nat → List CVal → Nat → Prop) : List Nat → List (List CVal) → List Nat → Prop
 | [], [], [] => True
 | a :: l, b :: m, c :: n => R a b c ∧ Back3 R l m n
 | _, _, _ => False
theorem Back3.mono {R S : Nat → List CVal → Nat → Prop} : ∀ {l : List Nat} {m : List (List CVal)} {n : List Nat}, (∀ a b c, c ∈ n → R a b c → S a b c) → Back3 R l m n → Back3 S l m n
 | [], [], [], _, _ => trivial
 | _ :: _, _ :: _, _ :: _, h, k => ⟨h _ _ _ (List.mem_cons_self ..) k.1, Back3.mono (fun a b c hc => h a b c (List.mem_cons_of_mem _ hc)) k.2⟩
 | [], [], _ :: _, _, k => k.elim
 | [], _ :: _, _, _, k => k.elim
 | _ :: _, [], _, _, k => k.elim
 | _ :: _, _ :: _, [], _, k => k.elim
theorem revive_all : ∀ {ids : List Nat} {css : List (List CVal)} {Bs : List Nat} {M : Mst}, Ok M → Back3 (BackAt M) ids css Bs → Bs.Nodup →
  ∃ M' : Mst, M'.H = M.H ∧ M'.G = M.G ∧ M'.F = M.F ∧ M'.h = happly M.h (boxUpd ids css) ∧ Ok M' ∧ Ext M M' ∧ (∀ b, Own M' b → Own M b ∨ b ∈ Bs)
 | [], [], [], M, ok, _, _ => ⟨M, rfl, rfl, rfl, rfl, ok, .refl M, fun _ h => .inl h⟩
 | id :: ids, cs :: css, B :: Bs, M, ok, h, hn => by
  obtain ⟨C, hC, hB⟩ := h.1.at'
  obtain ⟨vals, e, hH, hc⟩ := h.1.rep
  obtain ⟨k1, k2, k3⟩ := Mst.revive_ok ok hC hB hH hc h.1.own h.1.F
  obtain ⟨n1, n2⟩ := List.nodup_cons.1 hn
  obtain ⟨M', a1, a2, a3, a4, a5, a6, a7⟩ := revive_all (M := M.revive id C cs) k1 (Back3.mono (fun a b c hcB hb => by
   refine ⟨?_, ?_, fun ho => ?_, hb.F⟩
   ·obtain ⟨D, q1, q2⟩ := hb.at'
    obtain ⟨D', q3, le⟩ := k2.κ _ _ q1
    exact ⟨D', q3, le.blk.trans q2⟩
   ·obtain ⟨vals, e, q1, q2⟩ := hb.rep
    exact ⟨vals, e, q1, q2.mono fun _ _ h => h.ext k2⟩
   ·rcases k3 _ ho with h | h
    ·exact hb.own h
    ·subst h; exact n1 hcB) h.2) n2
  exact ⟨M', a1, a2, a3, a4, a5, Ext.trans (M := M) (M' := M.revive id C cs) (Nat.le_refl _) k2 a6, fun b hb => by
   rcases a7 b hb with h | h
   ·exact (k3 b h).imp (fun h => h) fun h => by rw [h]; exact List.mem_cons_self ..
   ·exact .inr (List.mem_cons_of_mem _ h)⟩
 | [], [], _ :: _, _, _, h, _ => h.elim
 | [], _ :: _, _, _, _, h, _ => h.elim
 | _ :: _, [], _, _, _, h, _ => h.elim
 | _ :: _, _ :: _, [], _, _, h, _ => h.elim
theorem boxUpd_eq : ∀ {ids : List Nat} {css : List (List CVal)} {h h' : Hp}, ids.length = css.length → (∀ n, n ∉ ids → h n = h' n) → happly h (boxUpd ids css) = happly h' (boxUpd ids css)
 | [], [], h, h', _, e => funext fun n => e n (by simp)
 | id :: ids, cs :: css, h, h', hl, e => boxUpd_eq (ids := ids) (css := css) (by simpa using hl) fun n hn => by
   by_cases k : n = id
   ·subst k; rw [hset_same, hset_same]
   ·rw [hset_ne _ _ k, hset_ne _ _ k]; exact e n (by simp [k, hn])
 | [], _ :: _, _, _, hl, _ => by simp at hl
 | _ :: _, [], _, _, hl, _ => by simp at hl
theorem frzX_sound {h0 : Hp} {s : AX} {a a' : AVal} {v : Value} {u : Upd} {M : Mst} (ok : Ok M) (hf : Frz h0 M.h) (hv : VRep M a v) (h : frzX h0 s a = some (a', u)) :
  ∃ L : Mst, L.H = M.H ∧ L.h = happly M.h u ∧ Ok L ∧ Step M L ∧ VRep L a' v ∧ Frz h0 L.h := by
 unfold frzX at h
 split at h
 ·rename_i p x
  split at h
  ·rename_i y u1 e
   cases h
   obtain ⟨L, h1, h2, h3, h4, h5, h6⟩ := frzW_sound (cs := [x]) (vs := [v]) ok hf ⟨hv, trivial⟩ e
   exact ⟨L, h1, h2, h3, h4, h5.1, h6⟩
  ·cases h
 ·rename_i l xs
  split at h
  ·rename_i ys u1 e
   cases h
   obtain ⟨vs, rfl, hx⟩ := hv
   obtain ⟨L, h1, h2, h3, h4, h5, h6⟩ := frzW_sound ok hf hx e
   exact ⟨L, h1, h2, h3, h4, ⟨vs, rfl, h5⟩, h6⟩
  ·cases h
 ·cases h
  exact ⟨M, rfl, rfl, ok, .refl M, hv, hf⟩
theorem frzAX_sound {h0 : Hp} : ∀ {l : List AX} {as as' : List AVal} {vs : List Value} {u : Upd} {M : Mst}, Ok M → Frz h0 M.h → All2 (VRep M) as vs → frzAX h0 l as = some (as', u) →
  ∃ L : Mst, L.H = M.H ∧ L.h = happly M.h u ∧ Ok L ∧ Step M L ∧ All2 (VRep L) as' vs ∧ Frz h0 L.h
 | s :: l, a :: as, as', v :: vs, u, M, ok, hf, hv, h => by
  unfold frzAX at h
  split at h
  ·rename_i a1 u1 as1 us1 e1 e2
   cases h
   obtain ⟨M1, h1, h2, h3, h4, h5, h6⟩ := frzX_sound ok hf hv.1 e1
   obtain ⟨M2, k1, k2, k3, k4, k5, k6⟩ := frzAX_sound h3 h6 (VReps.ext h4.ext hv.2) e2
   exact ⟨M2, k1.trans h1, by rw [k2, h2, happly_append], k3, h4.trans k4, ⟨h5.ext k4.ext, k5⟩, k6⟩
  ·cases h
 | [], as, as', vs, u, M, ok, hf, hv, h => by
  cases as <;> cases h <;> exact ⟨M, rfl, rfl, ok, .refl M, hv, hf⟩
 | s :: l, [], as', vs, u, M, ok, hf, hv, h => by cases h; exact ⟨M, rfl, rfl, ok, .refl M, hv, hf⟩
 | _ :: _, _ :: _, _, [], _, _, _, _, hv, _ => hv.elim
def SameBlk (M L : Mst) (id jd : Nat) : Prop := ∃ C D B, M.κ id = some C ∧ C.blk = some B ∧ L.κ jd = some D ∧ D.blk = some B
theorem pick_match {M L : Mst} : ∀ {ls : List (Bool × List XC)} {is js out : List Nat} {us : List Value} {cs : List CVal} {bs : List (Bool × Nat)}, boxesX M.h ls is = some (cs, bs) → pickIo ls js = some out →
  All2 (fun id u => ∃ C B, M.κ id = some C ∧ C.blk = some B ∧ u = .pointer (some ⟨B, 0, none⟩)) is us → All2 (fun id u => ∃ C B, L.κ id = some C ∧ C.blk = some B ∧ u = .pointer (some ⟨B, 0, none⟩)) js us → All2 (SameBlk M L) (ioIds bs) out
 | [], [], [], out, us, cs, bs, h, k, _, _ => by cases h; cases k; exact trivial
 | (io, l) :: ls, i :: is, j :: js, out, u :: us, cs, bs, h, k, p, q => by
  unfold boxesX at h
  split at h
  ·rename_i cells rest bs' h1 h2
   obtain ⟨_, h⟩ := cond_some h
   cases h
   unfold pickIo at k
   split at k
   ·rename_i o ho
    cases k
    have ih := pick_match h2 ho p.2 q.2
    cases io with
    | false => exact ih
    | true =>
     obtain ⟨C, B, k1, k2, k3⟩ := p.1
     obtain ⟨D, B', k4, k5, k6⟩ := q.1
     rw [k3] at k6
     cases k6
     exact ⟨⟨C, D, B, k1, k2, k4, k5⟩, ih⟩
   ·cases k
  ·cases h
 | [], _ :: _, _, _, _, _, _, h, _, _, _ => by cases h
 | _ :: _, [], _, _, _, _, _, h, _, _, _ => by cases h
 | [], [], _ :: _, _, _, _, _, _, k, _, _ => by cases k
 | _ :: _, _ :: _, [], _, _, _, _, _, k, _, _ => by cases k
 | _ :: _, _ :: _, _ :: _, _, [], _, _, _, _, p, _ => p.elim
theorem chn_match {M L : Mst} : ∀ {bs : List (Bool × Nat)} {n : Nat}, (∀ q ∈ bs, q.1 = true) → (∀ i q, bs[i]? = some q → SameBlk M L q.2 (n + i)) → All2 (SameBlk M L) (ioIds bs) (upFrom n bs.length)
 | [], n, _, _ => trivial
 | (true, id) :: bs, n, h, k => ⟨k 0 _ rfl, chn_match (fun q hq => h q (List.mem_cons_of_mem _ hq)) fun i q hq => by
   have := k (i + 1) q hq
   rwa [show n + (i + 1) = n + 1 + i by omega] at this⟩
 | (false, id) :: bs, n, h, k => by cases h _ (List.mem_cons_self ..)
theorem boxesX_io {h : Hp} : ∀ {ls : List (Bool × List XC)} {ids : List Nat} {cs : List CVal} {bs : List (Bool × Nat)}, boxesX h ls ids = some (cs, bs) → bs.map (·.1) = ls.map (·.1)
 | [], [], _, _, e => by cases e; rfl
 | (io, l) :: ls, id :: ids, cs, bs, e => by
  unfold boxesX at e
  split at e
  ·rename_i cells rest bs' h1 h2
   obtain ⟨_, e⟩ := cond_some e
   cases e
   simp [boxesX_io h2]
  ·cases e
 | [], _ :: _, _, _, e => by cases e
 | _ :: _, [], _, _, e => by cases e
theorem ioOne_match {M L : Mst} {s : AX} {a b : AVal} {v : Value} {cs : List CVal} {bs : List (Bool × Nat)} {out : List Nat} (h : s.get M.h a = some (cs, bs)) {n : Nat} (k : s.io n b = some out) (p : VRep M a v) (q : s.looks = true → VRep L b v) (hk : s.isChn = true → ∀ i q, bs[i]? = some q → SameBlk M L q.2 (n + i)) : All2 (SameBlk M L) (ioIds bs) out := by
 unfold AX.get at h
 split at h
 ·cases h; cases k; exact trivial
 ·obtain ⟨_, h'⟩ := cond_some h
  cases h'; cases k; exact trivial
 ·rename_i io l id
  unfold AX.io at k
  split at k
  ·rename_i e; cases e
  ·rename_i e; cases e
  ·rename_i io' l' jd e
   cases e
   exact pick_match (us := [v]) h k ⟨p, trivial⟩ ⟨q rfl, trivial⟩
  ·rename_i e; cases e
  ·rename_i e; cases e
  ·cases k
 ·rename_i f caps g ids
  obtain ⟨hg, h'⟩ := cond_some h
  unfold AX.io at k
  split at k
  ·rename_i e; cases e
  ·rename_i e; cases e
  ·rename_i e; cases e
  ·rename_i f' caps' g' js e
   cases e
   obtain ⟨cv, rfl, hc⟩ := p
   obtain ⟨cv', e', hc'⟩ := q rfl
   cases e'
   exact pick_match h' k hc hc'
  ·rename_i e; cases e
  ·cases k
 ·rename_i ls id
  split at h
  ·rename_i ids hids
   cases k
   have h1 := boxesX_len h
   have h2 : ls.length = bs.length := by rw [h1]; simp [ioAlls]
   rw [h2]
   exact chn_match (fun q hq => by
    have : q.1 ∈ bs.map (·.1) := List.mem_map_of_mem hq
    rw [boxesX_io h] at this
    exact (by simpa [ioAlls] using this : _ ∧ _).2) (hk rfl)
  ·cases h
 ·cases h
theorem ioAll_match {M L : Mst} : ∀ {l : List AX} {as : List AVal} {vs : List Value} {t : Nat → AVal} {n : Nat} {cs : List CVal} {bs : List (Bool × Nat)} {out : List Nat} {m : Nat}, getAllX M.h l as = some (cs, bs) → ioAll l t n m = some out → All2 (VRep M) as vs → (∀ i (h : i < vs.length) s, l[i]? = some s → s.looks = true → VRep L (t (n + i)) vs[i]) → (l.any AX.isChn = true → ∀ i q, bs[i]? = some q → SameBlk M L q.2 (m + i)) →
  All2 (SameBlk M L) (ioIds bs) out
 | [], [], [], t, n, cs, bs, out, m, h, k, _, _, _ => by cases h; cases k; exact trivial
 | s :: l, a :: as, v :: vs, t, n, cs, bs, out, m, h, k, p, q, hk => by
  unfold getAllX at h
  split at h
  ·rename_i c1 b1 c2 b2 h1 h2
   cases h
   unfold ioAll at k
   split at k
   ·rename_i o1 o2 k1 k2
    cases k
    have e : ∀ b1 b2 : List (Bool × Nat), ioIds (b1 ++ b2) = ioIds b1 ++ ioIds b2 := fun b1 b2 => by
     induction b1 with
     | nil => rfl
     | cons x b1 ih => obtain ⟨io, y⟩ := x; cases io <;> simp [ioIds, ih]
    rw [e]
    have hnb := get_nb h1
    refine (ioOne_match h1 k1 p.1 (q 0 (by simp) s rfl) fun hc i q hq => hk (by simp [hc]) i q (by rw [List.getElem?_append_left (List.getElem?_eq_some_iff.1 hq).1]; exact hq)).append (ioAll_match h2 k2 p.2 (fun i hi s' hs hl => ?_) fun hc i q hq => ?_)
    rotate_left
    ·have := hk (by simp only [List.any_cons, hc, Bool.or_true]) (b1.length + i) q (by rw [List.getElem?_append_right (by omega)]; rw [show b1.length + i - b1.length = i by omega]; exact hq)
     rw [hnb, ← Nat.add_assoc] at this
     exact this
    have := q (i + 1) (by simpa using hi) s' (by simpa using hs) hl
    rw [show n + (i + 1) = n + 1 + i by omega] at this
    simpa using this
   ·cases k
  ·cases h
 | [], [], _ :: _, _, _, _, _, _, _, _, _, p, _, _ => p.elim
 | [], _ :: _, _, _, _, _, _, _, _, h, _, _, _, _ => by cases h
 | _ :: _, [], _, _, _, _, _, _, _, h, _, _, _, _ => by cases h
 | _ :: _, _ :: _, [], _, _, _, _, _, _, _, _, p, _, _ => p.elim
theorem boxCells_at {L : Mst} (okL : Ok L) : ∀ {os : List (List RC)} {ids : List Nat} {bs : List CVal}, boxCells L.h os ids = some bs → bs.length = os.flatten.length ∧ ids.length = os.length ∧
  ∃ us : List Value, All2 (CRep L) bs us ∧ ∀ {M : Mst} {cs : List CVal}, M.H = L.H → All2 (CRep M) cs us → Back3 (fun id cs B => (∃ cells, L.h id = some (.box true cells)) ∧ (∃ C, L.κ id = some C ∧ C.blk = some B ∧ C.rows = []) ∧ ∃ vals e, M.H[B]? = some (.cells vals e (0, 0)) ∧ All2 (CRep M) cs vals.toList) ids (cutR os cs) (ids.map fun id => ((L.κ id).bind Conc.blk).getD 0)
 | [], [], bs, h => by cases h; exact ⟨rfl, rfl, [], trivial, fun _ _ => trivial⟩
 | o :: os, n :: ns, bs, h => by
  unfold boxCells at h
  split at h
  ·rename_i cells rest h1 h2
   obtain ⟨hl, h⟩ := cond_some h
   cases h
   have hl : cells.length = o.length := Nat.eq_of_beq_eq_true hl
   obtain ⟨C, hC, B, vals, e, q1, q2, q3, q4, _⟩ := okL.obj n _ h1
   obtain ⟨k1, k2, us, k3, k4⟩ := boxCells_at okL h2
   refine ⟨by simp [hl, k1], by simp [k2], vals.toList ++ us, q4.append k3, fun {M cs} hH hc => ⟨⟨⟨cells, h1⟩, ⟨C, hC, ?_, q2⟩, vals, e, ?_, ?_⟩, ?_⟩⟩
   ·show C.blk = some (((L.κ n).bind Conc.blk).getD 0); rw [hC]; show C.blk = some (C.blk.getD 0); rw [q1]; rfl
   ·show M.H[((L.κ n).bind Conc.blk).getD 0]? = _; rw [hC, hH]; show L.H[C.blk.getD 0]? = _; rw [q1]; exact q3
   ·have h1 := All2.take o.length hc
    have hwl := q4.length
    rw [show (vals.toList ++ us).take o.length = vals.toList from by rw [List.take_append_of_le_length (by omega), List.take_of_length_le (by omega)]] at h1
    exact h1
   ·have h1 := All2.drop o.length hc
    have hwl := q4.length
    rw [show (vals.toList ++ us).drop o.length = us from by rw [show o.length = vals.toList.length by omega, List.drop_left]] at h1
    exact k4 hH h1
  ·cases h
 | [], _ :: _, _, h => by cases h
 | _ :: _, [], _, h => by cases h
theorem nobox_one {h0 : Hp} {r : RC} {c : CVal} {d : r.den} (h : outR h0 r c = some d) : ∀ id ∈ ownIds [r] [c], ∀ own cells, h0 id ≠ some (.box own cells) := by
  unfold outR at h
  split at h
  all_goals (try (intro id hid; simp [ownIds] at hid; done))
  all_goals first
    | (cases h; done)
    | (intro id' hid own cells hb
       have := List.mem_singleton.1 hid
       subst this
       rw [hb] at h
       cases h)
    | (cases h; intro id' hid; simp [ownIds] at hid)
theorem nobox_all {L : Hp} : ∀ {l : List RC} {cs : List CVal} {d : RL l}, outRL L l cs = some d → ∀ id ∈ ownIds l cs, ∀ own cells, L id ≠ some (.box own cells)
 | [], [], _, _, id, hid => by cases hid
 | r :: l, c :: cs, d, h, id, hid => by
  unfold outRL at h
  split at h
  ·rename_i x xs e1 e2
   rw [ownIds_cons] at hid
   rcases List.mem_append.1 hid with hid | hid
   ·exact nobox_one e1 id hid
   ·exact nobox_all e2 id hid
  ·cases h
 | [], _ :: _, _, h, _, _ => by cases h
 | _ :: _, [], _, h, _, _ => by cases h
end Go.Ab
set_option linter.unusedVariables false
set_option linter.unusedSimpArgs false
set_option linter.unusedSectionVars false
namespace Go.Ab
theorem ioIds_append : ∀ (a b : List (Bool × Nat)), ioIds (a ++ b) = ioIds a ++ ioIds b
 | [], _ => rfl
 | (true, _) :: a, b => by simp [ioIds, ioIds_append a b]
 | (false, _) :: a, b => by simp [ioIds, ioIds_append a b]
theorem boxesX_owned {h : Hp} : ∀ {ls : List (Bool × List XC)} {is : List Nat} {cs : List CVal} {bs : List (Bool × Nat)}, boxesX h ls is = some (cs, bs) → ∀ id ∈ ioIds bs, ∃ o, h id = some o ∧ o.owned = true
 | [], [], _, _, e => by cases e; intro id hid; cases hid
 | (io, l) :: ls, i :: is, cs, bs, e => by
  unfold boxesX at e
  split at e
  ·rename_i cells rest bs' h1 h2
   obtain ⟨_, e⟩ := cond_some e
   cases e
   intro id hid
   cases io with
   | false => exact boxesX_owned h2 id hid
   | true =>
    rcases List.mem_cons.1 hid with rfl | hid
    ·unfold boxX at h1
     split at h1
     ·rename_i c hc
      exact ⟨_, hc, rfl⟩
     ·rename_i e' _; cases e'
     ·rename_i e' _; cases e'
     ·cases h1
    ·exact boxesX_owned h2 id hid
  ·cases e
 | [], _ :: _, _, _, e => by cases e
 | _ :: _, [], _, _, e => by cases e
theorem getX_owned {h : Hp} {s : AX} {a : AVal} {cs : List CVal} {bs : List (Bool × Nat)} (e : s.get h a = some (cs, bs)) : ∀ id ∈ ioIds bs, ∃ o, h id = some o ∧ o.owned = true := by
 unfold AX.get at e
 split at e
 ·cases e; intro id hid; cases hid
 ·obtain ⟨_, e⟩ := cond_some e
  cases e; intro id hid; cases hid
 ·exact boxesX_owned e
 ·obtain ⟨_, e⟩ := cond_some e
  exact boxesX_owned e
 ·split at e
  ·exact boxesX_owned e
  ·cases e
 ·cases e
theorem getAllX_owned {h : Hp} : ∀ {l : List AX} {as : List AVal} {cs : List CVal} {bs : List (Bool × Nat)}, getAllX h l as = some (cs, bs) → l.length = as.length ∧ ∀ id ∈ ioIds bs, ∃ o, h id = some o ∧ o.owned = true
 | [], [], _, _, e => by cases e; exact ⟨rfl, fun id hid => by cases hid⟩
 | s :: l, a :: as, cs, bs, e => by
  unfold getAllX at e
  split at e
  ·rename_i c1 b1 c2 b2 h1 h2
   cases e
   obtain ⟨k1, k2⟩ := getAllX_owned h2
   refine ⟨by simp [k1], fun id hid => ?_⟩
   rw [ioIds_append] at hid
   rcases List.mem_append.1 hid with hid | hid
   ·exact getX_owned h1 id hid
   ·exact k2 id hid
  ·cases e
 | [], _ :: _, _, _, e => by cases e
 | _ :: _, [], _, _, e => by cases e
theorem inXL_owned {h : Hp} : ∀ {l : List XC} {cs : List CVal} {d : XL l}, inXL h l cs = some d → ∀ id ∈ rowIds l cs, ∃ o, h id = some o ∧ o.owned = true
 | [], [], _, _ => fun id hid => by cases hid
 | x :: l, c :: cs, d, e => by
  unfold inXL at e
  split at e
  ·rename_i y ys h1 h2
   cases e
   have ih := inXL_owned h2
   unfold inX at h1
   split at h1
   ·exact ih
   ·rename_i t id
    intro jd hid
    rcases List.mem_cons.1 hid with rfl | hid
    ·split at h1
     ·rename_i s xs hs
      exact ⟨_, hs, rfl⟩
     ·cases h1
    ·exact ih jd hid
   ·rename_i id
    intro jd hid
    rcases List.mem_cons.1 hid with rfl | hid
    ·split at h1
     ·rename_i s xs hs
      exact ⟨_, hs, rfl⟩
     ·cases h1
    ·exact ih jd hid
   ·rename_i id
    intro jd hid
    rcases List.mem_cons.1 hid with rfl | hid
    ·split at h1
     ·rename_i xs hs
      exact ⟨_, hs, rfl⟩
     ·cases h1
    ·exact ih jd hid
   ·exact ih
   ·cases h1
  ·cases e
 | [], _ :: _, _, e => by cases e
 | _ :: _, [], _, e => by cases e
theorem apartL_spec {a b : List Nat} (h : apartL a b = true) : ∀ id ∈ b, id ∉ a := fun id hb ha => by
 have h := List.all_eq_true.1 h id ha
 have : b.any (Nat.beq id) = true := List.any_eq_true.2 ⟨id, hb, by simp⟩
 rw [this] at h; cases h
theorem cutR_length : ∀ (os : List (List RC)) (cs : List CVal), (cutR os cs).length = os.length
 | [], _ => rfl
 | _ :: os, cs => by simp [cutR, cutR_length os]
theorem back_match {M L : Mst} {P : Mst → Nat → Prop} {R : Nat → List CVal → Nat → Prop} : ∀ {ids js : List Nat} {css : List (List CVal)} {Bs : List Nat}, All2 (SameBlk M L) ids js → Back3 R js css Bs → Back3 (fun id cs B => ∃ jd, SameBlk M L id jd ∧ R jd cs B) ids css Bs
 | [], [], [], [], _, _ => trivial
 | _ :: _, _ :: _, _ :: _, _ :: _, h, k => ⟨⟨_, h.1, k.1⟩, back_match (P := P) h.2 k.2⟩
 | [], [], [], _ :: _, _, k => k.elim
 | [], [], _ :: _, _, _, k => by cases k
 | [], _ :: _, _, _, h, _ => h.elim
 | _ :: _, [], _, _, h, _ => h.elim
 | _ :: _, _ :: _, [], _, _, k => k.elim
 | _ :: _, _ :: _, _ :: _, [], _, k => k.elim
theorem Mst.gone_ok {M : Mst} (ok : Ok M) {nm : Nat} (hnm : M.h nm = none) (C : Conc) :
  Ok (M.add nm .gone C) ∧ Ext M (M.add nm .gone C) ∧ (∀ b, Own (M.add nm .gone C) b → Own M b) := by
 have x : Ext M (M.add nm .gone C) := ⟨fun id D h => by
  have hne : id ≠ nm := fun e => by rw [e, ok.non nm hnm] at h; cases h
  exact ⟨D, by show κset M.κ nm _ id = _; rw [κset_ne _ _ hne]; exact h, D.le_refl⟩, fun _ h => h, fun _ h => h, fun _ _ => rfl, fun _ _ => rfl, fun _ _ => rfl⟩
 have at' : ∀ o, (M.add nm .gone C).h nm = some o → o = .gone := fun o h => by
  have e1 : (M.add nm .gone C).h nm = some .gone := hset_same _ _ _
  rw [e1] at h; cases h; rfl
 refine ⟨Ok.build ok x (fun id => id = nm) (fun id h => hset_ne _ _ h) (fun id h => κset_ne _ _ h) (fun _ _ _ _ _ _ _ _ _ => rfl) (fun id o' D h1 h2 h3 h4 b hb' => (ok.own b ⟨id, o', D, h2, h3, h4, hb'⟩).1) (Nat.le_refl _)
  (fun id o' e h => ?_) (fun id e h => ?_) (fun id o' D b e h1 h2 h3 h4 => ?_) ok.GF ok.Flt, x, fun b hb' => ?_⟩
 ·subst e
  rw [at' o' h]
  exact ⟨_, κset_same _ _ _, trivial⟩
 ·subst e
  have e1 : (M.add id .gone C).h id = some .gone := hset_same _ _ _
  rw [e1] at h; cases h
 ·subst e
  rw [at' o' h1] at h2; cases h2
 ·obtain ⟨id, o', D, h1, h2, h3, h4⟩ := hb'
  by_cases e : id = nm
  ·subst e
   rw [at' o' h1] at h2; cases h2
  ·exact ⟨id, o', D, by rw [← h1]; exact (hset_ne _ _ e).symm, h2, by rw [← h3]; exact (κset_ne _ _ e).symm, h4⟩
theorem gone_all : ∀ {n nm : Nat} {Bs : List Nat} {M : Mst}, Ok M → (∀ i, i < n → M.h (nm + i) = none) → Bs.length = n →
  ∃ M' : Mst, M'.H = M.H ∧ M'.G = M.G ∧ M'.F = M.F ∧ M'.h = happly M.h (goneUpd (upFrom nm n)) ∧ Ok M' ∧ Ext M M' ∧ (∀ b, Own M' b → Own M b) ∧ All2 (fun id B => ∃ C, M'.κ id = some C ∧ C.blk = some B) (upFrom nm n) Bs
 | 0, nm, [], M, ok, _, _ => ⟨M, rfl, rfl, rfl, rfl, ok, .refl M, fun _ h => h, trivial⟩
 | n + 1, nm, B :: Bs, M, ok, hf, hl => by
  obtain ⟨k1, k2, k3⟩ := Mst.gone_ok ok (hf 0 (by omega)) ⟨some B, 0, 0, 0, []⟩
  rw [Nat.add_zero] at k1 k2 k3
  obtain ⟨M', a1, a2, a3, a4, a5, a6, a7, a8⟩ := gone_all (n := n) (nm := nm + 1) (Bs := Bs) k1 (fun i hi => by
   have := hf (i + 1) (by omega)
   rw [show nm + 1 + i = nm + (i + 1) by omega, ← this]
   exact hset_ne _ _ (by omega)) (by simpa using hl)
  refine ⟨M', a1, a2, a3, a4, a5, Ext.trans (M := M) (M' := M.add nm .gone ⟨some B, 0, 0, 0, []⟩) (Nat.le_refl _) k2 a6, fun b hb => k3 b (a7 b hb), ?_, a8⟩
  obtain ⟨C, h1, h2⟩ := a6.κ nm _ (κset_same _ _ _)
  exact ⟨C, h1, h2.blk⟩
 | n + 1, _, [], _, _, _, hl => by cases hl
 | 0, _, _ :: _, _, _, _, hl => by cases hl
theorem fixL_rep {L M : Mst} {ids js : List Nat} (hs : All2 (SameBlk M L) ids js) : ∀ {l : List (Option Nat)} {cs ds : List CVal} {vs : List Value}, linksOk l js cs = true → All2 (CRep L) cs vs → All2 (CRep M) ds vs → All2 (CRep M) (fixL l ids ds) vs
 | [], cs, ds, vs, _, _, hd => by unfold fixL; exact hd
 | none :: l, [], [], [], _, _, _ => trivial
 | none :: l, c :: cs, d :: ds, v :: vs, h, hc, hd => ⟨hd.1, fixL_rep hs (l := l) h hc.2 hd.2⟩
 | some j :: l, [], [], [], _, _, _ => trivial
 | some j :: l, c :: cs, d :: ds, v :: vs, h, hc, hd => by
  obtain ⟨id, rfl, hid, h'⟩ := linksOk_some h
  refine ⟨?_, fixL_rep hs h' hc.2 hd.2⟩
  have hj := (List.getElem?_eq_some_iff.1 hid).1
  have hi : j < ids.length := by rw [hs.length]; exact hj
  have := hs.get j hi hj
  rw [(List.getElem?_eq_some_iff.1 hid).2] at this
  obtain ⟨C, D, B, q1, q2, q3, q4⟩ := this
  obtain ⟨D', B', p1, p2, p3⟩ := hc.1
  rw [q3] at p1; cases p1
  rw [q4] at p2; cases p2
  rw [List.getElem?_eq_getElem hi]
  exact ⟨C, B, q1, q2, p3⟩
 | _, [], _ :: _, [], _, _, hd => hd.elim
 | _, [], _ :: _, _ :: _, _, hc, _ => hc.elim
 | _, _ :: _, [], [], _, hc, _ => hc.elim
 | _, _ :: _, [], _ :: _, _, _, hd => hd.elim
 | _, [], [], _ :: _, _, hc, _ => hc.elim
 | _, _ :: _, _ :: _, [], _, hc, _ => hc.elim
theorem newsOf_length {h : Hp} {ns : Nat} {cs : List CVal} {nw : List Nat} (e : newsOf h ns cs = some nw) : nw.length = ns := by
 unfold newsOf at e
 cases h0 : Nat.beq ns 0 with
 | true => rw [h0] at e; cases e; exact (Nat.eq_of_beq_eq_true h0).symm
 | false =>
  rw [h0] at e
  simp only [cond_false] at e
  split at e
  ·exact (chainIds_head e).2
  ·cases e
def LeftX (w : World) (na : Nat) (chn : Bool) (M : Mst) (vs : Array Value) (rv : Value) (w' : World) (v : AVal) (st : St) : Prop :=
 ∃ M' : Mst, M'.h = st.h ∧ M'.H = w'.heap ∧ Ok M' ∧ Grow M M' ∧ (chn = true → Kept M M') ∧ VRep M' v rv ∧ w'.os = w.os ∧ w'.tape = w.tape ∧ w'.output = w.output ∧ (∀ t, t < na → VRep M' (st.t t) (vs.getD t undef))
theorem gotL_names {n : Nat} : ∀ {l : List RC} {nm : Nat} {d : RL l} {hh : Hp}, (∀ j, j < l.length → n ≠ nm + j) → happly hh (gotL nm l d).2 n = hh n
 | [], _, _, _, _ => rfl
 | r :: l, nm, d, hh, h => by
  show happly hh ((gotR nm r d.1).2 ++ (gotL (nm + 1) l d.2).2) n = _
  rw [happly_append, gotL_names fun j hj => by have := h (j + 1) (by simpa using hj); omega, gotR_names (by have := h 0 (by simp); omega)]
theorem boxX_blk {M : Mst} (ok : Ok M) {io : Bool} {id : Nat} {cells : List CVal} (h : boxX M.h io id = some cells) : ∃ C B, M.κ id = some C ∧ C.blk = some B := by
 have h' : boxOf M.h id = some cells := by
  unfold boxX at h
  unfold boxOf
  split at h
  ·rename_i e; rw [e]; exact h
  ·rename_i e; rw [e]; exact h
  ·rename_i e; rw [e]; exact h
  ·cases h
 obtain ⟨C, h1, B, _, _, h2, _⟩ := boxOf_at ok h'
 exact ⟨C, B, h1, h2⟩
theorem boxesX_blk {M : Mst} (ok : Ok M) : ∀ {ls : List (Bool × List XC)} {is : List Nat} {cs : List CVal} {bs : List (Bool × Nat)}, boxesX M.h ls is = some (cs, bs) → ∀ q ∈ bs, ∃ C B, M.κ q.2 = some C ∧ C.blk = some B
 | [], [], _, _, e => by cases e; intro q hq; cases hq
 | (io, l) :: ls, i :: is, cs, bs, e => by
  unfold boxesX at e
  split at e
  ·rename_i cells rest bs' h1 h2
   obtain ⟨_, e⟩ := cond_some e
   cases e
   intro q hq
   rcases List.mem_cons.1 hq with rfl | hq
   ·exact boxX_blk ok h1
   ·exact boxesX_blk ok h2 q hq
  ·cases e
 | [], _ :: _, _, _, e => by cases e
 | _ :: _, [], _, _, e => by cases e
theorem all_boxes {M : Mst} (ok : Ok M) : ∀ {l : List AX} {as : List AVal} {cs : List CVal} {bs : List (Bool × Nat)}, getAllX M.h l as = some (cs, bs) → ∀ q ∈ bs, ∃ C B, M.κ q.2 = some C ∧ C.blk = some B
 | [], [], _, _, e => by cases e; intro q hq; cases hq
 | s :: l, a :: as, cs, bs, e => by
  unfold getAllX at e
  split at e
  ·rename_i c1 b1 c2 b2 h1 h2
   cases e
   intro q hq
   rcases List.mem_append.1 hq with hq | hq
   ·unfold AX.get at h1
    split at h1
    ·cases h1; cases hq
    ·obtain ⟨_, h1⟩ := cond_some h1
     cases h1; cases hq
    ·exact boxesX_blk ok h1 q hq
    ·obtain ⟨_, h1⟩ := cond_some h1
     exact boxesX_blk ok h1 q hq
    ·split at h1
     ·exact boxesX_blk ok h1 q hq
     ·cases h1
    ·cases h1
   ·exact all_boxes ok h2 q hq
  ·cases e
 | [], _ :: _, _, _, e => by cases e
 | _ :: _, [], _, _, e => by cases e
theorem boxCells_mem {L : Mst} (ok : Ok L) : ∀ {os : List (List RC)} {ids : List Nat} {bs : List CVal}, boxCells L.h os ids = some bs → ∀ j ∈ ids, ∃ cells C B, L.h j = some (.box true cells) ∧ L.κ j = some C ∧ C.blk = some B
 | [], [], _, _ => fun j hj => by cases hj
 | o :: os, n :: ns, bs, h => by
  unfold boxCells at h
  split at h
  ·rename_i cells rest h1 h2
   intro j hj
   rcases List.mem_cons.1 hj with rfl | hj
   ·obtain ⟨C, hC, B, vals, e, q1, _⟩ := ok.obj _ _ h1
    exact ⟨cells, C, B, h1, hC, q1⟩
   ·exact boxCells_mem ok h2 j hj
  ·cases h
 | [], _ :: _, _, h => by cases h
 | _ :: _, [], _, h => by cases h
theorem blks_nodup {L : Mst} (ok : Ok L) : ∀ {js : List Nat}, js.Nodup → (∀ j ∈ js, ∃ cells C B, L.h j = some (.box true cells) ∧ L.κ j = some C ∧ C.blk = some B) → (js.map fun id => ((L.κ id).bind Conc.blk).getD 0).Nodup
 | [], _, _ => List.nodup_nil
 | a :: js, hn, hall => by
  obtain ⟨n1, n2⟩ := List.nodup_cons.1 hn
  refine List.nodup_cons.2 ⟨fun hm' => ?_, blks_nodup ok n2 fun j hj => hall j (List.mem_cons_of_mem _ hj)⟩
  obtain ⟨j, hj, hje⟩ := List.mem_map.1 hm'
  obtain ⟨c1', C, B, q1, q2, q3⟩ := hall a (List.mem_cons_self ..)
  obtain ⟨c2', D, B', q4, q5, q6⟩ := hall j (List.mem_cons_of_mem _ hj)
  have hje : ((L.κ j).bind Conc.blk).getD 0 = ((L.κ a).bind Conc.blk).getD 0 := hje
  rw [q2, q5] at hje
  have hje : (D.blk.getD 0) = (C.blk.getD 0) := hje
  rw [q3, q6] at hje
  have hje : B' = B := hje
  subst hje
  exact ok.disj a j _ _ C D B' (fun e => n1 (by rw [e]; exact hj)) q1 q4 rfl rfl q2 q5 (by simp [Conc.fp, q3]) (by simp [Conc.fp, q6])
theorem entered_sound {na : Nat} {as : List AX} (hna : looksBelow as na = true) {nm n : Nat} {args : List AVal} {h : Hp} {u0 : Upd} {io rows : List Nat} {d : XD as} (he : entered as nm n args h = some (u0, io, rows, d)) (M : Mst) (w : World) (vs : Array Value) (hh : M.h = h) (hH : M.H = w.heap) (ok : Ok M) (hv : All2 (VRep M) args vs.toList) :
  ∃ Ml : Mst, Ml.h = (absArgsX as d).2 ∧ Ml.H = w.heap ∧ Ok Ml ∧ All2 (VRep Ml) (absArgsX as d).1 vs.toList ∧
   ∀ rv w' v0 st, LeftX w na (as.any AX.isChn) Ml vs rv w' v0 st → ∀ rs os ns dx, outX st as rs os ns v0 = some dx → (rs.cells ++ os.flatten).length + ns ≤ n →
    ∃ Mf, Behind M w (gotten u0 io rows rs os ns nm dx).2 Mf w' ∧ VRep Mf (gotten u0 io rows rs os ns nm dx).1 rv := by
 unfold entered at he
 split at he
 ·cases he
 rename_i args' u hfrz
 split at he
 ·cases he
 rename_i cs bs hget
 split at he
 ·cases he
 rename_i d' hd
 dsimp only at he
 obtain ⟨hc, he⟩ := cond_some' he
 cases he
 simp only [Bool.and_eq_true] at hc
 obtain ⟨⟨⟨⟨⟨⟨hc1, hc2⟩, hc3⟩, hc4⟩, hc5⟩, hc6⟩, hc7⟩ := hc
 subst hh
 obtain ⟨M1, a1, a2, a3, a4, a5, a6⟩ := frzAX_sound ok (Frz.refl _) hv hfrz
 rw [← a2] at hd hget
 obtain ⟨hlen1, hio⟩ := getAllX_owned hget
 have hrow := inXL_owned hd
 have howned : Owned M1 (ioIds bs ++ rowIds (as.flatMap AX.cells) cs) := fun id hid => (List.mem_append.1 hid).elim (hio id) (hrow id)
 have hnd0 := noDup_spec hc4
 obtain ⟨Ml, lo, b2, b3, b4, b5, b6⟩ := in_okX a3 a5 hget hd hnd0 (apartL_spec hc5) (apartL_spec hc6) (Nat.le_of_ble_eq_true hc3) hc7 howned
 generalize hmine : ioIds bs ++ rowIds (as.flatMap AX.cells) cs = mine at *
 refine ⟨Ml, b2, by rw [lo.H, a1]; exact hH, b3, b5, fun rv w' v0 st ⟨L0, c1, c2, c3, c4, ck, c5, c6, c7, c8, c9⟩ rs os ns dx hK hn => ?_⟩
 unfold outX at hK
 split at hK
 ·cases hK
 rename_i io0 hids
 split at hK
 ·cases hK
 rename_i ccs hcs
 split at hK
 ·cases hK
 rename_i nw hnw
 split at hK
 ·cases hK
 rename_i bcs hbcs
 obtain ⟨hndi, hK1⟩ := cond_some' hK
 clear hK
 split at hK1
 case h_2 => cases hK1
 rename_i cs' u1 hfr
 obtain ⟨hnd, hK⟩ := cond_some' hK1
 clear hK1
 rw [Bool.and_eq_true] at hnd
 obtain ⟨hnd, hlks⟩ := hnd
 have hnwl := newsOf_length hnw
 obtain ⟨hlen, us, d1, d2⟩ := res_shape hcs c5
 rw [← c1] at hfr hK hbcs
 obtain ⟨js, hjs⟩ : ∃ js, js = io0 ++ nw := ⟨_, rfl⟩
 rw [← hjs] at hbcs hndi hlks
 obtain ⟨k1, k2, us2, k3, k4⟩ := boxCells_at c3 hbcs
 obtain ⟨L, e1, e2, e3, e4, e5, e6⟩ := frzW_sound c3 (Frz.refl _) (d1.append k3) hfr
 rw [← e2] at hK
 have g : Grow Ml L := c4.trans e4.grow
 obtain ⟨f1, f2, f3⟩ := Mst.overX_ok a3 e3 lo howned b4 g
 have hsame : All2 (SameBlk M1 L0) (ioIds bs) io0 := ioAll_match hget hids a5 (fun i hi s hs hlk => by
  have hi' : i < vs.size := by simpa using hi
  have hlt : i < na := by
   have := List.all_eq_true.1 hna (s, i) (List.mk_mem_zipIdx_iff_getElem?.2 hs)
   simp only [hlk, Bool.not_true, Bool.false_or] at this
   exact blt_true this
  have := c9 i hlt
  rw [Nat.zero_add]
  have e : vs.getD i undef = vs.toList[i] := by simp [hi']
  rw [← e]; exact this) fun hch i q hq => by
   obtain ⟨C, B, p1, p2⟩ := all_boxes a3 hget q (List.mem_of_getElem? hq)
   have hi : i < bs.length := (List.getElem?_eq_some_iff.1 hq).1
   have hκ : Ml.κ i = some C := by
    rw [b6]
    unfold κX
    have : Nat.ble rowBase i = false := by
     cases h : Nat.ble rowBase i with
     | false => rfl
     | true => have h1 := Nat.le_of_ble_eq_true h; have h2 := Nat.le_of_ble_eq_true hc3; omega
    rw [this, hq]
    exact p1
   obtain ⟨C', p3, p4⟩ := ck hch i C hκ
   rw [Nat.zero_add]
   exact ⟨C, C', B, p1, p2, p3, p4.trans p2⟩
 have hfree0 : ∀ i, i < n → (M1.overX L mine).h (nm + i) = none := fun i hi => by
  have h1 := freeN_at hc1 i hi
  have h2 : M1.h (nm + i) = none := by
   rw [a2]
   rcases a6 (nm + i) with h | ⟨own, t, xs, h, _⟩ | ⟨ver, xs, h, _⟩
   ·rw [a2] at h; rw [h]; exact h1
   ·rw [h1] at h; cases h
   ·rw [h1] at h; cases h
  show happly M1.h (goneUpd mine) (nm + i) = none
  rw [goneUpd_at, if_neg, h2]
  intro hm'
  obtain ⟨o, ho, _⟩ := howned _ hm'
  rw [h2] at ho; cases ho
 have hfree : ∀ i, i < (rs.cells ++ os.flatten).length → (M1.overX L mine).h (nm + i) = none := fun i hi => hfree0 i (by omega)
 have hlow : ∀ b, Own L b → b < M1.H.size → Hand M1 mine b := fun b hb hlt => b4 b (g.own b hb (by rw [lo.H]; exact hlt))
 have hnotF : ∀ b, Own L b → ¬ (M1.overX L mine).F b := fun b hb h => by
  rcases h with h | h
  ·exact (not_hand_F a3 howned h).2 (hlow b hb (a3.Flt b h))
  ·exact (e3.own b hb).1 (e3.GF b h)
 have hnotO : ∀ b, Own L b → ¬ Own (M1.overX L mine) b := fun b hb h => by
  obtain ⟨q1, q2⟩ := f3 b h
  exact q2 (hlow b hb (a3.own b q1).2)
 obtain ⟨Mc, g1, g2, g3, g4, g5, g6, g7, g8⟩ := got_all e3 f1 ⟨rfl, rfl⟩ hfree hK (noDup_spec hnd) (ownIds_owned hK) (fun id hid C hC b hb => by
  obtain ⟨o, ho, hoo⟩ := ownIds_owned hK id hid
  have hown : Own L b := ⟨id, o, C, ho, hoo, hC, hb⟩
  exact ⟨hnotO b hown, hnotF b hown, (e3.own b hown).2⟩)
 obtain ⟨Mg, n1, n2, n3, n4, n5, n6, n7, n8⟩ := gone_all (n := ns) (nm := nm + (rs.cells ++ os.flatten).length) (Bs := nw.map fun id => ((L0.κ id).bind Conc.blk).getD 0) g5 (fun i hi => by
  rw [g4, gotL_names (fun j hj => by omega), Nat.add_assoc]
  exact hfree0 _ (by omega)) (by simp [hnwl])
 have hboxL : ∀ j ∈ js, ∃ cells C B, L0.h j = some (.box true cells) ∧ L0.κ j = some C ∧ C.blk = some B := boxCells_mem c3 hbcs
 have hx6 : Ext M1 Mg := (f2.ext.trans f2.size g6).trans (by rw [g1]; exact f2.size) n6
 have hs1 : All2 (SameBlk Mg L0) (ioIds bs) io0 := hsame.mono fun id jd hq => by
  obtain ⟨C, D, B, q1, q2, q3, q4⟩ := hq
  obtain ⟨C', p3, le⟩ := hx6.κ id C q1
  exact ⟨C', D, B, p3, le.blk.trans q2, q3, q4⟩
 have hs2 : All2 (SameBlk Mg L0) (upFrom (nm + (rs.cells ++ os.flatten).length) ns) nw := by
  have hl8 := n8.length
  rw [List.length_map] at hl8
  refine All2.of_get hl8 fun i h1 h2 => ?_
  obtain ⟨C, q1, q2⟩ := n8.get i h1 (by simpa using h2)
  obtain ⟨cells, D, B, p1, p2, p3⟩ := hboxL nw[i] (by rw [hjs]; exact List.mem_append_right _ (List.getElem_mem _))
  refine ⟨C, D, B, q1, ?_, p2, p3⟩
  rw [q2, List.getElem_map, p2]
  show some (D.blk.getD 0) = _
  rw [p3]; rfl
 have hsameG : All2 (SameBlk Mg L0) (ioIds bs ++ upFrom (nm + (rs.cells ++ os.flatten).length) ns) js := by
  rw [hjs]; exact hs1.append hs2
 have hsameGL : All2 (SameBlk Mg L) (ioIds bs ++ upFrom (nm + (rs.cells ++ os.flatten).length) ns) js := hsameG.mono fun id jd hq => by
  obtain ⟨C, D, B, q1, q2, q3, q4⟩ := hq
  obtain ⟨D', p3, le⟩ := e4.ext.κ jd D q3
  exact ⟨C, D', B, q1, q2, p3, le.blk.trans q4⟩
 have hfix := fixL_rep hsameGL hlks e5 ((g8 _ e5).mono fun _ _ h => h.ext n6)
 obtain ⟨G, hG⟩ : ∃ G, G = fixL ((rs.cells ++ os.flatten).map RC.lnk) (ioIds bs ++ upFrom (nm + (rs.cells ++ os.flatten).length) ns) (gotL nm (rs.cells ++ os.flatten) dx).1 := ⟨_, rfl⟩
 rw [← hG] at hfix
 have hul : us.length = rs.cells.length := by rw [← d1.length, hlen]
 have hgr : All2 (CRep Mg) (G.take rs.cells.length) us := by
  have := All2.take rs.cells.length hfix
  rwa [show (us ++ us2).take rs.cells.length = us from by rw [← hul, List.take_left]] at this
 have hgb : All2 (CRep Mg) (G.drop rs.cells.length) us2 := by
  have := All2.drop rs.cells.length hfix
  rwa [show (us ++ us2).drop rs.cells.length = us2 from by rw [← hul, List.drop_left]] at this
 have hHc : Mg.H = L0.H := by rw [n1, g1]; exact e1
 have hback := back_match (P := fun _ _ => True) hsameG (k4 hHc hgb)
 have hlbox : ∀ jd B, (∃ cells, L0.h jd = some (.box true cells)) → (∃ C, L0.κ jd = some C ∧ C.blk = some B) → ∃ cells C, L.h jd = some (.box true cells) ∧ L.κ jd = some C ∧ B ∈ C.fp := fun jd B ⟨cells, q1⟩ ⟨C, q2, q3⟩ => by
  obtain ⟨C', q4, le⟩ := e4.ext.κ jd C q2
  refine ⟨cells, C', ?_, q4, ?_⟩
  ·rcases e6 jd with h | ⟨own, t, xs, h, _⟩ | ⟨ver, xs, h, _⟩
   ·rw [h, q1]
   ·rw [q1] at h; cases h
   ·rw [q1] at h; cases h
  ·have : C'.blk = some B := le.blk.trans q3
   simp [Conc.fp, this]
 have hBown : ∀ b, b ∈ (js.map fun id => ((L0.κ id).bind Conc.blk).getD 0) → Own L b := fun b hb => by
  obtain ⟨j, hj, rfl⟩ := List.mem_map.1 hb
  obtain ⟨cells, C, B, q1, q2, q3⟩ := hboxL j hj
  obtain ⟨cells', D, p4, p5, p6⟩ := hlbox j B ⟨cells, q1⟩ ⟨C, q2, q3⟩
  have e : ((L0.κ j).bind Conc.blk).getD 0 = B := by rw [q2]; show C.blk.getD 0 = B; rw [q3]; rfl
  rw [e]
  exact ⟨j, _, D, p4, rfl, p5, p6⟩
 have hback2 : Back3 (BackAt Mg) (ioIds bs ++ upFrom (nm + (rs.cells ++ os.flatten).length) ns) (cutR os (G.drop rs.cells.length)) (js.map fun id => ((L0.κ id).bind Conc.blk).getD 0) := Back3.mono (fun id css B _ ⟨jd, q1, q2, ⟨D0, q3, q3b, _⟩, q4⟩ => by
  obtain ⟨C, D1, B', p1, p2, p3, p3b⟩ := q1
  rw [q3] at p3; cases p3
  rw [q3b] at p3b; cases p3b
  obtain ⟨cells, D, p4, p5, p6⟩ := hlbox jd B q2 ⟨_, q3, q3b⟩
  have hown : Own L B := ⟨jd, _, D, p4, rfl, p5, p6⟩
  refine ⟨⟨C, p1, p2⟩, q4, fun ho => ?_, ?_⟩
  ·rcases g7 B (n7 B ho) with h | ⟨kd, hkd, D', p7, p8⟩
   ·exact hnotO B hown h
   ·obtain ⟨o, p9, p10⟩ := ownIds_owned hK kd hkd
    refine e3.disj jd kd _ o D D' B (fun e => ?_) p4 p9 rfl p10 p5 p7 p6 p8
    exact nobox_all hK kd hkd true cells (by rw [← e]; exact p4)
  ·rw [n3, g3]; exact hnotF B hown) hback
 have hBs : (js.map fun id => ((L0.κ id).bind Conc.blk).getD 0).Nodup := blks_nodup c3 (noDup_spec hndi) hboxL
 obtain ⟨Mf, r1, r2, r3, r4, r5, r6, r7⟩ := revive_all n5 hback2 hBs
 have st2 : Step M1 Mf := by
  have hown : ∀ b, Own Mf b → b < M1.H.size → Own M1 b := fun b hb hlt => by
   rcases r7 b hb with hb | hb
   ·rcases g7 b (n7 b hb) with h | ⟨id, hid, C, hC, hbC⟩
    ·exact (f3 b h).1
    ·obtain ⟨o, ho, hoo⟩ := ownIds_owned hK id hid
     exact (hlow b ⟨id, o, C, ho, hoo, hC, hbC⟩ hlt).own howned
   ·exact (hlow b (hBown b hb) hlt).own howned
  have hg1 : Mf.H = (M1.overX L mine).H := r1.trans (n1.trans g1)
  refine ⟨hx6.trans ?_ r6, ?_, fun b hb hn => ?_, hown, fun b hb hlt => ?_, fun b hb hlt => ?_⟩
  ·rw [n1, g1]; exact f2.size
  ·rw [hg1]; exact f2.size
  ·rw [hg1]; exact f2.frame b hb hn
  ·rw [r2, n2, g2] at hb; exact f2.Gb b hb hlt
  ·rw [r3, n3, g3] at hb; exact f2.Fb b hb hlt
 have hlen2 : (ioIds bs ++ upFrom (nm + (rs.cells ++ os.flatten).length) ns).length = (cutR os (G.drop rs.cells.length)).length := by
  rw [cutR_length, hsameG.length, k2]
 refine ⟨Mf, ⟨c6, c7, c8, ?_, ?_, r5, a4.trans st2⟩, ?_⟩
 ·rw [r1, n1, g1]; show L.H = _; rw [e1, c2]
 ·rw [r4, n4, g4]
  show _ = happly M.h (u0 ++ (goneUpd (rowIds (as.flatMap AX.cells) cs) ++ ((gotL nm (rs.cells ++ os.flatten) dx).2 ++ boxUpd (ioIds bs ++ upFrom (nm + (rs.cells ++ os.flatten).length) ns) (cutR os ((fixL ((rs.cells ++ os.flatten).map RC.lnk) (ioIds bs ++ upFrom (nm + (rs.cells ++ os.flatten).length) ns) (gotL nm (rs.cells ++ os.flatten) dx).1).drop rs.cells.length)))))
  rw [← hG, happly_append, happly_append, happly_append, ← a2]
  refine boxUpd_eq hlen2 fun m hm => ?_
  rw [List.mem_append, not_or] at hm
  rw [goneUpd_at, if_neg hm.2]
  refine happly_at ?_
  show happly M1.h (goneUpd mine) m = _
  rw [goneUpd_at, goneUpd_at, ← hmine]
  simp [hm.1]
 ·show VRep Mf (rs.mk ((fixL ((rs.cells ++ os.flatten).map RC.lnk) (ioIds bs ++ upFrom (nm + (rs.cells ++ os.flatten).length) ns) (gotL nm (rs.cells ++ os.flatten) dx).1).take rs.cells.length)) rv
  rw [← hG]
  exact d2 Mf _ (hgr.mono fun _ _ h => h.ext r6)
theorem entryX_soundC {P : Program} {na : Nat} {f : FuncId} (hcall : ∀ vs w, (callFunc f vs).run P w = .ok (.enter f vs) w)
  {as : List AX} {rs : RS} {os : List (List RC)} {ns : Nat} {X : Type} {S : XD as → Option X} {pack : X → RL (rs.cells ++ os.flatten)} {unpack : RL (rs.cells ++ os.flatten) → X} (hpu : ∀ d, pack (unpack d) = d) (hna : looksBelow as na = true)
  (hcalls : ∀ d x, S d = some x → ∀ (M : Mst) (w : World) (vs : Array Value), M.h = (absArgsX as d).2 → M.H = w.heap → Ok M → All2 (VRep M) (absArgsX as d).1 vs.toList → Calls P f vs w fun
   | .returned rv, w' => ∃ (v : AVal) (st : St), outXM as rs os ns unpack v st = some x ∧ LeftX w na (as.any AX.isChn) M vs rv w' v st
   | _, _ => False)
  {nm : Nat} {args : List AVal} {h : Hp} {v : AVal} {u : Upd} (hy : Yields (entryX as rs os ns S pack nm args h) v u) : CallOK P f args h v u := by
 intro M w vs hh hH ok hv
 refine .inl ⟨hcall vs w, ?_⟩
 unfold entryX at hy
 split at hy
 ·exact hy.elim
 rename_i u0 io rows d he
 obtain ⟨x, hx, rfl, rfl⟩ := hy
 obtain ⟨Ml, b1, b2, b3, b4, b5⟩ := entered_sound hna he M w vs hh hH ok hv
 refine Calls.mono (hcalls d x hx Ml w vs b1 b2 b3 b4) fun e w' hl => ?_
 cases e with
 | panicked _ => exact hl.elim
 | outgrown => exact hl.elim
 | returned rv =>
  obtain ⟨v0, st, hK, hl⟩ := hl
  have hK : outX st as rs os ns v0 = some (pack x) := by
   unfold outXM at hK
   split at hK
   ·rename_i d' hd'
    cases hK
    rw [hd', hpu]
   ·cases hK
  exact b5 rv w' v0 st hl rs os ns (pack x) hK (Nat.le_refl _)
theorem entryN_soundC {P : Program} {na : Nat} {f : FuncId} (hcall : ∀ vs w, (callFunc f vs).run P w = .ok (.enter f vs) w)
  {as : List AX} {rs rs2 : RS} {os os2 : List (List RC)} {ns ns2 : Nat} {X Y : Type} {S : XD as → Option (X ⊕ Y)} {pk : X → RL (rs.cells ++ os.flatten)} {up : RL (rs.cells ++ os.flatten) → X} {pk2 : Y → RL (rs2.cells ++ os2.flatten)} {up2 : RL (rs2.cells ++ os2.flatten) → Y}
  (hpu : ∀ d, pk (up d) = d) (hpu2 : ∀ d, pk2 (up2 d) = d) (hna : looksBelow as na = true)
  (hcalls : ∀ d x, S d = some x → ∀ (M : Mst) (w : World) (vs : Array Value), M.h = (absArgsX as d).2 → M.H = w.heap → Ok M → All2 (VRep M) (absArgsX as d).1 vs.toList → Calls P f vs w fun
   | .returned rv, w' => ∃ (v : AVal) (st : St), outXN as rs os ns rs2 os2 ns2 up up2 v st = some x ∧ LeftX w na (as.any AX.isChn) M vs rv w' v st
   | _, _ => False)
  {nm : Nat} {args : List AVal} {h : Hp} {v : AVal} {u : Upd} (hy : Yields (entryN as rs os ns rs2 os2 ns2 S pk pk2 nm args h) v u) : CallOK P f args h v u := by
 intro M w vs hh hH ok hv
 refine .inl ⟨hcall vs w, ?_⟩
 unfold entryN at hy
 split at hy
 ·exact hy.elim
 rename_i u0 io rows d he
 obtain ⟨Ml, b1, b2, b3, b4, b5⟩ := entered_sound hna he M w vs hh hH ok hv
 rcases hy with ⟨x, hx, rfl, rfl⟩ | ⟨x, hx, rfl, rfl⟩ <;>
 ·refine Calls.mono (hcalls d _ hx Ml w vs b1 b2 b3 b4) fun e w' hl => ?_
  cases e with
  | panicked _ => exact hl.elim
  | outgrown => exact hl.elim
  | returned rv =>
   obtain ⟨v0, st, hK, hl⟩ := hl
   unfold outXN at hK
   split at hK
   ·rename_i d' hd'
    cases hK <;> exact b5 rv w' v0 st hl rs os ns _ (by rw [hd', hpu]) (by omega)
   ·split at hK
    ·rename_i d' hd'
     cases hK <;> exact b5 rv w' v0 st hl rs2 os2 ns2 _ (by rw [hd', hpu2]) (by omega)
    ·cases hK
theorem evF_left {E : Env} (hE : EnvOK E) (hS : SumsLocal E.sums) (hm : E.P.follows .mixedOrders = true) {A : Notes} {k pre na : Nat} {f : FuncId} {fn : Func} (hf : E.P.funcs[f]? = some fn) (hL : ∀ c, fn.body = some c → LoopsOK E.P A pre na fn.ntmps c) {chn : Bool} (hch : (!chn || A.loops.isEmpty) = true)
  {R : Type} {K : AVal → St → Option R} {x : R} {args : List AVal} {h : Hp} (hev : evF E A k pre na fn args h K = some x) {M : Mst} {w : World} {vs : Array Value} (h1 : M.h = h) (h2 : M.H = w.heap) (h3 : Ok M) (h4 : All2 (VRep M) args vs.toList) :
  Calls E.P f vs w fun
   | .returned rv, w' => ∃ (v : AVal) (st : St), K v st = some x ∧ LeftX w na chn M vs rv w' v st
   | _, _ => False := by
 refine Calls.mono (evF_calls hE hS hm hf hL hev h1 h2 h3 h4) fun e w' hl => ?_
 cases e with
 | panicked _ => exact hl.elim
 | outgrown => exact hl.elim
 | returned rv =>
  obtain ⟨M', v, st, a1, a2, a3, a4, a5, a6, a7, a8, a9, a10, a11⟩ := hl
  refine ⟨v, st, a1, M', a2, a3, a4, a5, fun hc => a6 ?_, a7, a8, a9, a10, a11⟩
  subst hc
  exact List.isEmpty_iff.1 hch
theorem entryX_sound {E : Env} (hE : EnvOK E) (hS : SumsLocal E.sums) (hm : E.P.follows .mixedOrders = true) {A : Notes} {k pre na : Nat} {f : FuncId} {fn : Func} (hf : E.P.funcs[f]? = some fn) (hL : ∀ c, fn.body = some c → LoopsOK E.P A pre na fn.ntmps c) (hcall : ∀ vs w, (callFunc f vs).run E.P w = .ok (.enter f vs) w)
  {as : List AX} {rs : RS} {os : List (List RC)} {ns : Nat} {X : Type} {S : XD as → Option X} {pack : X → RL (rs.cells ++ os.flatten)} {unpack : RL (rs.cells ++ os.flatten) → X} (hpu : ∀ d, pack (unpack d) = d) (hna : looksBelow as na = true) (hch : (!as.any AX.isChn || A.loops.isEmpty) = true)
  (hev : ∀ d, evF E A k pre na fn (absArgsX as d).1 (absArgsX as d).2 (outXM as rs os ns unpack) = S d)
  {nm : Nat} {args : List AVal} {h : Hp} {v : AVal} {u : Upd} (hy : Yields (entryX as rs os ns S pack nm args h) v u) : CallOK E.P f args h v u :=
 entryX_soundC hcall hpu hna (fun d x hx M w vs h1 h2 h3 h4 => evF_left hE hS hm hf hL hch ((hev d).trans hx) h1 h2 h3 h4) hy
theorem entryN_sound {E : Env} (hE : EnvOK E) (hS : SumsLocal E.sums) (hm : E.P.follows .mixedOrders = true) {A : Notes} {k pre na : Nat} {f : FuncId} {fn : Func} (hf : E.P.funcs[f]? = some fn) (hL : ∀ c, fn.body = some c → LoopsOK E.P A pre na fn.ntmps c) (hcall : ∀ vs w, (callFunc f vs).run E.P w = .ok (.enter f vs) w)
  {as : List AX} {rs rs2 : RS} {os os2 : List (List RC)} {ns ns2 : Nat} {X Y : Type} {S : XD as → Option (X ⊕ Y)} {pk : X → RL (rs.cells ++ os.flatten)} {up : RL (rs.cells ++ os.flatten) → X} {pk2 : Y → RL (rs2.cells ++ os2.flatten)} {up2 : RL (rs2.cells ++ os2.flatten) → Y}
  (hpu : ∀ d, pk (up d) = d) (hpu2 : ∀ d, pk2 (up2 d) = d) (hna : looksBelow as na = true) (hch : (!as.any AX.isChn || A.loops.isEmpty) = true)
  (hev : ∀ d, evF E A k pre na fn (absArgsX as d).1 (absArgsX as d).2 (outXN as rs os ns rs2 os2 ns2 up up2) = S d)
  {nm : Nat} {args : List AVal} {h : Hp} {v : AVal} {u : Upd} (hy : Yields (entryN as rs os ns rs2 os2 ns2 S pk pk2 nm args h) v u) : CallOK E.P f args h v u :=
 entryN_soundC hcall hpu hpu2 hna (fun d x hx M w vs h1 h2 h3 h4 => evF_left hE hS hm hf hL hch ((hev d).trans hx) h1 h2 h3 h4) hy
end Go.Ab
set_option linter.unusedVariables false
set_option linter.unusedSimpArgs false
set_option linter.unusedSectionVars false
namespace Go.Ab
section
variable {h h' : Hp}
theorem inX_h {x : XC} {c : CVal} (hh : ∀ id ∈ idsC c, h id = h' id) : inX h x c = inX h' x c := by
 unfold inX
 split
 ·exact inP_h hh
 ·rename_i id; rw [hh id (by simp [idsC])]
 ·rename_i id; rw [hh id (by simp [idsC])]
 ·rename_i id; rw [hh id (by simp [idsC])]
 ·rfl
 ·rfl
theorem inXL_h : ∀ {l : List XC} {cs : List CVal}, (∀ id ∈ cs.flatMap idsC, h id = h' id) → inXL h l cs = inXL h' l cs
 | [], [], _ => rfl
 | [], _ :: _, _ => rfl
 | _ :: _, [], _ => rfl
 | p :: l, c :: cs, hh => by
  simp only [List.flatMap_cons, List.mem_append] at hh
  unfold inXL
  rw [inX_h fun id hi => hh id (.inl hi), inXL_h fun id hi => hh id (.inr hi)]
theorem boxesX_nil {ls : List (Bool × List XC)} : boxesX h ls [] = boxesX h' ls [] := by
 cases ls <;> rfl
theorem getX_h {s : AX} {a : AVal} (hb : boxy a = false) : s.get h a = s.get h' a := by
 unfold AX.get
 cases s with
 | c p => cases a <;> rfl
 | agg l => cases a <;> rfl
 | ptr io l =>
  cases a with
  | c x => cases x <;> first | rfl | (exact absurd hb (by simp [boxy]))
  | _ => rfl
 | fn f caps =>
  cases a with
  | c x => cases x with
   | fn g ids =>
    cases ids with
    | nil => dsimp only; rw [boxesX_nil]
    | cons _ _ => exact absurd hb (by simp [boxy])
   | _ => rfl
  | _ => rfl
 | chn ls =>
  cases a with
  | c x => cases x <;> first | rfl | (exact absurd hb (by simp [boxy]))
  | _ => rfl
theorem getX_ids {s : AX} {a : AVal} {cs : List CVal} {bs : List (Bool × Nat)} (hb : boxy a = false) (e : s.get h a = some (cs, bs)) : ∀ id ∈ cs.flatMap idsC, id ∈ idsV a := by
 unfold AX.get at e
 split at e
 ·cases e; intro id hid; simp only [List.flatMap_cons, List.flatMap_nil, List.append_nil] at hid; exact hid
 ·obtain ⟨_, e⟩ := cond_some e
  cases e; exact fun id hid => hid
 ·exact absurd hb (by simp [boxy])
 ·rename_i f caps g ids
  obtain ⟨_, e⟩ := cond_some e
  cases ids with
  | nil => cases caps with
   | nil => cases e; intro id hid; simp at hid
   | cons _ _ => cases e
  | cons _ _ => exact absurd hb (by simp [boxy])
 ·exact absurd hb (by simp [boxy])
 ·cases e
theorem getAllX_h : ∀ {l : List AX} {as : List AVal}, as.any boxy = false → getAllX h l as = getAllX h' l as
 | [], [], _ => rfl
 | [], _ :: _, _ => rfl
 | _ :: _, [], _ => rfl
 | s :: l, a :: as, hb => by
  simp only [List.any_cons, Bool.or_eq_false_iff] at hb
  unfold getAllX
  rw [getX_h (h := h) (h' := h') hb.1, getAllX_h hb.2]
theorem getAllX_ids : ∀ {l : List AX} {as : List AVal} {cs : List CVal} {bs : List (Bool × Nat)}, as.any boxy = false → getAllX h l as = some (cs, bs) → ∀ id ∈ cs.flatMap idsC, id ∈ as.flatMap idsV
 | [], [], cs, bs, _, e => by cases e; intro id hid; simp at hid
 | [], _ :: _, _, _, _, e => by cases e
 | _ :: _, [], _, _, _, e => by cases e
 | s :: l, a :: as, cs, bs, hb, e => by
  simp only [List.any_cons, Bool.or_eq_false_iff] at hb
  unfold getAllX at e
  split at e
  ·rename_i c1 b1 c2 b2 e1 e2
   cases e
   intro id hid
   rw [List.flatMap_append, List.mem_append] at hid
   rw [List.flatMap_cons, List.mem_append]
   rcases hid with hid | hid
   ·exact .inl (getX_ids hb.1 e1 id hid)
   ·exact .inr (getAllX_ids hb.2 e2 id hid)
  ·cases e
theorem frzX_h {s : AX} {a : AVal} (hh : ∀ id ∈ idsV a, h id = h' id) : frzX h s a = frzX h' s a := by
 unfold frzX
 split
 ·rename_i p x
  have := frzW_h (h := h) (h' := h') (l := [p.isKept]) (cs := [x]) (by rw [one_ids]; exact hh)
  simp only [this]
 ·rename_i l xs
  have := frzW_h (h := h) (h' := h') (l := l.map PC.isKept) (cs := xs) hh
  simp only [this]
 ·rfl
theorem frzX_ids {s : AX} {a a' : AVal} {u : Upd} (e : frzX h s a = some (a', u)) : (∀ id ∈ idsV a', id ∈ idsV a) ∧ (boxy a = false → boxy a' = false) := by
 unfold frzX at e
 split at e
 ·rename_i p x
  split at e
  ·rename_i y u1 e1
   cases e
   refine ⟨fun id hid => by have := frzW_ids e1 id (by rw [one_ids]; exact hid); rwa [one_ids] at this, fun hb => ?_⟩
   cases hk : p.isKept with
   | false => rw [hk] at e1; cases e1; exact hb
   | true =>
    rw [hk] at e1
    unfold frzW at e1
    split at e1
    ·rename_i c1 u2 cs1 us1 e2 e3
     cases e3
     cases e1
     cases hy : boxy (.c y) with
     | false => rfl
     | true => rw [(frzC_ids e2).2 hy] at hb; cases hb
    ·cases e1
  ·cases e
 ·rename_i l xs
  split at e
  ·rename_i ys u1 e1
   cases e
   exact ⟨frzW_ids e1, fun _ => rfl⟩
  ·cases e
 ·cases e; exact ⟨fun _ h => h, fun h => h⟩
theorem frzAX_h : ∀ {l : List AX} {as : List AVal}, (∀ id ∈ as.flatMap idsV, h id = h' id) → frzAX h l as = frzAX h' l as
 | [], as, _ => by cases as <;> rfl
 | _ :: _, [], _ => rfl
 | s :: l, a :: as, hh => by
  simp only [List.flatMap_cons, List.mem_append] at hh
  unfold frzAX
  rw [frzX_h fun id hi => hh id (.inl hi), frzAX_h fun id hi => hh id (.inr hi)]
theorem frzAX_ids : ∀ {l : List AX} {as as' : List AVal} {u : Upd}, frzAX h l as = some (as', u) → (∀ id ∈ as'.flatMap idsV, id ∈ as.flatMap idsV) ∧ (as.any boxy = false → as'.any boxy = false)
 | [], as, as', u, e => by cases as <;> cases e <;> exact ⟨fun _ h => h, fun h => h⟩
 | s :: l, [], as', u, e => by cases e; exact ⟨fun _ h => h, fun h => h⟩
 | s :: l, a :: as, as', u, e => by
  unfold frzAX at e
  split at e
  ·rename_i a1 u1 as1 us1 e1 e2
   cases e
   obtain ⟨k1, k2⟩ := frzX_ids e1
   obtain ⟨k3, k4⟩ := frzAX_ids e2
   refine ⟨fun id hid => ?_, fun hb => ?_⟩
   ·rw [List.flatMap_cons, List.mem_append] at hid ⊢
    exact hid.imp (k1 id) (k3 id)
   ·simp only [List.any_cons, Bool.or_eq_false_iff] at hb ⊢
    exact ⟨k2 hb.1, k4 hb.2⟩
  ·cases e
theorem entered_h {as : List AX} {nm n : Nat} {args : List AVal} (h1 : args.any boxy = false → ∀ id, (id ∈ args.flatMap idsV ∨ inOwn nm id = true) → h id = h' id) (h2 : args.any boxy = true → h = h') : entered as nm n args h = entered as nm n args h' := by
 cases hb : args.any boxy with
 | true => rw [h2 hb]
 | false =>
  have hh := h1 hb
  unfold entered
  rw [frzAX_h (h := h) (h' := h') fun id hid => hh id (.inl hid)]
  cases e : frzAX h' as args with
  | none => rfl
  | some p =>
   obtain ⟨args', u⟩ := p
   obtain ⟨k1, k2⟩ := frzAX_ids e
   dsimp only
   rw [getAllX_h (h := happly h u) (h' := happly h' u) (k2 hb)]
   cases e2 : getAllX (happly h' u) as args' with
   | none => rfl
   | some q =>
    obtain ⟨cs, bs⟩ := q
    dsimp only
    rw [inXL_h (h := happly h u) (h' := happly h' u) fun id hid => happly_at (hh id (.inl (k1 id (getAllX_ids (k2 hb) e2 id hid))))]
    cases inXL (happly h' u) (as.flatMap AX.cells) cs with
    | none => rfl
    | some d =>
     dsimp only
     cases hle : Nat.ble n 100 with
     | false => simp
     | true =>
      have hle := Nat.le_of_ble_eq_true hle
      rw [freeN_h (h := h) (h' := h') fun i hi => hh _ (.inr (by
       simp only [inOwn, Bool.and_eq_true]
       exact ⟨Nat.ble_eq_true_of_le (by omega), by simp [Nat.blt_eq]; omega⟩))]
end
theorem entryX_local {as : List AX} {rs : RS} {os : List (List RC)} {ns : Nat} {X : Type} {S : Nat → XD as → Option X} {pack : X → RL (rs.cells ++ os.flatten)} : EntryLocal fun k nm args h => entryX as rs os ns (S k) pack nm args h := by
 intro k nm args h h' h1 h2
 show entryX as rs os ns (S k) pack nm args h = entryX as rs os ns (S k) pack nm args h'
 unfold entryX
 rw [entered_h h1 h2]
theorem entryN_local {as : List AX} {rs rs2 : RS} {os os2 : List (List RC)} {ns ns2 : Nat} {X Y : Type} {S : Nat → XD as → Option (X ⊕ Y)} {pk : X → RL (rs.cells ++ os.flatten)} {pk2 : Y → RL (rs2.cells ++ os2.flatten)} : EntryLocal fun k nm args h => entryN as rs os ns rs2 os2 ns2 (S k) pk pk2 nm args h := by
 intro k nm args h h' h1 h2
 show entryN as rs os ns rs2 os2 ns2 (S k) pk pk2 nm args h = entryN as rs os ns rs2 os2 ns2 (S k) pk pk2 nm args h'
 unfold entryN
 rw [entered_h h1 h2]
end Go.Ab
set_option linter.unusedVariables false
namespace Go.Ab
structure FnOK (P : Program) (r : Nat × Entry) : Prop where
 ok : EntryOK P r
 loc : EntryLocal r.2
def Fns (P : Program) : List (Nat × Entry) → Prop
 | [] => True
 | r :: l => FnOK P r ∧ Fns P l
theorem Fns.all {P : Program} : ∀ {l : List (Nat × Entry)}, Fns P l → ∀ r ∈ l, FnOK P r
 | [], _, _, h => by cases h
 | a :: l, h, r, hr => by
  rcases List.mem_cons.1 hr with rfl | hr
  ·exact h.1
  ·exact Fns.all h.2 r hr
structure EnvB (E : Env) : Prop where
 ok : EnvOK E
 loc : SumsLocal E.sums
 ord : E.P.follows .mixedOrders = true
theorem env_b {P : Program} {l : List (Nat × Entry)} {eqT : TypeId → Bool} (he : EqOK P eqT) (hm : P.follows .mixedOrders = true) (h : Fns P l) : EnvB ⟨P, eqT, sumsOf l⟩ :=
 ⟨⟨he, sumsOf_ok fun r hr => (h.all r hr).ok⟩, sumsOf_local fun r hr => (h.all r hr).loc, hm⟩
theorem env_n {P : Program} {l : List (Nat × Entry)} (hm : P.follows .mixedOrders = true) (h : Fns P l) : EnvB ⟨P, fun _ => false, sumsOf l⟩ := env_b eqOK_none hm h
theorem loops1 {P : Program} {A : Notes} {pre na nt : Nat} {c : Code} {L : LoopSum} (h : LoopOK P pre na nt (loopAt c 0) L) (hn : (loopsIn c).length = 1 := by kernel_rfl) (hl : noteOf A (loopAt c 0) = some L := by kernel_rfl) : LoopsOK P A pre na nt c :=
 loopsOK_of hn fun i hi => by
  obtain rfl : i = 0 := by omega
  exact ⟨L, hl, h⟩
theorem loops0 {P : Program} {A : Notes} {pre na nt : Nat} {c : Code} (hn : (loopsIn c).length = 0 := by kernel_rfl) : LoopsOK P A pre na nt c := loopsOK_none hn
def StepOK (E : Env) (A : Notes) (na nt : Nat) (b : Code) (ins : List Spec) (outs : List (Ex × Spec)) {X Y : Type} (toX : OutD outs → X) (c : Y → InD ins → Option X) (bf : Nat → Y → Y) : Prop :=
 ∀ k rec d, c (bf k rec) d = elimI (1000 + loopBase) ins d fun st => evC E A k 1000 na nt b st (roundK 1000 ins outs toX (c rec))
abbrev Elim (X : Type) := Nat → X → (R : Type) → (Ex → St → Option R) → Option R
theorem loop_b {E : Env} {A : Notes} {na nt : Nat} {b : Code} {ins : List Spec} {outs : List (Ex × Spec)} {X Y : Type} {toX : OutD outs → X} {c : Y → InD ins → Option X} {bf : Nat → Y → Y} (hE : EnvB E) (hs : StepOK E A na nt b ins outs toX c bf) (f : Nat → Nat → Y) (elim : Elim X)
  (hX : ∀ o R K, elim (1000 + loopBase) (toX o) R K = elimD (1000 + loopBase) outs o K) (hL : LoopsOK E.P A 1000 na nt b) (h0 : ∀ k d, c (f k 0) d = none := by intros; rfl) (h1 : ∀ k n, f k (n + 1) = bf k (f k n) := by intros; rfl) :
  LoopOK E.P 1000 na nt b ⟨ins, outs, X, fun k d => c (f k k) d, elim⟩ :=
 loop_sound hE.ok hE.loc hE.ord hL toX elim hX (fun k n d => c (f k n) d) h0 (fun k n d => by rw [h1]; exact hs k (f k n) d)
def EvOK (E : Env) (A : Notes) (na : Nat) (fn : Func) (as : List AS) (rs : RS) {X : Type} (up : RL rs.cells → X) (S : Nat → AD as → Option X) : Prop :=
 ∀ k d, evF E A k 1000 na fn (absArgs as d).1 (absArgs as d).2 (outM rs up) = S k d
def EvOKX (E : Env) (A : Notes) (na : Nat) (fn : Func) (as : List AX) (rs : RS) (os : List (List RC)) (ns : Nat) {X : Type} (up : RL (rs.cells ++ os.flatten) → X) (S : Nat → XD as → Option X) : Prop :=
 ∀ k d, evF E A k 1000 na fn (absArgsX as d).1 (absArgsX as d).2 (outXM as rs os ns up) = S k d
def EvOKN (E : Env) (A : Notes) (na : Nat) (fn : Func) (as : List AX) (rs : RS) (os : List (List RC)) (ns : Nat) (rs2 : RS) (os2 : List (List RC)) (ns2 : Nat) {X Y : Type} (up : RL (rs.cells ++ os.flatten) → X) (up2 : RL (rs2.cells ++ os2.flatten) → Y) (S : Nat → XD as → Option (X ⊕ Y)) : Prop :=
 ∀ k d, evF E A k 1000 na fn (absArgsX as d).1 (absArgsX as d).2 (outXN as rs os ns rs2 os2 ns2 up up2) = S k d
theorem fn_b {E : Env} {A : Notes} {na f : Nat} {fn : Func} {as : List AS} {rs : RS} {X : Type} {S : Nat → AD as → Option X} {pack : X → RL rs.cells} {unpack : RL rs.cells → X} (hE : EnvB E) (hev : EvOK E A na fn as rs unpack S) (hL : LoopsOK E.P A 1000 na fn.ntmps (bodyOf fn))
  (hf : E.P.funcs[f]? = some fn := by kernel_rfl) (hb : fn.body.isNone = false := by kernel_rfl) (hn : (fn.name == "runtime.NumGoroutine") = false := by kernel_rfl) (hpu : ∀ d, pack (unpack d) = d := by intro d; rfl) :
  FnOK E.P (f, fun k nm args h => entry as rs (S k) pack nm args h) :=
 ⟨fun k _ _ _ _ _ hy => entry_sound hE.ok hE.loc hE.ord hf (body_loops hL) (enters hf hb hn) hpu (hev k) hy, entry_local⟩
theorem fn_x {E : Env} {A : Notes} {na f : Nat} {fn : Func} {as : List AX} {rs : RS} {os : List (List RC)} {ns : Nat} {X : Type} {S : Nat → XD as → Option X} {pack : X → RL (rs.cells ++ os.flatten)} {unpack : RL (rs.cells ++ os.flatten) → X} (hE : EnvB E) (hev : EvOKX E A na fn as rs os ns unpack S)
  (hL : LoopsOK E.P A 1000 na fn.ntmps (bodyOf fn)) (hf : E.P.funcs[f]? = some fn := by kernel_rfl) (hb : fn.body.isNone = false := by kernel_rfl) (hn : (fn.name == "runtime.NumGoroutine") = false := by kernel_rfl) (hna : looksBelow as na = true := by kernel_rfl) (hch : (!as.any AX.isChn || A.loops.isEmpty) = true := by kernel_rfl) (hpu : ∀ d, pack (unpack d) = d := by intro d; rfl) :
  FnOK E.P (f, fun k nm args h => entryX as rs os ns (S k) pack nm args h) :=
 ⟨fun k _ _ _ _ _ hy => entryX_sound hE.ok hE.loc hE.ord hf (body_loops hL) (enters hf hb hn) hpu hna hch (hev k) hy, entryX_local⟩
theorem fn_n {E : Env} {A : Notes} {na f : Nat} {fn : Func} {as : List AX} {rs rs2 : RS} {os os2 : List (List RC)} {ns ns2 : Nat} {X Y : Type} {S : Nat → XD as → Option (X ⊕ Y)} {pk : X → RL (rs.cells ++ os.flatten)} {up : RL (rs.cells ++ os.flatten) → X} {pk2 : Y → RL (rs2.cells ++ os2.flatten)} {up2 : RL (rs2.cells ++ os2.flatten) → Y} (hE : EnvB E)
  (hev : EvOKN E A na fn as rs os ns rs2 os2 ns2 up up2 S)
  (hL : LoopsOK E.P A 1000 na fn.ntmps (bodyOf fn)) (hf : E.P.funcs[f]? = some fn := by kernel_rfl) (hb : fn.body.isNone = false := by kernel_rfl) (hn : (fn.name == "runtime.NumGoroutine") = false := by kernel_rfl) (hna : looksBelow as na = true := by kernel_rfl) (hch : (!as.any AX.isChn || A.loops.isEmpty) = true := by kernel_rfl) (hpu : ∀ d, pk (up d) = d := by intro d; rfl) (hpu2 : ∀ d, pk2 (up2 d) = d := by intro d; rfl) :
  FnOK E.P (f, fun k nm args h => entryN as rs os ns rs2 os2 ns2 (S k) pk pk2 nm args h) :=
 ⟨fun k _ _ _ _ _ hy => entryN_sound hE.ok hE.loc hE.ord hf (body_loops hL) (enters hf hb hn) hpu hpu2 hna hch (hev k) hy, entryN_local⟩
theorem fn_nil {E : Env} {A : Notes} {na f : Nat} {fn : Func} {sh : Bool} {t : Ty} {rs : RS} {X : Type} {S : Nat → List t.den → Option X} {pack : X → RL rs.cells} {unpack : RL rs.cells → X} (hE : EnvB E) (hnil : ∀ k, evF E A k 1000 na fn [.c .nsl] (boxHp []) (outM rs unpack) = S k [])
  (hev : ∀ k xs, evF E A k 1000 na fn [.c (.nfl sh t xs)] (boxHp []) (outM rs unpack) = S k xs) (hL : LoopsOK E.P A 1000 na fn.ntmps (bodyOf fn)) (hf : E.P.funcs[f]? = some fn := by kernel_rfl) (hb : fn.body.isNone = false := by kernel_rfl) (hn : (fn.name == "runtime.NumGoroutine") = false := by kernel_rfl) (hpu : ∀ d, pack (unpack d) = d := by intro d; rfl) :
  FnOK E.P (f, fun k nm args h => entry [.c (.dat sh t)] rs (fun d => S k d.1) pack nm args h) :=
 ⟨fun k _ _ _ _ _ hy => entry_nil hE.ok hE.loc hE.ord hf (body_loops hL) (enters hf hb hn) hpu (fun x hx => (hnil k).trans hx) (fun xs x hx => (hev k xs).trans hx) hy, entry_local⟩
end Go.Ab
set_option linter.unusedVariables false
namespace Go.Ab
def add64 (k : Nat) (a b c : Int) : Option (Int × Int) :=
 bif decide (c = 0) then some (Int.ofNat ((a.toNat + b.toNat + 0) % 18446744073709551616), Int.ofNat ((a.toNat + b.toNat + 0) / 18446744073709551616)) else none
def add64E : Entry := fun k nm args h => match args with
 | [.c (.int .u64 a), .c (.int .u64 b), .c (.int .u64 c)] => .call (Int × Int) (add64 k a b c) (fun r => (.tup [(false, [.int .u64 r.1]), (false, [.int .u64 r.2])], []))
 | _ => .stuck
theorem run_add64' {P : Program} (a b : Int) (w : World) :
  (add64Entry #[.int .u64 a, .int .u64 b, .int .u64 0]).run P w = .ok (.tuple #[.int .u64 (Int.ofNat ((a.toNat + b.toNat + 0) % 18446744073709551616)), .int .u64 (Int.ofNat ((a.toNat + b.toNat + 0) / 18446744073709551616))]) w := rfl
theorem fn_add64 {P : Program} {f : Nat} {fn : Func} (hf : P.funcs[f]? = some fn := by kernel_rfl) (hname : (fn.name == "runtime.NumGoroutine") = false := by kernel_rfl) (hb : fn.body.isNone = true := by kernel_rfl)
  (hn : Extern.findNext fn = none := by kernel_rfl) (he : Extern.find fn = some add64Entry := by kernel_rfl) :
  FnOK P (f, add64E) := by
 refine ⟨fun k nm args h v u hy => ?_, fun _ _ _ _ _ _ _ => rfl⟩
 intro M w vs hh hH ok hv
 refine .inr ?_
 replace hy : Yields (add64E k nm args h) v u := hy
 unfold add64E at hy
 split at hy
 ·rename_i a b c
  obtain ⟨x, hx, rfl, rfl⟩ := hy
  match hl : vs.toList, hv with
  | [v1, v2, v3], hv =>
   obtain ⟨h1, h2, h3, _⟩ := hv
   cases h1; cases h2; cases h3
   obtain rfl : vs = #[.int .u64 a, .int .u64 b, .int .u64 c] := by cases vs; simpa using hl
   unfold add64 at hx
   obtain ⟨hc, hx⟩ := cond_some hx
   cases hx
   have hc : c = 0 := by simpa using hc
   subst hc
   refine ⟨.tuple #[.int .u64 (Int.ofNat ((a.toNat + b.toNat + 0) % 18446744073709551616)), .int .u64 (Int.ofNat ((a.toNat + b.toNat + 0) / 18446744073709551616))], w, M, ?_, ⟨rfl, rfl, rfl, hH, rfl, ok, .refl M⟩, ?_⟩
   ·rw [run_callFunc_extern hf hname hb hn he, run_add64' a b w]
    rfl
   ·exact ⟨#[.int .u64 (Int.ofNat ((a.toNat + b.toNat + 0) % 18446744073709551616)), .int .u64 (Int.ofNat ((a.toNat + b.toNat + 0) / 18446744073709551616))], rfl, rfl, rfl, trivial⟩
 ·exact hy.elim
end Go.Ab
set_option linter.unusedVariables false
set_option linter.unusedSimpArgs false
namespace Go.Ab
end Go.Ab
set_option linter.unusedVariables false
namespace Go.Ab
def entA (f : Nat) (as : List AS) (rs : RS) {X : Type} (s : Nat → AD as → Option X) (pk : X → RL rs.cells) : Nat × Entry := (f, fun k nm args h => entry as rs (s k) pk nm args h)
def entX (f : Nat) (as : List AX) (rs : RS) (os : List (List RC)) (ns : Nat) {X : Type} (s : Nat → XD as → Option X) (pk : X → RL (rs.cells ++ os.flatten)) : Nat × Entry := (f, fun k nm args h => entryX as rs os ns (s k) pk nm args h)
def entN (f : Nat) (as : List AX) (rs : RS) (os : List (List RC)) (ns : Nat) (rs2 : RS) (os2 : List (List RC)) (ns2 : Nat) {X Y : Type} (s : Nat → XD as → Option (X ⊕ Y)) (pk : X → RL (rs.cells ++ os.flatten)) (pk2 : Y → RL (rs2.cells ++ os2.flatten)) : Nat × Entry := (f, fun k nm args h => entryN as rs os ns rs2 os2 ns2 (s k) pk pk2 nm args h)
theorem fA {E : Env} (fn : Func) (A : Notes) {f : Nat} {as : List AS} {rs : RS} {X : Type} {s : Nat → AD as → Option X} {pk : X → RL rs.cells} (up : RL rs.cells → X) (hE : EnvB E) (hL : LoopsOK E.P A 1000 0 fn.ntmps (bodyOf fn))
  (hev : EvOK E A 0 fn as rs up s := by intro k d; kernel_rfl)
  (hf : E.P.funcs[f]? = some fn := by kernel_rfl) (hb : fn.body.isNone = false := by kernel_rfl) (hn : (fn.name == "runtime.NumGoroutine") = false := by kernel_rfl) (hpu : ∀ d, pk (up d) = d := by intro d; rfl) :
  FnOK E.P (entA f as rs s pk) := fn_b hE hev hL hf hb hn hpu
theorem fX {E : Env} (fn : Func) (A : Notes) (na : Nat) {f : Nat} {as : List AX} {rs : RS} {os : List (List RC)} {ns : Nat} {X : Type} {s : Nat → XD as → Option X} {pk : X → RL (rs.cells ++ os.flatten)} (up : RL (rs.cells ++ os.flatten) → X) (hE : EnvB E) (hL : LoopsOK E.P A 1000 na fn.ntmps (bodyOf fn))
  (hev : EvOKX E A na fn as rs os ns up s := by intro k d; kernel_rfl)
  (hf : E.P.funcs[f]? = some fn := by kernel_rfl) (hb : fn.body.isNone = false := by kernel_rfl) (hn : (fn.name == "runtime.NumGoroutine") = false := by kernel_rfl) (hna : looksBelow as na = true := by kernel_rfl) (hch : (!as.any AX.isChn || A.loops.isEmpty) = true := by kernel_rfl) (hpu : ∀ d, pk (up d) = d := by intro d; rfl) :
  FnOK E.P (entX f as rs os ns s pk) := fn_x hE hev hL hf hb hn hna hch hpu
theorem fN {E : Env} (fn : Func) (A : Notes) (na : Nat) {f : Nat} {as : List AX} {rs rs2 : RS} {os os2 : List (List RC)} {ns ns2 : Nat} {X Y : Type} {s : Nat → XD as → Option (X ⊕ Y)} {pk : X → RL (rs.cells ++ os.flatten)} (up : RL (rs.cells ++ os.flatten) → X) {pk2 : Y → RL (rs2.cells ++ os2.flatten)} (up2 : RL (rs2.cells ++ os2.flatten) → Y) (hE : EnvB E) (hL : LoopsOK E.P A 1000 na fn.ntmps (bodyOf fn))
  (hev : EvOKN E A na fn as rs os ns rs2 os2 ns2 up up2 s := by intro k d; kernel_rfl)
  (hf : E.P.funcs[f]? = some fn := by kernel_rfl) (hb : fn.body.isNone = false := by kernel_rfl) (hn : (fn.name == "runtime.NumGoroutine") = false := by kernel_rfl) (hna : looksBelow as na = true := by kernel_rfl) (hch : (!as.any AX.isChn || A.loops.isEmpty) = true := by kernel_rfl) (hpu : ∀ d, pk (up d) = d := by intro d; rfl) (hpu2 : ∀ d, pk2 (up2 d) = d := by intro d; rfl) :
  FnOK E.P (entN f as rs os ns rs2 os2 ns2 s pk pk2) := fn_n hE hev hL hf hb hn hna hch hpu hpu2
def entC (f : Nat) (sh : Bool) (t : Ty) (r : RC) (s : Nat → List t.den → Option r.den) : Nat × Entry :=
 (f, fun k nm args h => entry [.c (.dat sh t)] (.c r) (fun d => s k d.1) (fun x => (x, ())) nm args h)
theorem fC {E : Env} (fn : Func) (A : Notes) {f : Nat} {sh : Bool} {t : Ty} {r : RC} {s : Nat → List t.den → Option r.den} (hE : EnvB E) (hL : LoopsOK E.P A 1000 0 fn.ntmps (bodyOf fn))
  (hnil : ∀ k, evF E A k 1000 0 fn [.c .nsl] (boxHp []) (outM (.c r) (fun d => d.1)) = s k [] := by intro k; kernel_rfl)
  (hev : ∀ k xs, evF E A k 1000 0 fn [.c (.nfl sh t xs)] (boxHp []) (outM (.c r) (fun d => d.1)) = s k xs := by intro k xs; kernel_rfl)
  (hf : E.P.funcs[f]? = some fn := by kernel_rfl) (hb : fn.body.isNone = false := by kernel_rfl) (hn : (fn.name == "runtime.NumGoroutine") = false := by kernel_rfl) : FnOK E.P (entC f sh t r s) :=
 fn_nil (rs := .c r) (pack := fun x => (x, ())) (unpack := fun d => d.1) hE hnil hev hL hf hb hn
def rounds {T : Type} (z : T) (b : T → T) : Nat → T
 | 0 => z
 | n + 1 => b (rounds z b n)
theorem lp {E : Env} {A : Notes} {na nt : Nat} {b : Code} (L : LoopSum) {Y : Type} (toX : OutD L.outs → L.X) (c : Y → InD L.ins → Option L.X) (f : Nat → Nat → Y) (bf : Nat → Y → Y) (hE : EnvB E) (hL : LoopsOK E.P A 1000 na nt b)
  (hs : StepOK E A na nt b L.ins L.outs toX c bf := by intro k rec d; kernel_rfl)
  (hX : ∀ o R K, L.elim (1000 + loopBase) (toX o) R K = elimD (1000 + loopBase) L.outs o K := by intro o R K; first | rfl | (rcases o with o | o <;> rfl) | (rcases o with o | o | o <;> rfl) | (rcases o with o | o | o | o <;> rfl) | (rcases o with o | o | o | o | o <;> rfl))
  (h0 : ∀ k d, c (f k 0) d = none := by intros; rfl) (h1 : ∀ k n, f k (n + 1) = bf k (f k n) := by intros; rfl) (hf : (⟨L.ins, L.outs, L.X, fun k d => c (f k k) d, L.elim⟩ : LoopSum) = L := by rfl) : LoopOK E.P 1000 na nt b L := by
 rw [← hf]
 exact loop_b hE hs f _ hX hL h0 h1
def ins {α : Type} (b : Nat) (xs : List α) (i : Int) (ys : List α) : Option (List α) :=
 bif decide (0 ≤ i) && decide (i ≤ (xs.length : Int)) && Nat.beq ys.length 1 && roomB (xs.length + 1) b then some (xs.take i.toNat ++ (ys ++ xs.drop i.toNat)) else none
end Go.Ab
