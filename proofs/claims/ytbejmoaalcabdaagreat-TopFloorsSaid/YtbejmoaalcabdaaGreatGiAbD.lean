/- part 3 -/
import Derived.Test.YtbejmoaalcabdaaGreatGiAbC
import Derived.Laws.Externs
set_option linter.unusedVariables false
set_option linter.unusedSimpArgs false
set_option linter.unusedSectionVars false
namespace Go.Ab
theorem zN6 {M Ml : zA} {mine : List Nat} (lo : LoX M mine Ml) : ∀ {cs cs' : List zG} {vs : List Value}, zO (TrK M mine Ml.κ) cs cs' → zO (zV M) cs vs → zO (zV Ml) cs' vs
 | [], [], [], _, _ => trivial
 | _ :: _, _ :: _, _ :: _, h, k => ⟨h.1 _ _ lo rfl k.1, zN6 lo h.2 k.2⟩
 | [], [], _ :: _, _, k => k.elim
 | [], _ :: _, _, h, _ => h.elim
 | _ :: _, [], _, h, _ => h.elim
 | _ :: _, _ :: _, [], _, k => k.elim
def zLu (mine : List Nat) (bs : List (Bool × Nat)) : Prop := ∀ b ∈ bs, (b.1 = true → b.2 ∈ mine) ∧ (b.1 = false → b.2 ∉ mine)
theorem yZ8 {M : zA} (ok : Ok M) {mine : List Nat} (ho : zCi M mine) {io : Bool} {id : Nat} {cells : List zG} (h : zMm M.h io id = some cells) (hm : (io = true → id ∈ mine) ∧ (io = false → id ∉ mine)) :
  ∃ C B, M.κ id = some C ∧ C.blk = some B ∧ ∀ (Ml : zA) (cells' : List zG), LoX M mine Ml → zO (TrK M mine Ml.κ) cells cells' → yM Ml (bif io then .box true cells' else .robox cells') C := by
 unfold zMm at h
 split at h
 ·rename_i cs hid
  cases h
  obtain ⟨C, hC, B, vals, e, h1, h2, h3, h4, h5⟩ := ok.obj id _ hid
  exact ⟨C, B, hC, h1, fun Ml cells' lo ht => ⟨B, vals, e, h1, h2, by rw [lo.H]; exact h3, zN6 lo ht h4, fun e => by cases e⟩⟩
 ·rename_i own cs hid
  cases h
  obtain ⟨C, hC, B, vals, e, h1, h2, h3, h4, h5⟩ := ok.obj id _ hid
  refine ⟨C, B, hC, h1, fun Ml cells' lo ht => ⟨B, vals, e, h1, h2, by rw [lo.H]; exact h3, zN6 lo ht h4, ?_⟩⟩
  rw [lo.F]
  cases own with
  | false => exact zEy ok ho (ok.GF B (h5 rfl))
  | true =>
   refine ⟨(Array.getElem?_eq_some_iff.1 h3).1, fun hd => ?_⟩
   obtain ⟨jd, hj, D, hD, hb⟩ := hd
   obtain ⟨q, q1, q2⟩ := ho jd hj
   exact ok.disj jd id q _ D C B (fun e => hm.2 rfl (by rw [← e]; exact hj)) q1 hid q2 rfl hD hC hb (by simp [zR.fp, h1])
 ·rename_i cs hid
  cases h
  obtain ⟨C, hC, B, vals, e, h1, h2, h3, h4, h5⟩ := ok.obj id _ hid
  refine ⟨C, B, hC, h1, fun Ml cells' lo ht => ⟨B, vals, e, h1, h2, by rw [lo.H]; exact h3, zN6 lo ht h4, ?_⟩⟩
  rw [lo.F]
  exact zEy ok ho h5
 ·cases h
def qD0 (M : zA) (mine : List Nat) (bs : List (Bool × Nat)) (mk : List zG → List Obj) (cs : List zG) : Prop := ∀ (Ml : zA) (cs' : List zG), LoX M mine Ml → zO (TrK M mine Ml.κ) cs cs' →
 zO (fun (b : Bool × Nat) o => ∃ C B, M.κ b.2 = some C ∧ C.blk = some B ∧ yM Ml o C ∧ o.owned = b.1) bs (mk cs')
theorem zU8 {M : zA} (ok : Ok M) {mine : List Nat} (ho : zCi M mine) : ∀ {ls : List (Bool × List XC)} {ids : List Nat} {cs : List zG} {bs : List (Bool × Nat)}, zAy M.h ls ids = some (cs, bs) → zLu mine bs →
  cs.length = (ls.flatMap (·.2)).length ∧ bs = (ls.map (·.1)).zip ids ∧ ids.length = ls.length ∧ qD0 M mine bs (zRm ls) cs
 | [], [], cs, bs, h, _ => by cases h; exact ⟨rfl, rfl, rfl, fun _ _ _ _ => trivial⟩
 | (io, l) :: ls, id :: ids, cs, bs, h, hf => by
  unfold zAy at h
  split at h
  ·rename_i cells rest bs' h1 h2
   obtain ⟨hl, h⟩ := yX h
   cases h
   have hl : cells.length = l.length := Nat.eq_of_beq_eq_true hl
   obtain ⟨C, B, hC, hB, hO⟩ := yZ8 ok ho h1 (hf _ (List.mem_cons_self ..))
   obtain ⟨k1, k2, k3, k4⟩ := zU8 ok ho h2 fun b hb => hf b (List.mem_cons_of_mem _ hb)
   refine ⟨by simp [hl, k1], by rw [k2]; rfl, by simp [k3], fun Ml cs' lo ht => ?_⟩
   have ht1 := zO.take l.length ht
   have ht2 := zO.drop l.length ht
   rw [← hl, List.take_left] at ht1
   rw [← hl, List.drop_left] at ht2
   refine ⟨⟨C, B, hC, hB, ?_, ?_⟩, ?_⟩
   ·rw [← hl]; exact hO Ml _ lo ht1
   ·cases io <;> rfl
   ·rw [← hl]; exact k4 Ml _ lo ht2
  ·cases h
 | [], _ :: _, _, _, h, _ => by cases h
 | _ :: _, [], _, _, h, _ => by cases h
theorem zQi {h : Hp} : ∀ {ls : List (Bool × List XC)} {ids : List Nat} {cs : List zG} {bs : List (Bool × Nat)}, zAy h ls ids = some (cs, bs) → bs.length = ls.length
 | [], [], _, _, e => by cases e; rfl
 | (io, l) :: ls, id :: ids, cs, bs, e => by
  unfold zAy at e
  split at e
  ·rename_i cells rest bs' h1 h2
   obtain ⟨_, e⟩ := yX e
   cases e
   simp [zQi h2]
  ·cases e
 | [], _ :: _, _, _, e => by cases e
 | _ :: _, [], _, _, e => by cases e
theorem vFt {h : Hp} {s : AX} {a : zD} {cs : List zG} {bs : List (Bool × Nat)} (e : s.get h a = some (cs, bs)) : bs.length = s.nb := by
 unfold AX.get at e
 split at e
 ·cases e; rfl
 ·obtain ⟨_, e⟩ := yX e
  cases e; rfl
 ·rw [zQi e]; rfl
 ·obtain ⟨_, e⟩ := yX e
  rw [zQi e]; rfl
 ·split at e
  ·rw [zQi e]; simp [zLe, AX.nb]
  ·cases e
 ·cases e
theorem qKe {h : Hp} : ∀ {n id : Nat} {ids : List Nat}, zOp h n id = some ids → ids.head? = some id ∧ ids.length = n
 | 0, _, _, e => by cases e
 | 1, _, _, e => by cases e; exact ⟨rfl, rfl⟩
 | n + 2, id, ids, e => by
  unfold zOp at e
  split at e
  ·split at e
   ·split at e
    ·rename_i l hl
     cases e
     exact ⟨rfl, by simp [(qKe hl).2]⟩
    ·cases e
   ·cases e
  ·cases e
theorem yYu {M : zA} (ok : Ok M) {mine : List Nat} (ho : zCi M mine) {s : AX} {a : zD} {v : Value} {cs : List zG} {bs : List (Bool × Nat)} (hv : zT M a v) (h : s.get M.h a = some (cs, bs)) (hf : zLu mine bs) :
  cs.length = s.cells.length ∧ qD0 M mine bs (fun cs' => s.boxes cs') cs ∧ ∀ (Ml : zA) (cs' : List zG) (n : Nat), LoX M mine Ml → zO (TrK M mine Ml.κ) cs cs' → (∀ i b, bs[i]? = some b → Ml.κ (n + i) = M.κ b.2) → zT Ml (s.mk n cs') v := by
 unfold AX.get at h
 split at h
 ·rename_i p x
  cases h
  refine ⟨rfl, fun Ml cs' lo ht => trivial, fun Ml cs' n lo ht _ => ?_⟩
  match cs', ht with
  | [c'], ht => exact ht.1 v Ml lo rfl hv
 ·rename_i l xs
  obtain ⟨hl, h'⟩ := yX h
  cases h'
  have hl : cs.length = l.length := Nat.eq_of_beq_eq_true hl
  obtain ⟨vs, rfl, hx⟩ := hv
  exact ⟨by simp [AX.cells, hl], fun Ml cs' lo ht => trivial, fun Ml cs' n lo ht _ => ⟨vs, rfl, zN6 lo ht hx⟩⟩
 ·rename_i io l id
  obtain ⟨k1, k2, k3, k4⟩ := zU8 ok ho h hf
  refine ⟨by rw [k1]; simp [AX.cells], k4, fun Ml cs' n lo ht hκ => ?_⟩
  obtain ⟨C, B, hC, hB, e⟩ := hv
  exact ⟨C, B, by have := hκ 0 (io, id) (by rw [k2]; rfl); rw [Nat.add_zero] at this; rw [this]; exact hC, hB, e⟩
 ·rename_i f caps g ids
  obtain ⟨hg, h'⟩ := yX h
  have efg : f = g := Nat.eq_of_beq_eq_true hg
  subst efg
  obtain ⟨k1, k2, k3, k4⟩ := zU8 ok ho h' hf
  refine ⟨by rw [k1]; rfl, k4, fun Ml cs' n lo ht hκ => ?_⟩
  obtain ⟨cv, rfl, hc⟩ := hv
  refine ⟨cv, rfl, ?_⟩
  have l2 := hc.length
  refine zO.of_get (by rw [List.length_map, List.length_range]; omega) fun i h1 h2 => ?_
  simp only [List.getElem_map, List.getElem_range]
  have hi : i < ids.length := by simp at h1; omega
  obtain ⟨C, B, q1, q2, q3⟩ := hc.get i hi h2
  have hb : bs[i]? = some ((caps.map (·.1))[i]'(by simp at h1 ⊢; omega), ids[i]) := by
   rw [k2, List.getElem?_eq_getElem (by rw [List.length_zip, List.length_map]; omega), List.getElem_zip]
  exact ⟨C, B, by rw [hκ i _ hb]; exact q1, q2, q3⟩
 ·rename_i ls id
  split at h
  ·rename_i ids hids
   obtain ⟨k1, k2, k3, k4⟩ := zU8 ok ho h hf
   refine ⟨by rw [k1]; simp [AX.cells, zLe, List.flatMap_map, List.flatMap_id'], k4, fun Ml cs' n lo ht hκ => ?_⟩
   obtain ⟨C, B, hC, hB, e⟩ := hv
   have hb : bs[0]? = some (true, id) := by
    obtain ⟨h1, h2⟩ := qKe hids
    rw [k2]
    cases ids with
    | nil => cases h1
    | cons i ids =>
     cases h1
     cases ls with
     | nil => cases k3
     | cons l ls => rfl
   exact ⟨C, B, by have := hκ 0 _ hb; rw [Nat.add_zero] at this; rw [this]; exact hC, hB, e⟩
  ·cases h
 ·cases h
theorem qPv {M : zA} (ok : Ok M) {mine : List Nat} (ho : zCi M mine) : ∀ {l : List AX} {as : List zD} {vs : List Value} {cs : List zG} {bs : List (Bool × Nat)}, zO (zT M) as vs → zA8 M.h l as = some (cs, bs) → zLu mine bs →
  cs.length = (l.flatMap AX.cells).length ∧ (∀ n, qD0 M mine bs (fun cs' => (mkX l cs' n).2) cs) ∧
   ∀ (Ml : zA) (cs' : List zG) (n : Nat), LoX M mine Ml → zO (TrK M mine Ml.κ) cs cs' → (∀ i b, bs[i]? = some b → Ml.κ (n + i) = M.κ b.2) → zO (zT Ml) (mkX l cs' n).1 vs
 | [], [], [], cs, bs, _, h, _ => by cases h; exact ⟨rfl, fun _ _ _ _ _ => trivial, fun _ _ _ _ _ _ => trivial⟩
 | s :: l, a :: as, v :: vs, cs, bs, hv, h, hf => by
  unfold zA8 at h
  split at h
  ·rename_i cs1 bs1 cs2 bs2 h1 h2
   cases h
   have hf1 : zLu mine bs1 := fun b hb => hf b (List.mem_append_left _ hb)
   have hf2 : zLu mine bs2 := fun b hb => hf b (List.mem_append_right _ hb)
   obtain ⟨k1, k2, k3⟩ := yYu ok ho hv.1 h1 hf1
   obtain ⟨k4, k5, k6⟩ := qPv ok ho hv.2 h2 hf2
   have cut : ∀ {κ : Nat → Option zR} {cs' : List zG}, zO (TrK M mine κ) (cs1 ++ cs2) cs' → zO (TrK M mine κ) cs1 (cs'.take s.cells.length) ∧ zO (TrK M mine κ) cs2 (cs'.drop s.cells.length) := by
    intro κ cs' ht
    have ht1 := zO.take s.cells.length ht
    have ht2 := zO.drop s.cells.length ht
    rw [← k1, List.take_left, k1] at ht1
    rw [← k1, List.drop_left, k1] at ht2
    exact ⟨ht1, ht2⟩
   refine ⟨by simp [k1, k4], fun n Ml cs' lo ht => ?_, fun Ml cs' n lo ht hκ => ?_⟩
   ·obtain ⟨ht1, ht2⟩ := cut ht
    exact (k2 Ml _ lo ht1).append (k5 _ Ml _ lo ht2)
   ·obtain ⟨ht1, ht2⟩ := cut ht
    have hlen := (k2 Ml _ lo ht1).length
    refine ⟨k3 Ml _ n lo ht1 fun i b hb => hκ i b ?_, k6 Ml _ _ lo ht2 fun i b hb => ?_⟩
    ·have : i < bs1.length := (List.getElem?_eq_some_iff.1 hb).1
     rw [List.getElem?_append_left this]; exact hb
    ·have := hκ (bs1.length + i) b (by rw [List.getElem?_append_right (by omega)]; rw [show bs1.length + i - bs1.length = i by omega]; exact hb)
     rw [← this, Nat.add_assoc, hlen]
  ·cases h
 | [], [], _ :: _, _, _, hv, _, _ => hv.elim
 | [], _ :: _, _, _, _, _, h, _ => by cases h
 | _ :: _, [], _, _, _, _, h, _ => by cases h
 | _ :: _, _ :: _, [], _, _, hv, _, _ => hv.elim
def κX (M : zA) (bs : List (Bool × Nat)) (rows : List Nat) : Nat → Option zR := fun n => bif Nat.ble vK n then (match rows[n - vK]? with
  | some id => (M.κ id).map fun C => { C with ver := 0 }
  | none => none)
 else (match bs[n]? with
  | some b => M.κ b.2
  | none => none)
theorem zH0 : ∀ {bs : List (Bool × Nat)} {i id : Nat}, bs[i]? = some (true, id) → id ∈ yV bs
 | (true, a) :: bs, 0, id, h => by cases h; exact List.mem_cons_self ..
 | (true, a) :: bs, i + 1, id, h => List.mem_cons_of_mem _ (zH0 (bs := bs) (i := i) h)
 | (false, a) :: bs, 0, id, h => by cases h
 | (false, a) :: bs, i + 1, id, h => zH0 (bs := bs) (i := i) h
theorem qJ2 : ∀ {bs : List (Bool × Nat)} {i j id : Nat}, (yV bs).Nodup → bs[i]? = some (true, id) → bs[j]? = some (true, id) → i = j
 | (true, a) :: bs, 0, 0, id, _, _, _ => rfl
 | (true, a) :: bs, 0, j + 1, id, hn, h, k => by
  cases h
  exact absurd (zH0 (bs := bs) (i := j) k) (List.nodup_cons.1 hn).1
 | (true, a) :: bs, i + 1, 0, id, hn, h, k => by
  cases k
  exact absurd (zH0 (bs := bs) (i := i) h) (List.nodup_cons.1 hn).1
 | (true, a) :: bs, i + 1, j + 1, id, hn, h, k => by rw [qJ2 (bs := bs) (List.nodup_cons.1 hn).2 h k]
 | (false, a) :: bs, 0, j, id, _, h, _ => by cases h
 | (false, a) :: bs, i + 1, 0, id, _, _, k => by cases k
 | (false, a) :: bs, i + 1, j + 1, id, hn, h, k => by rw [qJ2 (bs := bs) hn h k]
theorem vBp {M : zA} (ok : Ok M) {l : List AX} {as : List zD} {vs : List Value} {cs : List zG} {bs : List (Bool × Nat)} {d : XD l} (hv : zO (zT M) as vs) (hg : zA8 M.h l as = some (cs, bs)) (hd : zDv M.h (l.flatMap AX.cells) cs = some d)
  (hnd : (yV bs ++ wB (l.flatMap AX.cells) cs).Nodup) (hap : ∀ id ∈ zR7 (l.flatMap AX.cells) cs, id ∉ yV bs ++ wB (l.flatMap AX.cells) cs) (hro : ∀ id ∈ zUq bs, id ∉ yV bs ++ wB (l.flatMap AX.cells) cs) (hlen : bs.length ≤ vK) (hlk : zD5 ((l.flatMap AX.cells).map XC.lnk) (bs.map (·.2)) cs = true) (ho : zCi M (yV bs ++ wB (l.flatMap AX.cells) cs)) :
  ∃ Ml : zA, LoX M (yV bs ++ wB (l.flatMap AX.cells) cs) Ml ∧ Ml.h = (zA9 l d).2 ∧ Ok Ml ∧ (∀ b, qN Ml b → zBf M (yV bs ++ wB (l.flatMap AX.cells) cs) b) ∧ zO (zT Ml) (zA9 l d).1 vs ∧ Ml.κ = κX M bs (wB (l.flatMap AX.cells) cs) := by
 generalize hmine : yV bs ++ wB (l.flatMap AX.cells) cs = mine at *
 have hfits : zLu mine bs := by
  intro b hb
  obtain ⟨i, hi, rfl⟩ := List.getElem_of_mem hb
  have hbi : bs[i]? = some bs[i] := List.getElem?_eq_getElem hi
  refine ⟨fun e => ?_, fun e => ?_⟩
  ·rw [← hmine]
   have : bs[i]? = some (true, bs[i].2) := by rw [hbi, ← e]
   exact List.mem_append_left _ (zH0 this)
  ·apply hro
   clear hg hd hnd hap hro hlen ho hmine hv hlk
   induction bs generalizing i with
   | nil => exact absurd hi (Nat.not_lt_zero i)
   | cons c bs ih =>
    obtain ⟨io, a⟩ := c
    cases i with
    | zero => cases io <;> first | exact List.mem_cons_self .. | cases e
    | succ i => cases io <;> first | exact List.mem_cons_of_mem _ (ih i (by simpa using hi) (List.getElem_mem _) (List.getElem?_eq_getElem _) e) | exact ih i (by simpa using hi) (List.getElem_mem _) (List.getElem?_eq_getElem _) e
 let κ := κX M bs (wB (l.flatMap AX.cells) cs)
 obtain ⟨k1, k2, k3⟩ := zJk ok ho (κ := κ) (n := vK) (ids := bs.map (·.2)) hd hlk hap
 have ht : zO (TrK M mine κ) cs (jW (l.flatMap AX.cells) d vK).1 := k3 (fun i id C hi hC => by
  show κX M bs _ (vK + i) = _
  unfold κX
  rw [Nat.ble_eq_true_of_le (Nat.le_add_right _ _), show vK + i - vK = i by omega, hi]
  simp [hC]) fun j id hj => by
  rw [List.getElem?_map] at hj
  obtain ⟨b, hb, rfl⟩ := Option.map_eq_some_iff.1 hj
  have hi : j < bs.length := (List.getElem?_eq_some_iff.1 hb).1
  show κX M bs _ j = _
  unfold κX
  have : Nat.ble vK j = false := by
   cases h : Nat.ble vK j with
   | false => rfl
   | true => have := Nat.le_of_ble_eq_true h; omega
  rw [this, hb]
  rfl
 obtain ⟨a1, a2, a3⟩ := qPv ok ho hv hg hfits
 let Ml : zA := { κ := κ, F := fun b => b < M.H.size ∧ ¬ zBf M mine b, G := M.G, h := (zA9 l d).2, H := M.H }
 have lo : LoX M mine Ml := ⟨rfl, rfl, rfl⟩
 have hbox := a2 0 Ml _ lo ht
 have hκbox : ∀ i b, bs[i]? = some b → Ml.κ (0 + i) = M.κ b.2 := fun i b hb => by
  have hi : i < bs.length := (List.getElem?_eq_some_iff.1 hb).1
  show κX M bs _ (0 + i) = _
  unfold κX
  have : Nat.ble vK (0 + i) = false := by
   cases h : Nat.ble vK (0 + i) with
   | false => rfl
   | true => have := Nat.le_of_ble_eq_true h; omega
  rw [this, Nat.zero_add, hb]
  rfl
 have hobj : ∀ id o, Ml.h id = some o → ∃ jd C, Ml.κ id = some C ∧ yM Ml o C ∧ (o.owned = true → jd ∈ mine ∧ ∃ D, M.κ jd = some D ∧ D.fp = C.fp) ∧
   ((Nat.ble vK id = true ∧ (wB (l.flatMap AX.cells) cs)[id - vK]? = some jd) ∨ (Nat.ble vK id = false ∧ ∃ io, bs[id]? = some (io, jd) ∧ o.owned = io)) := by
  intro id o h
  have h : zP4 (mkX l (jW (l.flatMap AX.cells) d vK).1 0).2 (jW (l.flatMap AX.cells) d vK).2 id = some o := h
  unfold zP4 at h
  cases hb : Nat.ble vK id with
  | true =>
   rw [hb] at h
   have h : (jW (l.flatMap AX.cells) d vK).2[id - vK]? = some o := h
   have hi := (List.getElem?_eq_some_iff.1 h).1
   have hj : (wB (l.flatMap AX.cells) cs)[id - vK]? = some ((wB (l.flatMap AX.cells) cs)[id - vK]'(by omega)) := List.getElem?_eq_getElem (by omega)
   obtain ⟨C, hR⟩ := k2 _ _ _ hj h
   refine ⟨_, { C with ver := 0 }, ?_, hR.rep Ml rfl rfl, fun _ => ⟨?_, C, hR.κ, rfl⟩, .inl ⟨rfl, hj⟩⟩
   ·show κX M bs _ id = _
    unfold κX
    rw [hb, hj]
    simp [hR.κ]
   ·rw [← hmine]
    exact List.mem_append_right _ (List.getElem_mem _)
  | false =>
   rw [hb] at h
   have h : (mkX l (jW (l.flatMap AX.cells) d vK).1 0).2[id]? = some o := h
   have hi := (List.getElem?_eq_some_iff.1 h).1
   have hib : id < bs.length := by rw [hbox.length]; exact hi
   have hq := hbox.get id hib hi
   rw [List.getElem?_eq_getElem hi] at h
   cases h
   obtain ⟨C, B, q1, q2, q3, q4⟩ := hq
   have hbi : bs[id]? = some bs[id] := List.getElem?_eq_getElem hib
   refine ⟨bs[id].2, C, ?_, q3, fun e => ⟨(hfits _ (List.getElem_mem hib)).1 (by rw [← q4]; exact e), C, q1, rfl⟩, .inr ⟨rfl, bs[id].1, hbi, q4⟩⟩
   have := hκbox id _ hbi
   rw [Nat.zero_add] at this
   rw [this]; exact q1
 have hown : ∀ b, qN Ml b → zBf M mine b := fun b ⟨id, o, C, h1, h2, h3, h4⟩ => by
  obtain ⟨jd, C', q1, _, q3, _⟩ := hobj id o h1
  rw [h3] at q1
  cases q1
  obtain ⟨p1, D, p2, p3⟩ := q3 h2
  exact ⟨jd, p1, D, p2, by rw [p3]; exact h4⟩
 refine ⟨Ml, lo, rfl, ⟨fun id o h => ?_, fun id h => ?_, fun i j oi oj Ci Cj b hij h1 h2 h3 h4 h5 h6 h7 h8 => ?_, fun b hb => ⟨fun hf => hf.2 (hown b hb), (ok.own b ((hown b hb).own ho)).2⟩, fun b hb => zEy ok ho (ok.GF b hb), fun b hb => hb.1⟩, hown, a3 Ml _ 0 lo ht hκbox, rfl⟩
 ·obtain ⟨jd, C, q1, q2, _⟩ := hobj id o h
  exact ⟨C, q1, q2⟩
 ·have h : zP4 (mkX l (jW (l.flatMap AX.cells) d vK).1 0).2 (jW (l.flatMap AX.cells) d vK).2 id = none := h
  unfold zP4 at h
  show κX M bs _ id = none
  unfold κX
  cases hb : Nat.ble vK id with
  | true =>
   rw [hb] at h
   have h : (jW (l.flatMap AX.cells) d vK).2[id - vK]? = none := h
   rw [List.getElem?_eq_none_iff, ← k1] at h
   rw [List.getElem?_eq_none h]
   rfl
  | false =>
   rw [hb] at h
   have h : (mkX l (jW (l.flatMap AX.cells) d vK).1 0).2[id]? = none := h
   rw [List.getElem?_eq_none_iff, ← hbox.length] at h
   rw [List.getElem?_eq_none h]
   rfl
 ·obtain ⟨ji, Ci', p1, _, p3, p4⟩ := hobj i oi h1
  obtain ⟨jj, Cj', q1, _, q3, q4⟩ := hobj j oj h2
  rw [h5] at p1; cases p1
  rw [h6] at q1; cases q1
  obtain ⟨p5, Di, p6, p7⟩ := p3 h3
  obtain ⟨q5, Dj, q6, q7⟩ := q3 h4
  obtain ⟨oi', r1, r2⟩ := ho ji p5
  obtain ⟨oj', r3, r4⟩ := ho jj q5
  refine ok.disj ji jj oi' oj' Di Dj b (fun e => ?_) r1 r3 r2 r4 p6 q6 (by rw [p7]; exact h7) (by rw [q7]; exact h8)
  subst e
  rw [← hmine] at hnd
  obtain ⟨n1, n2, n3⟩ := List.nodup_append.1 hnd
  rcases p4 with ⟨p8, p9⟩ | ⟨p8, io, p9, p10⟩ <;> rcases q4 with ⟨q8, q9⟩ | ⟨q8, io', q9, q10⟩
  ·have := (List.getElem?_inj (List.getElem?_eq_some_iff.1 p9).1 n2).1 (p9.trans q9.symm)
   have e1 := Nat.le_of_ble_eq_true p8
   have e2 := Nat.le_of_ble_eq_true q8
   exact hij (by omega)
  ·rw [h4] at q10
   subst q10
   exact n3 _ (zH0 q9) _ (List.mem_of_getElem? p9) rfl
  ·rw [h3] at p10
   subst p10
   exact n3 _ (zH0 p9) _ (List.mem_of_getElem? q9) rfl
  ·rw [h3] at p10
   rw [h4] at q10
   subst p10
   subst q10
   exact hij (qJ2 n1 p9 q9)
theorem zG1 {n : Nat} : ∀ {ids : List Nat} {h : Hp}, qE h (zC7 ids) n = if n ∈ ids then some .gone else h n
 | [], _ => by simp [zC7, qE]
 | id :: ids, h => by
  show qE (yC h id .gone) (zC7 ids) n = _
  rw [zG1 (ids := ids)]
  by_cases e : n = id
  ·subst e; simp [yB]
  ·rw [yE _ _ e]; simp [e]
def zA.overX (M L : zA) (mine : List Nat) : zA := { κ := M.κ, F := fun b => M.F b ∨ L.G b, G := L.G, h := qE M.h (zC7 mine), H := L.H }
theorem zA.overX_ok {M Ml L : zA} {mine : List Nat} (ok : Ok M) (okL : Ok L) (lo : LoX M mine Ml) (ho : zCi M mine) (hand : ∀ b, qN Ml b → zBf M mine b) (g : zAs Ml L) :
  Ok (M.overX L mine) ∧ yO M (M.overX L mine) ∧ (∀ b, qN (M.overX L mine) b → qN M b ∧ ¬ zBf M mine b) := by
 have hsame : ∀ b, b < M.H.size → ¬ zBf M mine b → L.H[b]? = M.H[b]? := fun b hb hn => by rw [g.same b (by rw [lo.F]; exact ⟨hb, hn⟩), lo.H]
 have hsz : M.H.size ≤ L.H.size := by have := g.size; rw [lo.H] at this; exact this
 have hG : ∀ b, L.G b → b < M.H.size → M.G b ∨ zBf M mine b := fun b hb hs => by
  rcases g.Gb b hb (by rw [lo.H]; exact hs) with h | h
  ·rw [lo.G] at h; exact .inl h
  ·exact .inr (hand b h)
 have hsF : ∀ b, M.F b → L.H[b]? = M.H[b]? := fun b h => hsame b (zEy ok ho h).1 (zEy ok ho h).2
 have x : yG M (M.overX L mine) := ⟨fun id C h => ⟨C, h, C.le_refl⟩, fun b h => .inl h, fun b h => g.G b (by rw [lo.G]; exact h), fun b h => hsF b h, fun b h => hsF b (ok.GF b h), fun b h => by
  have := g.bsz b (by rw [lo.H]; exact h)
  rw [lo.H] at this
  exact this⟩
 have hobj : ∀ id o, (M.overX L mine).h id = some o → o.owned = true → id ∉ mine ∧ M.h id = some o := fun id o h hoo => by
  have h : qE M.h (zC7 mine) id = some o := h
  rw [zG1] at h
  by_cases hm : id ∈ mine
  ·rw [if_pos hm] at h; cases h; cases hoo
  ·rw [if_neg hm] at h; exact ⟨hm, h⟩
 have hnot : ∀ id o C, id ∉ mine → M.h id = some o → o.owned = true → M.κ id = some C → ∀ b ∈ C.fp, ¬ zBf M mine b := fun id o C hm h hoo hC b hb ⟨jd, hj, D, hD, hbD⟩ => by
  obtain ⟨q, q1, q2⟩ := ho jd hj
  exact ok.disj id jd o q C D b (fun e => hm (by rw [e]; exact hj)) h q1 hoo q2 hC hD hb hbD
 have hown : ∀ b, qN (M.overX L mine) b → qN M b ∧ ¬ zBf M mine b := fun b ⟨id, o, C, h1, h2, h3, h4⟩ => by
  obtain ⟨k1, k2⟩ := hobj id o h1 h2
  exact ⟨⟨id, o, C, k2, h2, h3, h4⟩, hnot id o C k1 k2 h2 h3 b h4⟩
 refine ⟨⟨fun id o h => ?_, fun id h => ?_, fun i j oi oj Ci Cj b hij h1 h2 h3 h4 h5 h6 h7 h8 => ?_, fun b h => ⟨fun hf => ?_, ?_⟩, fun b h => .inr h, fun b h => ?_⟩, ⟨x, hsz, fun b hb hn => hsame b hb fun hh => hn (hh.own ho), fun b h _ => (hown b h).1, fun b h hs => ?_, fun b h hs => ?_⟩, hown⟩
 ·have h : qE M.h (zC7 mine) id = some o := h
  rw [zG1] at h
  by_cases hm : id ∈ mine
  ·rw [if_pos hm] at h
   cases h
   obtain ⟨q, q1, q2⟩ := ho id hm
   obtain ⟨C, hC, _⟩ := ok.obj id q q1
   exact ⟨C, hC, trivial⟩
  ·rw [if_neg hm] at h
   obtain ⟨C, hC, hO⟩ := ok.obj id o h
   exact ⟨C, hC, hO.ext x fun hoo b hb => hsame b (ok.own b ⟨id, o, C, h, hoo, hC, hb⟩).2 (hnot id o C hm h hoo hC b hb)⟩
 ·have h : qE M.h (zC7 mine) id = none := h
  rw [zG1] at h
  by_cases hm : id ∈ mine
  ·rw [if_pos hm] at h; cases h
  ·rw [if_neg hm] at h; exact ok.non id h
 ·exact ok.disj i j oi oj Ci Cj b hij (hobj i oi h1 h3).2 (hobj j oj h2 h4).2 h3 h4 h5 h6 h7 h8
 ·obtain ⟨k1, k2⟩ := hown b h
  have := ok.own b k1
  rcases hf with hf | hf
  ·exact this.1 hf
  ·rcases hG b hf this.2 with h | h
   ·exact this.1 (ok.GF b h)
   ·exact k2 h
 ·have h1 := (ok.own b (hown b h).1).2
  show b < L.H.size
  omega
 ·show b < L.H.size
  rcases h with h | h
  ·have := ok.Flt b h; omega
  ·exact okL.Flt b (okL.GF b h)
 ·rcases hG b h hs with h | h
  ·exact .inl h
  ·exact .inr (h.own ho)
 ·rcases h with h | h
  ·exact .inl h
  ·rcases hG b h hs with h | h
   ·exact .inl (ok.GF b h)
   ·exact .inr (h.own ho)
def zR.bare (C : zR) : zR := { C with ver := C.ver + 1, rows := [] }
def zA.revive (M : zA) (id : Nat) (C : zR) (cs : List zG) : zA := { M with κ := κset M.κ id C.bare, h := yC M.h id (.box true cs) }
theorem zA.revive_ok {M : zA} (ok : Ok M) {id : Nat} {C : zR} {B : Nat} {vals : Array Value} {e : TypeId} {cs : List zG} (hC : M.κ id = some C) (hB : C.blk = some B) (hH : M.H[B]? = some (.cells vals e (0, 0))) (hc : zO (zV M) cs vals.toList)
  (h1 : ¬ qN M B) (h2 : ¬ M.F B) : Ok (M.revive id C cs) ∧ yG M (M.revive id C cs) ∧ (∀ b, qN (M.revive id C cs) b → qN M b ∨ b = B) := by
 have hκ : (M.revive id C cs).κ id = some C.bare := κset_same _ _ _
 have x : yG M (M.revive id C cs) := ⟨fun jd D h => by
  by_cases e' : jd = id
  ·subst e'
   rw [hC] at h; cases h
   exact ⟨_, hκ, rfl, rfl, rfl, Nat.le_succ _, fun h => absurd h (by simp [zR.bare])⟩
  ·exact ⟨D, by show κset M.κ id _ jd = _; rw [κset_ne _ _ e']; exact h, D.le_refl⟩, fun _ h => h, fun _ h => h, fun _ _ => rfl, fun _ _ => rfl, fun _ _ => rfl⟩
 have hfp : C.bare.fp = [B] := by simp [zR.fp, zR.bare, hB]
 have hat : (M.revive id C cs).h id = some (.box true cs) := yB _ _ _
 refine ⟨Ok.build ok x (fun jd => jd = id) (fun jd h => yE _ _ h) (fun jd h => κset_ne _ _ h) (fun _ _ _ _ _ _ _ _ _ => rfl) (fun jd o' D k1 k2 k3 k4 b hb' => (ok.own b ⟨jd, o', D, k2, k3, k4, hb'⟩).1) (Nat.le_refl _)
  (fun jd o' e' h => ?_) (fun jd e' h => ?_) (fun jd o' D b e' k1 k2 k3 k4 => ?_) ok.GF ok.Flt, x, fun b hb' => ?_⟩
 ·subst e'
  rw [hat] at h
  cases h
  exact ⟨_, hκ, B, vals, e, hB, rfl, hH, hc.mono fun _ _ h => h.ext x, fun h => by cases h⟩
 ·subst e'
  rw [hat] at h; cases h
 ·subst e'
  rw [hκ] at k3
  cases k3
  rw [hfp, List.mem_singleton] at k4
  subst k4
  refine ⟨fun j oj Cj hj q1 q2 q3 q4 => h1 ⟨j, oj, Cj, ?_, q2, ?_, q4⟩, h2, (Array.getElem?_eq_some_iff.1 hH).1⟩
  ·rw [← q1]; exact (yE _ _ hj).symm
  ·rw [← q3]; exact (κset_ne _ _ hj).symm
 ·obtain ⟨jd, o', D, k1, k2, k3, k4⟩ := hb'
  by_cases e' : jd = id
  ·subst e'
   rw [hκ] at k3
   cases k3
   rw [hfp, List.mem_singleton] at k4
   exact .inr k4
  ·exact .inl ⟨jd, o', D, by rw [← k1]; exact (yE _ _ e').symm, k2, by rw [← k3]; exact (κset_ne _ _ e').symm, k4⟩
structure qWn (M : zA) (id : Nat) (cs : List zG) (B : Nat) : Prop where
 at' : ∃ C, M.κ id = some C ∧ C.blk = some B
 rep : ∃ vals e, M.H[B]? = some (.cells vals e (0, 0)) ∧ zO (zV M) cs vals.toList
 own : ¬ qN M B
 F : ¬ M.F B
def zC9 (R : Nat → List zG → Nat → Prop) : List Nat → List (List zG) → List Nat → Prop
 | [], [], [] => True
 | a :: l, b :: m, c :: n => R a b c ∧ zC9 R l m n
 | _, _, _ => False
theorem zC9.mono {R S : Nat → List zG → Nat → Prop} : ∀ {l : List Nat} {m : List (List zG)} {n : List Nat}, (∀ a b c, c ∈ n → R a b c → S a b c) → zC9 R l m n → zC9 S l m n
 | [], [], [], _, _ => trivial
 | _ :: _, _ :: _, _ :: _, h, k => ⟨h _ _ _ (List.mem_cons_self ..) k.1, zC9.mono (fun a b c hc => h a b c (List.mem_cons_of_mem _ hc)) k.2⟩
 | [], [], _ :: _, _, k => k.elim
 | [], _ :: _, _, _, k => k.elim
 | _ :: _, [], _, _, k => k.elim
 | _ :: _, _ :: _, [], _, k => k.elim
theorem yBf : ∀ {ids : List Nat} {css : List (List zG)} {Bs : List Nat} {M : zA}, Ok M → zC9 (qWn M) ids css Bs → Bs.Nodup →
  ∃ M' : zA, M'.H = M.H ∧ M'.G = M.G ∧ M'.F = M.F ∧ M'.h = qE M.h (zNd ids css) ∧ Ok M' ∧ yG M M' ∧ (∀ b, qN M' b → qN M b ∨ b ∈ Bs)
 | [], [], [], M, ok, _, _ => ⟨M, rfl, rfl, rfl, rfl, ok, .refl M, fun _ h => .inl h⟩
 | id :: ids, cs :: css, B :: Bs, M, ok, h, hn => by
  obtain ⟨C, hC, hB⟩ := h.1.at'
  obtain ⟨vals, e, hH, hc⟩ := h.1.rep
  obtain ⟨k1, k2, k3⟩ := zA.revive_ok ok hC hB hH hc h.1.own h.1.F
  obtain ⟨n1, n2⟩ := List.nodup_cons.1 hn
  obtain ⟨M', a1, a2, a3, a4, a5, a6, a7⟩ := yBf (M := M.revive id C cs) k1 (zC9.mono (fun a b c hcB hb => by
   refine ⟨?_, ?_, fun ho => ?_, hb.F⟩
   ·obtain ⟨D, q1, q2⟩ := hb.at'
    obtain ⟨D', q3, le⟩ := k2.κ _ _ q1
    exact ⟨D', q3, le.blk.trans q2⟩
   ·obtain ⟨vals, e, q1, q2⟩ := hb.rep
    exact ⟨vals, e, q1, q2.mono fun _ _ h => h.ext k2⟩
   ·rcases k3 _ ho with h | h
    ·exact hb.own h
    ·subst h; exact n1 hcB) h.2) n2
  exact ⟨M', a1, a2, a3, a4, a5, yG.trans (M := M) (M' := M.revive id C cs) (Nat.le_refl _) k2 a6, fun b hb => by
   rcases a7 b hb with h | h
   ·exact (k3 b h).imp (fun h => h) fun h => by rw [h]; exact List.mem_cons_self ..
   ·exact .inr (List.mem_cons_of_mem _ h)⟩
 | [], [], _ :: _, _, _, h, _ => h.elim
 | [], _ :: _, _, _, _, h, _ => h.elim
 | _ :: _, [], _, _, _, h, _ => h.elim
 | _ :: _, _ :: _, [], _, _, h, _ => h.elim
theorem qW2 : ∀ {ids : List Nat} {css : List (List zG)} {h h' : Hp}, ids.length = css.length → (∀ n, n ∉ ids → h n = h' n) → qE h (zNd ids css) = qE h' (zNd ids css)
 | [], [], h, h', _, e => funext fun n => e n (by simp)
 | id :: ids, cs :: css, h, h', hl, e => qW2 (ids := ids) (css := css) (by simpa using hl) fun n hn => by
   by_cases k : n = id
   ·subst k; rw [yB, yB]
   ·rw [yE _ _ k, yE _ _ k]; exact e n (by simp [k, hn])
 | [], _ :: _, _, _, hl, _ => by simp at hl
 | _ :: _, [], _, _, hl, _ => by simp at hl
theorem yQh {h0 : Hp} {s : AX} {a a' : zD} {v : Value} {u : zX} {M : zA} (ok : Ok M) (hf : vY h0 M.h) (hv : zT M a v) (h : zGk h0 s a = some (a', u)) :
  ∃ L : zA, L.H = M.H ∧ L.h = qE M.h u ∧ Ok L ∧ yO M L ∧ zT L a' v ∧ vY h0 L.h := by
 unfold zGk at h
 split at h
 ·rename_i p x
  split at h
  ·rename_i y u1 e
   cases h
   obtain ⟨L, h1, h2, h3, h4, h5, h6⟩ := zGg (cs := [x]) (vs := [v]) ok hf ⟨hv, trivial⟩ e
   exact ⟨L, h1, h2, h3, h4, h5.1, h6⟩
  ·cases h
 ·rename_i l xs
  split at h
  ·rename_i ys u1 e
   cases h
   obtain ⟨vs, rfl, hx⟩ := hv
   obtain ⟨L, h1, h2, h3, h4, h5, h6⟩ := zGg ok hf hx e
   exact ⟨L, h1, h2, h3, h4, ⟨vs, rfl, h5⟩, h6⟩
  ·cases h
 ·cases h
  exact ⟨M, rfl, rfl, ok, .refl M, hv, hf⟩
theorem yB9 {h0 : Hp} : ∀ {l : List AX} {as as' : List zD} {vs : List Value} {u : zX} {M : zA}, Ok M → vY h0 M.h → zO (zT M) as vs → zEg h0 l as = some (as', u) →
  ∃ L : zA, L.H = M.H ∧ L.h = qE M.h u ∧ Ok L ∧ yO M L ∧ zO (zT L) as' vs ∧ vY h0 L.h
 | s :: l, a :: as, as', v :: vs, u, M, ok, hf, hv, h => by
  unfold zEg at h
  split at h
  ·rename_i a1 u1 as1 us1 e1 e2
   cases h
   obtain ⟨M1, h1, h2, h3, h4, h5, h6⟩ := yQh ok hf hv.1 e1
   obtain ⟨M2, k1, k2, k3, k4, k5, k6⟩ := yB9 h3 h6 (VReps.ext h4.ext hv.2) e2
   exact ⟨M2, k1.trans h1, by rw [k2, h2, zBj], k3, h4.trans k4, ⟨h5.ext k4.ext, k5⟩, k6⟩
  ·cases h
 | [], as, as', vs, u, M, ok, hf, hv, h => by
  cases as <;> cases h <;> exact ⟨M, rfl, rfl, ok, .refl M, hv, hf⟩
 | s :: l, [], as', vs, u, M, ok, hf, hv, h => by cases h; exact ⟨M, rfl, rfl, ok, .refl M, hv, hf⟩
 | _ :: _, _ :: _, _, [], _, _, _, _, hv, _ => hv.elim
def zBn (M L : zA) (id jd : Nat) : Prop := ∃ C D B, M.κ id = some C ∧ C.blk = some B ∧ L.κ jd = some D ∧ D.blk = some B
theorem qJd {M L : zA} : ∀ {ls : List (Bool × List XC)} {is js out : List Nat} {us : List Value} {cs : List zG} {bs : List (Bool × Nat)}, zAy M.h ls is = some (cs, bs) → zOh ls js = some out →
  zO (fun id u => ∃ C B, M.κ id = some C ∧ C.blk = some B ∧ u = .pointer (some ⟨B, 0, none⟩)) is us → zO (fun id u => ∃ C B, L.κ id = some C ∧ C.blk = some B ∧ u = .pointer (some ⟨B, 0, none⟩)) js us → zO (zBn M L) (yV bs) out
 | [], [], [], out, us, cs, bs, h, k, _, _ => by cases h; cases k; exact trivial
 | (io, l) :: ls, i :: is, j :: js, out, u :: us, cs, bs, h, k, p, q => by
  unfold zAy at h
  split at h
  ·rename_i cells rest bs' h1 h2
   obtain ⟨_, h⟩ := yX h
   cases h
   unfold zOh at k
   split at k
   ·rename_i o ho
    cases k
    have ih := qJd h2 ho p.2 q.2
    cases io with
    | false => exact ih
    | true =>
     obtain ⟨C, B, k1, k2, k3⟩ := p.1
     obtain ⟨D, B', k4, k5, k6⟩ := q.1
     rw [k3] at k6
     cases k6
     exact ⟨⟨C, D, B, k1, k2, k4, k5⟩, ih⟩
   ·cases k
  ·cases h
 | [], _ :: _, _, _, _, _, _, h, _, _, _ => by cases h
 | _ :: _, [], _, _, _, _, _, h, _, _, _ => by cases h
 | [], [], _ :: _, _, _, _, _, _, k, _, _ => by cases k
 | _ :: _, _ :: _, [], _, _, _, _, _, k, _, _ => by cases k
 | _ :: _, _ :: _, _ :: _, _, [], _, _, _, _, p, _ => p.elim
theorem yAh {M L : zA} : ∀ {bs : List (Bool × Nat)} {n : Nat}, (∀ q ∈ bs, q.1 = true) → (∀ i q, bs[i]? = some q → zBn M L q.2 (n + i)) → zO (zBn M L) (yV bs) (zBq n bs.length)
 | [], n, _, _ => trivial
 | (true, id) :: bs, n, h, k => ⟨k 0 _ rfl, yAh (fun q hq => h q (List.mem_cons_of_mem _ hq)) fun i q hq => by
   have := k (i + 1) q hq
   rwa [show n + (i + 1) = n + 1 + i by omega] at this⟩
 | (false, id) :: bs, n, h, k => by cases h _ (List.mem_cons_self ..)
theorem yB5 {h : Hp} : ∀ {ls : List (Bool × List XC)} {ids : List Nat} {cs : List zG} {bs : List (Bool × Nat)}, zAy h ls ids = some (cs, bs) → bs.map (·.1) = ls.map (·.1)
 | [], [], _, _, e => by cases e; rfl
 | (io, l) :: ls, id :: ids, cs, bs, e => by
  unfold zAy at e
  split at e
  ·rename_i cells rest bs' h1 h2
   obtain ⟨_, e⟩ := yX e
   cases e
   simp [yB5 h2]
  ·cases e
 | [], _ :: _, _, _, e => by cases e
 | _ :: _, [], _, _, e => by cases e
theorem yZr {M L : zA} {s : AX} {a b : zD} {v : Value} {cs : List zG} {bs : List (Bool × Nat)} {out : List Nat} (h : s.get M.h a = some (cs, bs)) {n : Nat} (k : s.io n b = some out) (p : zT M a v) (q : s.looks = true → zT L b v) (hk : s.isChn = true → ∀ i q, bs[i]? = some q → zBn M L q.2 (n + i)) : zO (zBn M L) (yV bs) out := by
 unfold AX.get at h
 split at h
 ·cases h; cases k; exact trivial
 ·obtain ⟨_, h'⟩ := yX h
  cases h'; cases k; exact trivial
 ·rename_i io l id
  unfold AX.io at k
  split at k
  ·rename_i e; cases e
  ·rename_i e; cases e
  ·rename_i io' l' jd e
   cases e
   exact qJd (us := [v]) h k ⟨p, trivial⟩ ⟨q rfl, trivial⟩
  ·rename_i e; cases e
  ·rename_i e; cases e
  ·cases k
 ·rename_i f caps g ids
  obtain ⟨hg, h'⟩ := yX h
  unfold AX.io at k
  split at k
  ·rename_i e; cases e
  ·rename_i e; cases e
  ·rename_i e; cases e
  ·rename_i f' caps' g' js e
   cases e
   obtain ⟨cv, rfl, hc⟩ := p
   obtain ⟨cv', e', hc'⟩ := q rfl
   cases e'
   exact qJd h' k hc hc'
  ·rename_i e; cases e
  ·cases k
 ·rename_i ls id
  split at h
  ·rename_i ids hids
   cases k
   have h1 := zQi h
   have h2 : ls.length = bs.length := by rw [h1]; simp [zLe]
   rw [h2]
   exact yAh (fun q hq => by
    have : q.1 ∈ bs.map (·.1) := List.mem_map_of_mem hq
    rw [yB5 h] at this
    exact (by simpa [zLe] using this : _ ∧ _).2) (hk rfl)
  ·cases h
 ·cases h
theorem qTr {M L : zA} : ∀ {l : List AX} {as : List zD} {vs : List Value} {t : Nat → zD} {n : Nat} {cs : List zG} {bs : List (Bool × Nat)} {out : List Nat} {m : Nat}, zA8 M.h l as = some (cs, bs) → zWj l t n m = some out → zO (zT M) as vs → (∀ i (h : i < vs.length) s, l[i]? = some s → s.looks = true → zT L (t (n + i)) vs[i]) → (l.any AX.isChn = true → ∀ i q, bs[i]? = some q → zBn M L q.2 (m + i)) →
  zO (zBn M L) (yV bs) out
 | [], [], [], t, n, cs, bs, out, m, h, k, _, _, _ => by cases h; cases k; exact trivial
 | s :: l, a :: as, v :: vs, t, n, cs, bs, out, m, h, k, p, q, hk => by
  unfold zA8 at h
  split at h
  ·rename_i c1 b1 c2 b2 h1 h2
   cases h
   unfold zWj at k
   split at k
   ·rename_i o1 o2 k1 k2
    cases k
    have e : ∀ b1 b2 : List (Bool × Nat), yV (b1 ++ b2) = yV b1 ++ yV b2 := fun b1 b2 => by
     induction b1 with
     | nil => rfl
     | cons x b1 ih => obtain ⟨io, y⟩ := x; cases io <;> simp [yV, ih]
    rw [e]
    have hnb := vFt h1
    refine (yZr h1 k1 p.1 (q 0 (by simp) s rfl) fun hc i q hq => hk (by simp [hc]) i q (by rw [List.getElem?_append_left (List.getElem?_eq_some_iff.1 hq).1]; exact hq)).append (qTr h2 k2 p.2 (fun i hi s' hs hl => ?_) fun hc i q hq => ?_)
    rotate_left
    ·have := hk (by simp only [List.any_cons, hc, Bool.or_true]) (b1.length + i) q (by rw [List.getElem?_append_right (by omega)]; rw [show b1.length + i - b1.length = i by omega]; exact hq)
     rw [hnb, ← Nat.add_assoc] at this
     exact this
    have := q (i + 1) (by simpa using hi) s' (by simpa using hs) hl
    rw [show n + (i + 1) = n + 1 + i by omega] at this
    simpa using this
   ·cases k
  ·cases h
 | [], [], _ :: _, _, _, _, _, _, _, _, _, p, _, _ => p.elim
 | [], _ :: _, _, _, _, _, _, _, _, h, _, _, _, _ => by cases h
 | _ :: _, [], _, _, _, _, _, _, _, h, _, _, _, _ => by cases h
 | _ :: _, _ :: _, [], _, _, _, _, _, _, _, _, p, _, _ => p.elim
theorem yEd {L : zA} (okL : Ok L) : ∀ {os : List (List RC)} {ids : List Nat} {bs : List zG}, zLw L.h os ids = some bs → bs.length = os.flatten.length ∧ ids.length = os.length ∧
  ∃ us : List Value, zO (zV L) bs us ∧ ∀ {M : zA} {cs : List zG}, M.H = L.H → zO (zV M) cs us → zC9 (fun id cs B => (∃ cells, L.h id = some (.box true cells)) ∧ (∃ C, L.κ id = some C ∧ C.blk = some B ∧ C.rows = []) ∧ ∃ vals e, M.H[B]? = some (.cells vals e (0, 0)) ∧ zO (zV M) cs vals.toList) ids (zF2 os cs) (ids.map fun id => ((L.κ id).bind zR.blk).getD 0)
 | [], [], bs, h => by cases h; exact ⟨rfl, rfl, [], trivial, fun _ _ => trivial⟩
 | o :: os, n :: ns, bs, h => by
  unfold zLw at h
  split at h
  ·rename_i cells rest h1 h2
   obtain ⟨hl, h⟩ := yX h
   cases h
   have hl : cells.length = o.length := Nat.eq_of_beq_eq_true hl
   obtain ⟨C, hC, B, vals, e, q1, q2, q3, q4, _⟩ := okL.obj n _ h1
   obtain ⟨k1, k2, us, k3, k4⟩ := yEd okL h2
   refine ⟨by simp [hl, k1], by simp [k2], vals.toList ++ us, q4.append k3, fun {M cs} hH hc => ⟨⟨⟨cells, h1⟩, ⟨C, hC, ?_, q2⟩, vals, e, ?_, ?_⟩, ?_⟩⟩
   ·show C.blk = some (((L.κ n).bind zR.blk).getD 0); rw [hC]; show C.blk = some (C.blk.getD 0); rw [q1]; rfl
   ·show M.H[((L.κ n).bind zR.blk).getD 0]? = _; rw [hC, hH]; show L.H[C.blk.getD 0]? = _; rw [q1]; exact q3
   ·have h1 := zO.take o.length hc
    have hwl := q4.length
    rw [show (vals.toList ++ us).take o.length = vals.toList from by rw [List.take_append_of_le_length (by omega), List.take_of_length_le (by omega)]] at h1
    exact h1
   ·have h1 := zO.drop o.length hc
    have hwl := q4.length
    rw [show (vals.toList ++ us).drop o.length = us from by rw [show o.length = vals.toList.length by omega, List.drop_left]] at h1
    exact k4 hH h1
  ·cases h
 | [], _ :: _, _, h => by cases h
 | _ :: _, [], _, h => by cases h
theorem vAs {h0 : Hp} {r : RC} {c : zG} {d : r.den} (h : zDx h0 r c = some d) : ∀ id ∈ vI [r] [c], ∀ own cells, h0 id ≠ some (.box own cells) := by
  unfold zDx at h
  split at h
  all_goals (try (intro id hid; simp [vI] at hid; done))
  all_goals first
    | (cases h; done)
    | (intro id' hid own cells hb
       have := List.mem_singleton.1 hid
       subst this
       rw [hb] at h
       cases h)
    | (cases h; intro id' hid; simp [vI] at hid)
theorem qV6 {L : Hp} : ∀ {l : List RC} {cs : List zG} {d : RL l}, zBb L l cs = some d → ∀ id ∈ vI l cs, ∀ own cells, L id ≠ some (.box own cells)
 | [], [], _, _, id, hid => by cases hid
 | r :: l, c :: cs, d, h, id, hid => by
  unfold zBb at h
  split at h
  ·rename_i x xs e1 e2
   rw [zXq] at hid
   rcases List.mem_append.1 hid with hid | hid
   ·exact vAs e1 id hid
   ·exact qV6 e2 id hid
  ·cases h
 | [], _ :: _, _, h, _, _ => by cases h
 | _ :: _, [], _, h, _, _ => by cases h
theorem qHr : ∀ (a b : List (Bool × Nat)), yV (a ++ b) = yV a ++ yV b
 | [], _ => rfl
 | (true, _) :: a, b => by simp [yV, qHr a b]
 | (false, _) :: a, b => by simp [yV, qHr a b]
theorem zPy {h : Hp} : ∀ {ls : List (Bool × List XC)} {is : List Nat} {cs : List zG} {bs : List (Bool × Nat)}, zAy h ls is = some (cs, bs) → ∀ id ∈ yV bs, ∃ o, h id = some o ∧ o.owned = true
 | [], [], _, _, e => by cases e; intro id hid; cases hid
 | (io, l) :: ls, i :: is, cs, bs, e => by
  unfold zAy at e
  split at e
  ·rename_i cells rest bs' h1 h2
   obtain ⟨_, e⟩ := yX e
   cases e
   intro id hid
   cases io with
   | false => exact zPy h2 id hid
   | true =>
    rcases List.mem_cons.1 hid with rfl | hid
    ·unfold zMm at h1
     split at h1
     ·rename_i c hc
      exact ⟨_, hc, rfl⟩
     ·rename_i e' _; cases e'
     ·rename_i e' _; cases e'
     ·cases h1
    ·exact zPy h2 id hid
  ·cases e
 | [], _ :: _, _, _, e => by cases e
 | _ :: _, [], _, _, e => by cases e
theorem yUx {h : Hp} {s : AX} {a : zD} {cs : List zG} {bs : List (Bool × Nat)} (e : s.get h a = some (cs, bs)) : ∀ id ∈ yV bs, ∃ o, h id = some o ∧ o.owned = true := by
 unfold AX.get at e
 split at e
 ·cases e; intro id hid; cases hid
 ·obtain ⟨_, e⟩ := yX e
  cases e; intro id hid; cases hid
 ·exact zPy e
 ·obtain ⟨_, e⟩ := yX e
  exact zPy e
 ·split at e
  ·exact zPy e
  ·cases e
 ·cases e
theorem yFl {h : Hp} : ∀ {l : List AX} {as : List zD} {cs : List zG} {bs : List (Bool × Nat)}, zA8 h l as = some (cs, bs) → l.length = as.length ∧ ∀ id ∈ yV bs, ∃ o, h id = some o ∧ o.owned = true
 | [], [], _, _, e => by cases e; exact ⟨rfl, fun id hid => by cases hid⟩
 | s :: l, a :: as, cs, bs, e => by
  unfold zA8 at e
  split at e
  ·rename_i c1 b1 c2 b2 h1 h2
   cases e
   obtain ⟨k1, k2⟩ := yFl h2
   refine ⟨by simp [k1], fun id hid => ?_⟩
   rw [qHr] at hid
   rcases List.mem_append.1 hid with hid | hid
   ·exact yUx h1 id hid
   ·exact k2 id hid
  ·cases e
 | [], _ :: _, _, _, e => by cases e
 | _ :: _, [], _, _, e => by cases e
theorem yHj {h : Hp} : ∀ {l : List XC} {cs : List zG} {d : XL l}, zDv h l cs = some d → ∀ id ∈ wB l cs, ∃ o, h id = some o ∧ o.owned = true
 | [], [], _, _ => fun id hid => by cases hid
 | x :: l, c :: cs, d, e => by
  unfold zDv at e
  split at e
  ·rename_i y ys h1 h2
   cases e
   have ih := yHj h2
   unfold inX at h1
   split at h1
   ·exact ih
   ·rename_i t id
    intro jd hid
    rcases List.mem_cons.1 hid with rfl | hid
    ·split at h1
     ·rename_i s xs hs
      exact ⟨_, hs, rfl⟩
     ·cases h1
    ·exact ih jd hid
   ·rename_i id
    intro jd hid
    rcases List.mem_cons.1 hid with rfl | hid
    ·split at h1
     ·rename_i s xs hs
      exact ⟨_, hs, rfl⟩
     ·cases h1
    ·exact ih jd hid
   ·rename_i id
    intro jd hid
    rcases List.mem_cons.1 hid with rfl | hid
    ·split at h1
     ·rename_i xs hs
      exact ⟨_, hs, rfl⟩
     ·cases h1
    ·exact ih jd hid
   ·exact ih
   ·cases h1
  ·cases e
 | [], _ :: _, _, e => by cases e
 | _ :: _, [], _, e => by cases e
theorem qS2 {a b : List Nat} (h : qCr a b = true) : ∀ id ∈ b, id ∉ a := fun id hb ha => by
 have h := List.all_eq_true.1 h id ha
 have : b.any (Nat.beq id) = true := List.any_eq_true.2 ⟨id, hb, by simp⟩
 rw [this] at h; cases h
theorem yGm : ∀ (os : List (List RC)) (cs : List zG), (zF2 os cs).length = os.length
 | [], _ => rfl
 | _ :: os, cs => by simp [zF2, yGm os]
theorem qZj {M L : zA} {P : zA → Nat → Prop} {R : Nat → List zG → Nat → Prop} : ∀ {ids js : List Nat} {css : List (List zG)} {Bs : List Nat}, zO (zBn M L) ids js → zC9 R js css Bs → zC9 (fun id cs B => ∃ jd, zBn M L id jd ∧ R jd cs B) ids css Bs
 | [], [], [], [], _, _ => trivial
 | _ :: _, _ :: _, _ :: _, _ :: _, h, k => ⟨⟨_, h.1, k.1⟩, qZj (P := P) h.2 k.2⟩
 | [], [], [], _ :: _, _, k => k.elim
 | [], [], _ :: _, _, _, k => by cases k
 | [], _ :: _, _, _, h, _ => h.elim
 | _ :: _, [], _, _, h, _ => h.elim
 | _ :: _, _ :: _, [], _, _, k => k.elim
 | _ :: _, _ :: _, _ :: _, [], _, k => k.elim
theorem zA.gone_ok {M : zA} (ok : Ok M) {nm : Nat} (hnm : M.h nm = none) (C : zR) :
  Ok (M.add nm .gone C) ∧ yG M (M.add nm .gone C) ∧ (∀ b, qN (M.add nm .gone C) b → qN M b) := by
 have x : yG M (M.add nm .gone C) := ⟨fun id D h => by
  have hne : id ≠ nm := fun e => by rw [e, ok.non nm hnm] at h; cases h
  exact ⟨D, by show κset M.κ nm _ id = _; rw [κset_ne _ _ hne]; exact h, D.le_refl⟩, fun _ h => h, fun _ h => h, fun _ _ => rfl, fun _ _ => rfl, fun _ _ => rfl⟩
 have at' : ∀ o, (M.add nm .gone C).h nm = some o → o = .gone := fun o h => by
  have e1 : (M.add nm .gone C).h nm = some .gone := yB _ _ _
  rw [e1] at h; cases h; rfl
 refine ⟨Ok.build ok x (fun id => id = nm) (fun id h => yE _ _ h) (fun id h => κset_ne _ _ h) (fun _ _ _ _ _ _ _ _ _ => rfl) (fun id o' D h1 h2 h3 h4 b hb' => (ok.own b ⟨id, o', D, h2, h3, h4, hb'⟩).1) (Nat.le_refl _)
  (fun id o' e h => ?_) (fun id e h => ?_) (fun id o' D b e h1 h2 h3 h4 => ?_) ok.GF ok.Flt, x, fun b hb' => ?_⟩
 ·subst e
  rw [at' o' h]
  exact ⟨_, κset_same _ _ _, trivial⟩
 ·subst e
  have e1 : (M.add id .gone C).h id = some .gone := yB _ _ _
  rw [e1] at h; cases h
 ·subst e
  rw [at' o' h1] at h2; cases h2
 ·obtain ⟨id, o', D, h1, h2, h3, h4⟩ := hb'
  by_cases e : id = nm
  ·subst e
   rw [at' o' h1] at h2; cases h2
  ·exact ⟨id, o', D, by rw [← h1]; exact (yE _ _ e).symm, h2, by rw [← h3]; exact (κset_ne _ _ e).symm, h4⟩
theorem yJy : ∀ {n nm : Nat} {Bs : List Nat} {M : zA}, Ok M → (∀ i, i < n → M.h (nm + i) = none) → Bs.length = n →
  ∃ M' : zA, M'.H = M.H ∧ M'.G = M.G ∧ M'.F = M.F ∧ M'.h = qE M.h (zC7 (zBq nm n)) ∧ Ok M' ∧ yG M M' ∧ (∀ b, qN M' b → qN M b) ∧ zO (fun id B => ∃ C, M'.κ id = some C ∧ C.blk = some B) (zBq nm n) Bs
 | 0, nm, [], M, ok, _, _ => ⟨M, rfl, rfl, rfl, rfl, ok, .refl M, fun _ h => h, trivial⟩
 | n + 1, nm, B :: Bs, M, ok, hf, hl => by
  obtain ⟨k1, k2, k3⟩ := zA.gone_ok ok (hf 0 (by omega)) ⟨some B, 0, 0, 0, []⟩
  rw [Nat.add_zero] at k1 k2 k3
  obtain ⟨M', a1, a2, a3, a4, a5, a6, a7, a8⟩ := yJy (n := n) (nm := nm + 1) (Bs := Bs) k1 (fun i hi => by
   have := hf (i + 1) (by omega)
   rw [show nm + 1 + i = nm + (i + 1) by omega, ← this]
   exact yE _ _ (by omega)) (by simpa using hl)
  refine ⟨M', a1, a2, a3, a4, a5, yG.trans (M := M) (M' := M.add nm .gone ⟨some B, 0, 0, 0, []⟩) (Nat.le_refl _) k2 a6, fun b hb => k3 b (a7 b hb), ?_, a8⟩
  obtain ⟨C, h1, h2⟩ := a6.κ nm _ (κset_same _ _ _)
  exact ⟨C, h1, h2.blk⟩
 | n + 1, _, [], _, _, _, hl => by cases hl
 | 0, _, _ :: _, _, _, _, hl => by cases hl
theorem qEc {L M : zA} {ids js : List Nat} (hs : zO (zBn M L) ids js) : ∀ {l : List (Option Nat)} {cs ds : List zG} {vs : List Value}, zD5 l js cs = true → zO (zV L) cs vs → zO (zV M) ds vs → zO (zV M) (zGc l ids ds) vs
 | [], cs, ds, vs, _, _, hd => by unfold zGc; exact hd
 | none :: l, [], [], [], _, _, _ => trivial
 | none :: l, c :: cs, d :: ds, v :: vs, h, hc, hd => ⟨hd.1, qEc hs (l := l) h hc.2 hd.2⟩
 | some j :: l, [], [], [], _, _, _ => trivial
 | some j :: l, c :: cs, d :: ds, v :: vs, h, hc, hd => by
  obtain ⟨id, rfl, hid, h'⟩ := yEn h
  refine ⟨?_, qEc hs h' hc.2 hd.2⟩
  have hj := (List.getElem?_eq_some_iff.1 hid).1
  have hi : j < ids.length := by rw [hs.length]; exact hj
  have := hs.get j hi hj
  rw [(List.getElem?_eq_some_iff.1 hid).2] at this
  obtain ⟨C, D, B, q1, q2, q3, q4⟩ := this
  obtain ⟨D', B', p1, p2, p3⟩ := hc.1
  rw [q3] at p1; cases p1
  rw [q4] at p2; cases p2
  rw [List.getElem?_eq_getElem hi]
  exact ⟨C, B, q1, q2, p3⟩
 | _, [], _ :: _, [], _, _, hd => hd.elim
 | _, [], _ :: _, _ :: _, _, hc, _ => hc.elim
 | _, _ :: _, [], [], _, hc, _ => hc.elim
 | _, _ :: _, [], _ :: _, _, _, hd => hd.elim
 | _, [], [], _ :: _, _, hc, _ => hc.elim
 | _, _ :: _, _ :: _, [], _, hc, _ => hc.elim
theorem yPw {h : Hp} {ns : Nat} {cs : List zG} {nw : List Nat} (e : qMm h ns cs = some nw) : nw.length = ns := by
 unfold qMm at e
 cases h0 : Nat.beq ns 0 with
 | true => rw [h0] at e; cases e; exact (Nat.eq_of_beq_eq_true h0).symm
 | false =>
  rw [h0] at e
  simp only [cond_false] at e
  split at e
  ·exact (qKe e).2
  ·cases e
def zW6 (w : World) (na : Nat) (chn : Bool) (M : zA) (vs : Array Value) (rv : Value) (w' : World) (v : zD) (st : St) : Prop :=
 ∃ M' : zA, M'.h = st.h ∧ M'.H = w'.heap ∧ Ok M' ∧ zAs M M' ∧ (chn = true → zTv M M') ∧ zT M' v rv ∧ w'.os = w.os ∧ w'.tape = w.tape ∧ w'.output = w.output ∧ (∀ t, t < na → zT M' (st.t t) (vs.getD t undef))
theorem qUl {n : Nat} : ∀ {l : List RC} {nm : Nat} {d : RL l} {hh : Hp}, (∀ j, j < l.length → n ≠ nm + j) → qE hh (zCz nm l d).2 n = hh n
 | [], _, _, _, _ => rfl
 | r :: l, nm, d, hh, h => by
  show qE hh ((zD6 nm r d.1).2 ++ (zCz (nm + 1) l d.2).2) n = _
  rw [zBj, qUl fun j hj => by have := h (j + 1) (by simpa using hj); omega, yKo (by have := h 0 (by simp); omega)]
theorem yWi {M : zA} (ok : Ok M) {io : Bool} {id : Nat} {cells : List zG} (h : zMm M.h io id = some cells) : ∃ C B, M.κ id = some C ∧ C.blk = some B := by
 have h' : zK6 M.h id = some cells := by
  unfold zMm at h
  unfold zK6
  split at h
  ·rename_i e; rw [e]; exact h
  ·rename_i e; rw [e]; exact h
  ·rename_i e; rw [e]; exact h
  ·cases h
 obtain ⟨C, h1, B, _, _, h2, _⟩ := qUa ok h'
 exact ⟨C, B, h1, h2⟩
theorem zU0 {M : zA} (ok : Ok M) : ∀ {ls : List (Bool × List XC)} {is : List Nat} {cs : List zG} {bs : List (Bool × Nat)}, zAy M.h ls is = some (cs, bs) → ∀ q ∈ bs, ∃ C B, M.κ q.2 = some C ∧ C.blk = some B
 | [], [], _, _, e => by cases e; intro q hq; cases hq
 | (io, l) :: ls, i :: is, cs, bs, e => by
  unfold zAy at e
  split at e
  ·rename_i cells rest bs' h1 h2
   obtain ⟨_, e⟩ := yX e
   cases e
   intro q hq
   rcases List.mem_cons.1 hq with rfl | hq
   ·exact yWi ok h1
   ·exact zU0 ok h2 q hq
  ·cases e
 | [], _ :: _, _, _, e => by cases e
 | _ :: _, [], _, _, e => by cases e
theorem qS4 {M : zA} (ok : Ok M) : ∀ {l : List AX} {as : List zD} {cs : List zG} {bs : List (Bool × Nat)}, zA8 M.h l as = some (cs, bs) → ∀ q ∈ bs, ∃ C B, M.κ q.2 = some C ∧ C.blk = some B
 | [], [], _, _, e => by cases e; intro q hq; cases hq
 | s :: l, a :: as, cs, bs, e => by
  unfold zA8 at e
  split at e
  ·rename_i c1 b1 c2 b2 h1 h2
   cases e
   intro q hq
   rcases List.mem_append.1 hq with hq | hq
   ·unfold AX.get at h1
    split at h1
    ·cases h1; cases hq
    ·obtain ⟨_, h1⟩ := yX h1
     cases h1; cases hq
    ·exact zU0 ok h1 q hq
    ·obtain ⟨_, h1⟩ := yX h1
     exact zU0 ok h1 q hq
    ·split at h1
     ·exact zU0 ok h1 q hq
     ·cases h1
    ·cases h1
   ·exact qS4 ok h2 q hq
  ·cases e
 | [], _ :: _, _, _, e => by cases e
 | _ :: _, [], _, _, e => by cases e
theorem qPi {L : zA} (ok : Ok L) : ∀ {os : List (List RC)} {ids : List Nat} {bs : List zG}, zLw L.h os ids = some bs → ∀ j ∈ ids, ∃ cells C B, L.h j = some (.box true cells) ∧ L.κ j = some C ∧ C.blk = some B
 | [], [], _, _ => fun j hj => by cases hj
 | o :: os, n :: ns, bs, h => by
  unfold zLw at h
  split at h
  ·rename_i cells rest h1 h2
   intro j hj
   rcases List.mem_cons.1 hj with rfl | hj
   ·obtain ⟨C, hC, B, vals, e, q1, _⟩ := ok.obj _ _ h1
    exact ⟨cells, C, B, h1, hC, q1⟩
   ·exact qPi ok h2 j hj
  ·cases h
 | [], _ :: _, _, h => by cases h
 | _ :: _, [], _, h => by cases h
theorem qWz {L : zA} (ok : Ok L) : ∀ {js : List Nat}, js.Nodup → (∀ j ∈ js, ∃ cells C B, L.h j = some (.box true cells) ∧ L.κ j = some C ∧ C.blk = some B) → (js.map fun id => ((L.κ id).bind zR.blk).getD 0).Nodup
 | [], _, _ => List.nodup_nil
 | a :: js, hn, hall => by
  obtain ⟨n1, n2⟩ := List.nodup_cons.1 hn
  refine List.nodup_cons.2 ⟨fun hm' => ?_, qWz ok n2 fun j hj => hall j (List.mem_cons_of_mem _ hj)⟩
  obtain ⟨j, hj, hje⟩ := List.mem_map.1 hm'
  obtain ⟨c1', C, B, q1, q2, q3⟩ := hall a (List.mem_cons_self ..)
  obtain ⟨c2', D, B', q4, q5, q6⟩ := hall j (List.mem_cons_of_mem _ hj)
  have hje : ((L.κ j).bind zR.blk).getD 0 = ((L.κ a).bind zR.blk).getD 0 := hje
  rw [q2, q5] at hje
  have hje : (D.blk.getD 0) = (C.blk.getD 0) := hje
  rw [q3, q6] at hje
  have hje : B' = B := hje
  subst hje
  exact ok.disj a j _ _ C D B' (fun e => n1 (by rw [e]; exact hj)) q1 q4 rfl rfl q2 q5 (by simp [zR.fp, q3]) (by simp [zR.fp, q6])
theorem qZy {na : Nat} {as : List AX} (hna : zE7 as na = true) {nm n : Nat} {args : List zD} {h : Hp} {u0 : zX} {io rows : List Nat} {d : XD as} (he : zIb as nm n args h = some (u0, io, rows, d)) (M : zA) (w : World) (vs : Array Value) (hh : M.h = h) (hH : M.H = w.heap) (ok : Ok M) (hv : zO (zT M) args vs.toList) :
  ∃ Ml : zA, Ml.h = (zA9 as d).2 ∧ Ml.H = w.heap ∧ Ok Ml ∧ zO (zT Ml) (zA9 as d).1 vs.toList ∧
   ∀ rv w' v0 st, zW6 w na (as.any AX.isChn) Ml vs rv w' v0 st → ∀ rs os ns dx, zF7 st as rs os ns v0 = some dx → (rs.cells ++ os.flatten).length + ns ≤ n →
    ∃ Mf, zE4 M w (zPu u0 io rows rs os ns nm dx).2 Mf w' ∧ zT Mf (zPu u0 io rows rs os ns nm dx).1 rv := by
 unfold zIb at he
 split at he
 ·cases he
 rename_i args' u hfrz
 split at he
 ·cases he
 rename_i cs bs hget
 split at he
 ·cases he
 rename_i d' hd
 dsimp only at he
 obtain ⟨hc, he⟩ := zCc he
 cases he
 simp only [Bool.and_eq_true] at hc
 obtain ⟨⟨⟨⟨⟨⟨hc1, hc2⟩, hc3⟩, hc4⟩, hc5⟩, hc6⟩, hc7⟩ := hc
 subst hh
 obtain ⟨M1, a1, a2, a3, a4, a5, a6⟩ := yB9 ok (vY.refl _) hv hfrz
 rw [← a2] at hd hget
 obtain ⟨hlen1, hio⟩ := yFl hget
 have hrow := yHj hd
 have howned : zCi M1 (yV bs ++ wB (as.flatMap AX.cells) cs) := fun id hid => (List.mem_append.1 hid).elim (hio id) (hrow id)
 have hnd0 := zM7 hc4
 obtain ⟨Ml, lo, b2, b3, b4, b5, b6⟩ := vBp a3 a5 hget hd hnd0 (qS2 hc5) (qS2 hc6) (Nat.le_of_ble_eq_true hc3) hc7 howned
 generalize hmine : yV bs ++ wB (as.flatMap AX.cells) cs = mine at *
 refine ⟨Ml, b2, by rw [lo.H, a1]; exact hH, b3, b5, fun rv w' v0 st ⟨L0, c1, c2, c3, c4, ck, c5, c6, c7, c8, c9⟩ rs os ns dx hK hn => ?_⟩
 unfold zF7 at hK
 split at hK
 ·cases hK
 rename_i io0 hids
 split at hK
 ·cases hK
 rename_i ccs hcs
 split at hK
 ·cases hK
 rename_i nw hnw
 split at hK
 ·cases hK
 rename_i bcs hbcs
 obtain ⟨hndi, hK1⟩ := zCc hK
 clear hK
 split at hK1
 case h_2 => cases hK1
 rename_i cs' u1 hfr
 obtain ⟨hnd, hK⟩ := zCc hK1
 clear hK1
 rw [Bool.and_eq_true] at hnd
 obtain ⟨hnd, hlks⟩ := hnd
 have hnwl := yPw hnw
 obtain ⟨hlen, us, d1, d2⟩ := yKe hcs c5
 rw [← c1] at hfr hK hbcs
 obtain ⟨js, hjs⟩ : ∃ js, js = io0 ++ nw := ⟨_, rfl⟩
 rw [← hjs] at hbcs hndi hlks
 obtain ⟨k1, k2, us2, k3, k4⟩ := yEd c3 hbcs
 obtain ⟨L, e1, e2, e3, e4, e5, e6⟩ := zGg c3 (vY.refl _) (d1.append k3) hfr
 rw [← e2] at hK
 have g : zAs Ml L := c4.trans e4.grow
 obtain ⟨f1, f2, f3⟩ := zA.overX_ok a3 e3 lo howned b4 g
 have hsame : zO (zBn M1 L0) (yV bs) io0 := qTr hget hids a5 (fun i hi s hs hlk => by
  have hi' : i < vs.size := by simpa using hi
  have hlt : i < na := by
   have := List.all_eq_true.1 hna (s, i) (List.mk_mem_zipIdx_iff_getElem?.2 hs)
   simp only [hlk, Bool.not_true, Bool.false_or] at this
   exact zV4 this
  have := c9 i hlt
  rw [Nat.zero_add]
  have e : vs.getD i undef = vs.toList[i] := by simp [hi']
  rw [← e]; exact this) fun hch i q hq => by
   obtain ⟨C, B, p1, p2⟩ := qS4 a3 hget q (List.mem_of_getElem? hq)
   have hi : i < bs.length := (List.getElem?_eq_some_iff.1 hq).1
   have hκ : Ml.κ i = some C := by
    rw [b6]
    unfold κX
    have : Nat.ble vK i = false := by
     cases h : Nat.ble vK i with
     | false => rfl
     | true => have h1 := Nat.le_of_ble_eq_true h; have h2 := Nat.le_of_ble_eq_true hc3; omega
    rw [this, hq]
    exact p1
   obtain ⟨C', p3, p4⟩ := ck hch i C hκ
   rw [Nat.zero_add]
   exact ⟨C, C', B, p1, p2, p3, p4.trans p2⟩
 have hfree0 : ∀ i, i < n → (M1.overX L mine).h (nm + i) = none := fun i hi => by
  have h1 := qHj hc1 i hi
  have h2 : M1.h (nm + i) = none := by
   rw [a2]
   rcases a6 (nm + i) with h | ⟨own, t, xs, h, _⟩ | ⟨ver, xs, h, _⟩
   ·rw [a2] at h; rw [h]; exact h1
   ·rw [h1] at h; cases h
   ·rw [h1] at h; cases h
  show qE M1.h (zC7 mine) (nm + i) = none
  rw [zG1, if_neg, h2]
  intro hm'
  obtain ⟨o, ho, _⟩ := howned _ hm'
  rw [h2] at ho; cases ho
 have hfree : ∀ i, i < (rs.cells ++ os.flatten).length → (M1.overX L mine).h (nm + i) = none := fun i hi => hfree0 i (by omega)
 have hlow : ∀ b, qN L b → b < M1.H.size → zBf M1 mine b := fun b hb hlt => b4 b (g.own b hb (by rw [lo.H]; exact hlt))
 have hnotF : ∀ b, qN L b → ¬ (M1.overX L mine).F b := fun b hb h => by
  rcases h with h | h
  ·exact (zEy a3 howned h).2 (hlow b hb (a3.Flt b h))
  ·exact (e3.own b hb).1 (e3.GF b h)
 have hnotO : ∀ b, qN L b → ¬ qN (M1.overX L mine) b := fun b hb h => by
  obtain ⟨q1, q2⟩ := f3 b h
  exact q2 (hlow b hb (a3.own b q1).2)
 obtain ⟨Mc, g1, g2, g3, g4, g5, g6, g7, g8⟩ := qJ9 e3 f1 ⟨rfl, rfl⟩ hfree hK (zM7 hnd) (zGq hK) (fun id hid C hC b hb => by
  obtain ⟨o, ho, hoo⟩ := zGq hK id hid
  have hown : qN L b := ⟨id, o, C, ho, hoo, hC, hb⟩
  exact ⟨hnotO b hown, hnotF b hown, (e3.own b hown).2⟩)
 obtain ⟨Mg, n1, n2, n3, n4, n5, n6, n7, n8⟩ := yJy (n := ns) (nm := nm + (rs.cells ++ os.flatten).length) (Bs := nw.map fun id => ((L0.κ id).bind zR.blk).getD 0) g5 (fun i hi => by
  rw [g4, qUl (fun j hj => by omega), Nat.add_assoc]
  exact hfree0 _ (by omega)) (by simp [hnwl])
 have hboxL : ∀ j ∈ js, ∃ cells C B, L0.h j = some (.box true cells) ∧ L0.κ j = some C ∧ C.blk = some B := qPi c3 hbcs
 have hx6 : yG M1 Mg := (f2.ext.trans f2.size g6).trans (by rw [g1]; exact f2.size) n6
 have hs1 : zO (zBn Mg L0) (yV bs) io0 := hsame.mono fun id jd hq => by
  obtain ⟨C, D, B, q1, q2, q3, q4⟩ := hq
  obtain ⟨C', p3, le⟩ := hx6.κ id C q1
  exact ⟨C', D, B, p3, le.blk.trans q2, q3, q4⟩
 have hs2 : zO (zBn Mg L0) (zBq (nm + (rs.cells ++ os.flatten).length) ns) nw := by
  have hl8 := n8.length
  rw [List.length_map] at hl8
  refine zO.of_get hl8 fun i h1 h2 => ?_
  obtain ⟨C, q1, q2⟩ := n8.get i h1 (by simpa using h2)
  obtain ⟨cells, D, B, p1, p2, p3⟩ := hboxL nw[i] (by rw [hjs]; exact List.mem_append_right _ (List.getElem_mem _))
  refine ⟨C, D, B, q1, ?_, p2, p3⟩
  rw [q2, List.getElem_map, p2]
  show some (D.blk.getD 0) = _
  rw [p3]; rfl
 have hsameG : zO (zBn Mg L0) (yV bs ++ zBq (nm + (rs.cells ++ os.flatten).length) ns) js := by
  rw [hjs]; exact hs1.append hs2
 have hsameGL : zO (zBn Mg L) (yV bs ++ zBq (nm + (rs.cells ++ os.flatten).length) ns) js := hsameG.mono fun id jd hq => by
  obtain ⟨C, D, B, q1, q2, q3, q4⟩ := hq
  obtain ⟨D', p3, le⟩ := e4.ext.κ jd D q3
  exact ⟨C, D', B, q1, q2, p3, le.blk.trans q4⟩
 have hfix := qEc hsameGL hlks e5 ((g8 _ e5).mono fun _ _ h => h.ext n6)
 obtain ⟨G, hG⟩ : ∃ G, G = zGc ((rs.cells ++ os.flatten).map RC.lnk) (yV bs ++ zBq (nm + (rs.cells ++ os.flatten).length) ns) (zCz nm (rs.cells ++ os.flatten) dx).1 := ⟨_, rfl⟩
 rw [← hG] at hfix
 have hul : us.length = rs.cells.length := by rw [← d1.length, hlen]
 have hgr : zO (zV Mg) (G.take rs.cells.length) us := by
  have := zO.take rs.cells.length hfix
  rwa [show (us ++ us2).take rs.cells.length = us from by rw [← hul, List.take_left]] at this
 have hgb : zO (zV Mg) (G.drop rs.cells.length) us2 := by
  have := zO.drop rs.cells.length hfix
  rwa [show (us ++ us2).drop rs.cells.length = us2 from by rw [← hul, List.drop_left]] at this
 have hHc : Mg.H = L0.H := by rw [n1, g1]; exact e1
 have hback := qZj (P := fun _ _ => True) hsameG (k4 hHc hgb)
 have hlbox : ∀ jd B, (∃ cells, L0.h jd = some (.box true cells)) → (∃ C, L0.κ jd = some C ∧ C.blk = some B) → ∃ cells C, L.h jd = some (.box true cells) ∧ L.κ jd = some C ∧ B ∈ C.fp := fun jd B ⟨cells, q1⟩ ⟨C, q2, q3⟩ => by
  obtain ⟨C', q4, le⟩ := e4.ext.κ jd C q2
  refine ⟨cells, C', ?_, q4, ?_⟩
  ·rcases e6 jd with h | ⟨own, t, xs, h, _⟩ | ⟨ver, xs, h, _⟩
   ·rw [h, q1]
   ·rw [q1] at h; cases h
   ·rw [q1] at h; cases h
  ·have : C'.blk = some B := le.blk.trans q3
   simp [zR.fp, this]
 have hBown : ∀ b, b ∈ (js.map fun id => ((L0.κ id).bind zR.blk).getD 0) → qN L b := fun b hb => by
  obtain ⟨j, hj, rfl⟩ := List.mem_map.1 hb
  obtain ⟨cells, C, B, q1, q2, q3⟩ := hboxL j hj
  obtain ⟨cells', D, p4, p5, p6⟩ := hlbox j B ⟨cells, q1⟩ ⟨C, q2, q3⟩
  have e : ((L0.κ j).bind zR.blk).getD 0 = B := by rw [q2]; show C.blk.getD 0 = B; rw [q3]; rfl
  rw [e]
  exact ⟨j, _, D, p4, rfl, p5, p6⟩
 have hback2 : zC9 (qWn Mg) (yV bs ++ zBq (nm + (rs.cells ++ os.flatten).length) ns) (zF2 os (G.drop rs.cells.length)) (js.map fun id => ((L0.κ id).bind zR.blk).getD 0) := zC9.mono (fun id css B _ ⟨jd, q1, q2, ⟨D0, q3, q3b, _⟩, q4⟩ => by
  obtain ⟨C, D1, B', p1, p2, p3, p3b⟩ := q1
  rw [q3] at p3; cases p3
  rw [q3b] at p3b; cases p3b
  obtain ⟨cells, D, p4, p5, p6⟩ := hlbox jd B q2 ⟨_, q3, q3b⟩
  have hown : qN L B := ⟨jd, _, D, p4, rfl, p5, p6⟩
  refine ⟨⟨C, p1, p2⟩, q4, fun ho => ?_, ?_⟩
  ·rcases g7 B (n7 B ho) with h | ⟨kd, hkd, D', p7, p8⟩
   ·exact hnotO B hown h
   ·obtain ⟨o, p9, p10⟩ := zGq hK kd hkd
    refine e3.disj jd kd _ o D D' B (fun e => ?_) p4 p9 rfl p10 p5 p7 p6 p8
    exact qV6 hK kd hkd true cells (by rw [← e]; exact p4)
  ·rw [n3, g3]; exact hnotF B hown) hback
 have hBs : (js.map fun id => ((L0.κ id).bind zR.blk).getD 0).Nodup := qWz c3 (zM7 hndi) hboxL
 obtain ⟨Mf, r1, r2, r3, r4, r5, r6, r7⟩ := yBf n5 hback2 hBs
 have st2 : yO M1 Mf := by
  have hown : ∀ b, qN Mf b → b < M1.H.size → qN M1 b := fun b hb hlt => by
   rcases r7 b hb with hb | hb
   ·rcases g7 b (n7 b hb) with h | ⟨id, hid, C, hC, hbC⟩
    ·exact (f3 b h).1
    ·obtain ⟨o, ho, hoo⟩ := zGq hK id hid
     exact (hlow b ⟨id, o, C, ho, hoo, hC, hbC⟩ hlt).own howned
   ·exact (hlow b (hBown b hb) hlt).own howned
  have hg1 : Mf.H = (M1.overX L mine).H := r1.trans (n1.trans g1)
  refine ⟨hx6.trans ?_ r6, ?_, fun b hb hn => ?_, hown, fun b hb hlt => ?_, fun b hb hlt => ?_⟩
  ·rw [n1, g1]; exact f2.size
  ·rw [hg1]; exact f2.size
  ·rw [hg1]; exact f2.frame b hb hn
  ·rw [r2, n2, g2] at hb; exact f2.Gb b hb hlt
  ·rw [r3, n3, g3] at hb; exact f2.Fb b hb hlt
 have hlen2 : (yV bs ++ zBq (nm + (rs.cells ++ os.flatten).length) ns).length = (zF2 os (G.drop rs.cells.length)).length := by
  rw [yGm, hsameG.length, k2]
 refine ⟨Mf, ⟨c6, c7, c8, ?_, ?_, r5, a4.trans st2⟩, ?_⟩
 ·rw [r1, n1, g1]; show L.H = _; rw [e1, c2]
 ·rw [r4, n4, g4]
  show _ = qE M.h (u0 ++ (zC7 (wB (as.flatMap AX.cells) cs) ++ ((zCz nm (rs.cells ++ os.flatten) dx).2 ++ zNd (yV bs ++ zBq (nm + (rs.cells ++ os.flatten).length) ns) (zF2 os ((zGc ((rs.cells ++ os.flatten).map RC.lnk) (yV bs ++ zBq (nm + (rs.cells ++ os.flatten).length) ns) (zCz nm (rs.cells ++ os.flatten) dx).1).drop rs.cells.length)))))
  rw [← hG, zBj, zBj, zBj, ← a2]
  refine qW2 hlen2 fun m hm => ?_
  rw [List.mem_append, not_or] at hm
  rw [zG1, if_neg hm.2]
  refine zIn ?_
  show qE M1.h (zC7 mine) m = _
  rw [zG1, zG1, ← hmine]
  simp [hm.1]
 ·show zT Mf (rs.mk ((zGc ((rs.cells ++ os.flatten).map RC.lnk) (yV bs ++ zBq (nm + (rs.cells ++ os.flatten).length) ns) (zCz nm (rs.cells ++ os.flatten) dx).1).take rs.cells.length)) rv
  rw [← hG]
  exact d2 Mf _ (hgr.mono fun _ _ h => h.ext r6)
theorem qS9 {P : Program} {na : Nat} {f : FuncId} (hcall : ∀ vs w, (callFunc f vs).run P w = .ok (.enter f vs) w)
  {as : List AX} {rs : RS} {os : List (List RC)} {ns : Nat} {X : Type} {S : XD as → Option X} {pack : X → RL (rs.cells ++ os.flatten)} {unpack : RL (rs.cells ++ os.flatten) → X} (hpu : ∀ d, pack (unpack d) = d) (hna : zE7 as na = true)
  (hcalls : ∀ d x, S d = some x → ∀ (M : zA) (w : World) (vs : Array Value), M.h = (zA9 as d).2 → M.H = w.heap → Ok M → zO (zT M) (zA9 as d).1 vs.toList → Calls P f vs w fun
   | .returned rv, w' => ∃ (v : zD) (st : St), zPs as rs os ns unpack v st = some x ∧ zW6 w na (as.any AX.isChn) M vs rv w' v st
   | _, _ => False)
  {nm : Nat} {args : List zD} {h : Hp} {v : zD} {u : zX} (hy : yD (zEj as rs os ns S pack nm args h) v u) : zFk P f args h v u := by
 intro M w vs hh hH ok hv
 refine .inl ⟨hcall vs w, ?_⟩
 unfold zEj at hy
 split at hy
 ·exact hy.elim
 rename_i u0 io rows d he
 obtain ⟨x, hx, rfl, rfl⟩ := hy
 obtain ⟨Ml, b1, b2, b3, b4, b5⟩ := qZy hna he M w vs hh hH ok hv
 refine Calls.mono (hcalls d x hx Ml w vs b1 b2 b3 b4) fun e w' hl => ?_
 cases e with
 | panicked _ => exact hl.elim
 | outgrown => exact hl.elim
 | returned rv =>
  obtain ⟨v0, st, hK, hl⟩ := hl
  have hK : zF7 st as rs os ns v0 = some (pack x) := by
   unfold zPs at hK
   split at hK
   ·rename_i d' hd'
    cases hK
    rw [hd', hpu]
   ·cases hK
  exact b5 rv w' v0 st hl rs os ns (pack x) hK (Nat.le_refl _)
theorem yQd {P : Program} {na : Nat} {f : FuncId} (hcall : ∀ vs w, (callFunc f vs).run P w = .ok (.enter f vs) w)
  {as : List AX} {rs rs2 : RS} {os os2 : List (List RC)} {ns ns2 : Nat} {X Y : Type} {S : XD as → Option (X ⊕ Y)} {pk : X → RL (rs.cells ++ os.flatten)} {up : RL (rs.cells ++ os.flatten) → X} {pk2 : Y → RL (rs2.cells ++ os2.flatten)} {up2 : RL (rs2.cells ++ os2.flatten) → Y}
  (hpu : ∀ d, pk (up d) = d) (hpu2 : ∀ d, pk2 (up2 d) = d) (hna : zE7 as na = true)
  (hcalls : ∀ d x, S d = some x → ∀ (M : zA) (w : World) (vs : Array Value), M.h = (zA9 as d).2 → M.H = w.heap → Ok M → zO (zT M) (zA9 as d).1 vs.toList → Calls P f vs w fun
   | .returned rv, w' => ∃ (v : zD) (st : St), zYe as rs os ns rs2 os2 ns2 up up2 v st = some x ∧ zW6 w na (as.any AX.isChn) M vs rv w' v st
   | _, _ => False)
  {nm : Nat} {args : List zD} {h : Hp} {v : zD} {u : zX} (hy : yD (zEz as rs os ns rs2 os2 ns2 S pk pk2 nm args h) v u) : zFk P f args h v u := by
 intro M w vs hh hH ok hv
 refine .inl ⟨hcall vs w, ?_⟩
 unfold zEz at hy
 split at hy
 ·exact hy.elim
 rename_i u0 io rows d he
 obtain ⟨Ml, b1, b2, b3, b4, b5⟩ := qZy hna he M w vs hh hH ok hv
 rcases hy with ⟨x, hx, rfl, rfl⟩ | ⟨x, hx, rfl, rfl⟩ <;>
 ·refine Calls.mono (hcalls d _ hx Ml w vs b1 b2 b3 b4) fun e w' hl => ?_
  cases e with
  | panicked _ => exact hl.elim
  | outgrown => exact hl.elim
  | returned rv =>
   obtain ⟨v0, st, hK, hl⟩ := hl
   unfold zYe at hK
   split at hK
   ·rename_i d' hd'
    cases hK <;> exact b5 rv w' v0 st hl rs os ns _ (by rw [hd', hpu]) (by omega)
   ·split at hK
    ·rename_i d' hd'
     cases hK <;> exact b5 rv w' v0 st hl rs2 os2 ns2 _ (by rw [hd', hpu2]) (by omega)
    ·cases hK
theorem qTn {E : qA} (hE : jI E) (hS : zAt E.sums) (hm : E.P.follows .mixedOrders = true) {A : zZ} {k pre na : Nat} {f : FuncId} {fn : Func} (hf : E.P.funcs[f]? = some fn) (hL : ∀ c, fn.body = some c → vM E.P A pre na fn.ntmps c) {chn : Bool} (hch : (!chn || A.loops.isEmpty) = true)
  {R : Type} {K : zD → St → Option R} {x : R} {args : List zD} {h : Hp} (hev : evF E A k pre na fn args h K = some x) {M : zA} {w : World} {vs : Array Value} (h1 : M.h = h) (h2 : M.H = w.heap) (h3 : Ok M) (h4 : zO (zT M) args vs.toList) :
  Calls E.P f vs w fun
   | .returned rv, w' => ∃ (v : zD) (st : St), K v st = some x ∧ zW6 w na chn M vs rv w' v st
   | _, _ => False := by
 refine Calls.mono (qLn hE hS hm hf hL hev h1 h2 h3 h4) fun e w' hl => ?_
 cases e with
 | panicked _ => exact hl.elim
 | outgrown => exact hl.elim
 | returned rv =>
  obtain ⟨M', v, st, a1, a2, a3, a4, a5, a6, a7, a8, a9, a10, a11⟩ := hl
  refine ⟨v, st, a1, M', a2, a3, a4, a5, fun hc => a6 ?_, a7, a8, a9, a10, a11⟩
  subst hc
  exact List.isEmpty_iff.1 hch
theorem yU8 {E : qA} (hE : jI E) (hS : zAt E.sums) (hm : E.P.follows .mixedOrders = true) {A : zZ} {k pre na : Nat} {f : FuncId} {fn : Func} (hf : E.P.funcs[f]? = some fn) (hL : ∀ c, fn.body = some c → vM E.P A pre na fn.ntmps c) (hcall : ∀ vs w, (callFunc f vs).run E.P w = .ok (.enter f vs) w)
  {as : List AX} {rs : RS} {os : List (List RC)} {ns : Nat} {X : Type} {S : XD as → Option X} {pack : X → RL (rs.cells ++ os.flatten)} {unpack : RL (rs.cells ++ os.flatten) → X} (hpu : ∀ d, pack (unpack d) = d) (hna : zE7 as na = true) (hch : (!as.any AX.isChn || A.loops.isEmpty) = true)
  (hev : ∀ d, evF E A k pre na fn (zA9 as d).1 (zA9 as d).2 (zPs as rs os ns unpack) = S d)
  {nm : Nat} {args : List zD} {h : Hp} {v : zD} {u : zX} (hy : yD (zEj as rs os ns S pack nm args h) v u) : zFk E.P f args h v u :=
 qS9 hcall hpu hna (fun d x hx M w vs h1 h2 h3 h4 => qTn hE hS hm hf hL hch ((hev d).trans hx) h1 h2 h3 h4) hy
theorem vFm {E : qA} (hE : jI E) (hS : zAt E.sums) (hm : E.P.follows .mixedOrders = true) {A : zZ} {k pre na : Nat} {f : FuncId} {fn : Func} (hf : E.P.funcs[f]? = some fn) (hL : ∀ c, fn.body = some c → vM E.P A pre na fn.ntmps c) (hcall : ∀ vs w, (callFunc f vs).run E.P w = .ok (.enter f vs) w)
  {as : List AX} {rs rs2 : RS} {os os2 : List (List RC)} {ns ns2 : Nat} {X Y : Type} {S : XD as → Option (X ⊕ Y)} {pk : X → RL (rs.cells ++ os.flatten)} {up : RL (rs.cells ++ os.flatten) → X} {pk2 : Y → RL (rs2.cells ++ os2.flatten)} {up2 : RL (rs2.cells ++ os2.flatten) → Y}
  (hpu : ∀ d, pk (up d) = d) (hpu2 : ∀ d, pk2 (up2 d) = d) (hna : zE7 as na = true) (hch : (!as.any AX.isChn || A.loops.isEmpty) = true)
  (hev : ∀ d, evF E A k pre na fn (zA9 as d).1 (zA9 as d).2 (zYe as rs os ns rs2 os2 ns2 up up2) = S d)
  {nm : Nat} {args : List zD} {h : Hp} {v : zD} {u : zX} (hy : yD (zEz as rs os ns rs2 os2 ns2 S pk pk2 nm args h) v u) : zFk E.P f args h v u :=
 yQd hcall hpu hpu2 hna (fun d x hx M w vs h1 h2 h3 h4 => qTn hE hS hm hf hL hch ((hev d).trans hx) h1 h2 h3 h4) hy
section
variable {h h' : Hp}
theorem yZw {x : XC} {c : zG} (hh : ∀ id ∈ yU c, h id = h' id) : inX h x c = inX h' x c := by
 unfold inX
 split
 ·exact qYw hh
 ·rename_i id; rw [hh id (by simp [yU])]
 ·rename_i id; rw [hh id (by simp [yU])]
 ·rename_i id; rw [hh id (by simp [yU])]
 ·rfl
 ·rfl
theorem qZc : ∀ {l : List XC} {cs : List zG}, (∀ id ∈ cs.flatMap yU, h id = h' id) → zDv h l cs = zDv h' l cs
 | [], [], _ => rfl
 | [], _ :: _, _ => rfl
 | _ :: _, [], _ => rfl
 | p :: l, c :: cs, hh => by
  simp only [List.flatMap_cons, List.mem_append] at hh
  unfold zDv
  rw [yZw fun id hi => hh id (.inl hi), qZc fun id hi => hh id (.inr hi)]
theorem yRy {ls : List (Bool × List XC)} : zAy h ls [] = zAy h' ls [] := by
 cases ls <;> rfl
theorem vF1 {s : AX} {a : zD} (hb : yQ a = false) : s.get h a = s.get h' a := by
 unfold AX.get
 cases s with
 | c p => cases a <;> rfl
 | agg l => cases a <;> rfl
 | ptr io l =>
  cases a with
  | c x => cases x <;> first | rfl | (exact absurd hb (by simp [yQ]))
  | _ => rfl
 | fn f caps =>
  cases a with
  | c x => cases x with
   | fn g ids =>
    cases ids with
    | nil => dsimp only; rw [yRy]
    | cons _ _ => exact absurd hb (by simp [yQ])
   | _ => rfl
  | _ => rfl
 | chn ls =>
  cases a with
  | c x => cases x <;> first | rfl | (exact absurd hb (by simp [yQ]))
  | _ => rfl
theorem yQ0 {s : AX} {a : zD} {cs : List zG} {bs : List (Bool × Nat)} (hb : yQ a = false) (e : s.get h a = some (cs, bs)) : ∀ id ∈ cs.flatMap yU, id ∈ yK a := by
 unfold AX.get at e
 split at e
 ·cases e; intro id hid; simp only [List.flatMap_cons, List.flatMap_nil, List.append_nil] at hid; exact hid
 ·obtain ⟨_, e⟩ := yX e
  cases e; exact fun id hid => hid
 ·exact absurd hb (by simp [yQ])
 ·rename_i f caps g ids
  obtain ⟨_, e⟩ := yX e
  cases ids with
  | nil => cases caps with
   | nil => cases e; intro id hid; simp at hid
   | cons _ _ => cases e
  | cons _ _ => exact absurd hb (by simp [yQ])
 ·exact absurd hb (by simp [yQ])
 ·cases e
theorem qRq : ∀ {l : List AX} {as : List zD}, as.any yQ = false → zA8 h l as = zA8 h' l as
 | [], [], _ => rfl
 | [], _ :: _, _ => rfl
 | _ :: _, [], _ => rfl
 | s :: l, a :: as, hb => by
  simp only [List.any_cons, Bool.or_eq_false_iff] at hb
  unfold zA8
  rw [vF1 (h := h) (h' := h') hb.1, qRq hb.2]
theorem yL3 : ∀ {l : List AX} {as : List zD} {cs : List zG} {bs : List (Bool × Nat)}, as.any yQ = false → zA8 h l as = some (cs, bs) → ∀ id ∈ cs.flatMap yU, id ∈ as.flatMap yK
 | [], [], cs, bs, _, e => by cases e; intro id hid; simp at hid
 | [], _ :: _, _, _, _, e => by cases e
 | _ :: _, [], _, _, _, e => by cases e
 | s :: l, a :: as, cs, bs, hb, e => by
  simp only [List.any_cons, Bool.or_eq_false_iff] at hb
  unfold zA8 at e
  split at e
  ·rename_i c1 b1 c2 b2 e1 e2
   cases e
   intro id hid
   rw [List.flatMap_append, List.mem_append] at hid
   rw [List.flatMap_cons, List.mem_append]
   rcases hid with hid | hid
   ·exact .inl (yQ0 hb.1 e1 id hid)
   ·exact .inr (yL3 hb.2 e2 id hid)
  ·cases e
theorem vAe {s : AX} {a : zD} (hh : ∀ id ∈ yK a, h id = h' id) : zGk h s a = zGk h' s a := by
 unfold zGk
 split
 ·rename_i p x
  have := zMu (h := h) (h' := h') (l := [p.isKept]) (cs := [x]) (by rw [zMa]; exact hh)
  simp only [this]
 ·rename_i l xs
  have := zMu (h := h) (h' := h') (l := l.map PC.isKept) (cs := xs) hh
  simp only [this]
 ·rfl
theorem vBh {s : AX} {a a' : zD} {u : zX} (e : zGk h s a = some (a', u)) : (∀ id ∈ yK a', id ∈ yK a) ∧ (yQ a = false → yQ a' = false) := by
 unfold zGk at e
 split at e
 ·rename_i p x
  split at e
  ·rename_i y u1 e1
   cases e
   refine ⟨fun id hid => by have := zKp e1 id (by rw [zMa]; exact hid); rwa [zMa] at this, fun hb => ?_⟩
   cases hk : p.isKept with
   | false => rw [hk] at e1; cases e1; exact hb
   | true =>
    rw [hk] at e1
    unfold jO at e1
    split at e1
    ·rename_i c1 u2 cs1 us1 e2 e3
     cases e3
     cases e1
     cases hy : yQ (.c y) with
     | false => rfl
     | true => rw [(qLg e2).2 hy] at hb; cases hb
    ·cases e1
  ·cases e
 ·rename_i l xs
  split at e
  ·rename_i ys u1 e1
   cases e
   exact ⟨zKp e1, fun _ => rfl⟩
  ·cases e
 ·cases e; exact ⟨fun _ h => h, fun h => h⟩
theorem yLn : ∀ {l : List AX} {as : List zD}, (∀ id ∈ as.flatMap yK, h id = h' id) → zEg h l as = zEg h' l as
 | [], as, _ => by cases as <;> rfl
 | _ :: _, [], _ => rfl
 | s :: l, a :: as, hh => by
  simp only [List.flatMap_cons, List.mem_append] at hh
  unfold zEg
  rw [vAe fun id hi => hh id (.inl hi), yLn fun id hi => hh id (.inr hi)]
theorem qWg : ∀ {l : List AX} {as as' : List zD} {u : zX}, zEg h l as = some (as', u) → (∀ id ∈ as'.flatMap yK, id ∈ as.flatMap yK) ∧ (as.any yQ = false → as'.any yQ = false)
 | [], as, as', u, e => by cases as <;> cases e <;> exact ⟨fun _ h => h, fun h => h⟩
 | s :: l, [], as', u, e => by cases e; exact ⟨fun _ h => h, fun h => h⟩
 | s :: l, a :: as, as', u, e => by
  unfold zEg at e
  split at e
  ·rename_i a1 u1 as1 us1 e1 e2
   cases e
   obtain ⟨k1, k2⟩ := vBh e1
   obtain ⟨k3, k4⟩ := qWg e2
   refine ⟨fun id hid => ?_, fun hb => ?_⟩
   ·rw [List.flatMap_cons, List.mem_append] at hid ⊢
    exact hid.imp (k1 id) (k3 id)
   ·simp only [List.any_cons, Bool.or_eq_false_iff] at hb ⊢
    exact ⟨k2 hb.1, k4 hb.2⟩
  ·cases e
theorem yMr {as : List AX} {nm n : Nat} {args : List zD} (h1 : args.any yQ = false → ∀ id, (id ∈ args.flatMap yK ∨ zCj nm id = true) → h id = h' id) (h2 : args.any yQ = true → h = h') : zIb as nm n args h = zIb as nm n args h' := by
 cases hb : args.any yQ with
 | true => rw [h2 hb]
 | false =>
  have hh := h1 hb
  unfold zIb
  rw [yLn (h := h) (h' := h') fun id hid => hh id (.inl hid)]
  cases e : zEg h' as args with
  | none => rfl
  | some p =>
   obtain ⟨args', u⟩ := p
   obtain ⟨k1, k2⟩ := qWg e
   dsimp only
   rw [qRq (h := qE h u) (h' := qE h' u) (k2 hb)]
   cases e2 : zA8 (qE h' u) as args' with
   | none => rfl
   | some q =>
    obtain ⟨cs, bs⟩ := q
    dsimp only
    rw [qZc (h := qE h u) (h' := qE h' u) fun id hid => zIn (hh id (.inl (k1 id (yL3 (k2 hb) e2 id hid))))]
    cases zDv (qE h' u) (as.flatMap AX.cells) cs with
    | none => rfl
    | some d =>
     dsimp only
     cases hle : Nat.ble n 100 with
     | false => simp
     | true =>
      have hle := Nat.le_of_ble_eq_true hle
      rw [qIt (h := h) (h' := h') fun i hi => hh _ (.inr (by
       simp only [zCj, Bool.and_eq_true]
       exact ⟨Nat.ble_eq_true_of_le (by omega), by simp [Nat.blt_eq]; omega⟩))]
end
theorem yJq {as : List AX} {rs : RS} {os : List (List RC)} {ns : Nat} {X : Type} {S : Nat → XD as → Option X} {pack : X → RL (rs.cells ++ os.flatten)} : zP6 fun k nm args h => zEj as rs os ns (S k) pack nm args h := by
 intro k nm args h h' h1 h2
 show zEj as rs os ns (S k) pack nm args h = zEj as rs os ns (S k) pack nm args h'
 unfold zEj
 rw [yMr h1 h2]
theorem yVu {as : List AX} {rs rs2 : RS} {os os2 : List (List RC)} {ns ns2 : Nat} {X Y : Type} {S : Nat → XD as → Option (X ⊕ Y)} {pk : X → RL (rs.cells ++ os.flatten)} {pk2 : Y → RL (rs2.cells ++ os2.flatten)} : zP6 fun k nm args h => zEz as rs os ns rs2 os2 ns2 (S k) pk pk2 nm args h := by
 intro k nm args h h' h1 h2
 show zEz as rs os ns rs2 os2 ns2 (S k) pk pk2 nm args h = zEz as rs os ns rs2 os2 ns2 (S k) pk pk2 nm args h'
 unfold zEz
 rw [yMr h1 h2]
structure zI (P : Program) (r : Nat × zH) : Prop where
 ok : yHm P r
 loc : zP6 r.2
def Fns (P : Program) : List (Nat × zH) → Prop
 | [] => True
 | r :: l => zI P r ∧ Fns P l
theorem Fns.all {P : Program} : ∀ {l : List (Nat × zH)}, Fns P l → ∀ r ∈ l, zI P r
 | [], _, _, h => by cases h
 | a :: l, h, r, hr => by
  rcases List.mem_cons.1 hr with rfl | hr
  ·exact h.1
  ·exact Fns.all h.2 r hr
structure qM (E : qA) : Prop where
 ok : jI E
 loc : zAt E.sums
 ord : E.P.follows .mixedOrders = true
theorem vB5 {P : Program} {l : List (Nat × zH)} {eqT : TypeId → Bool} (he : zSz P eqT) (hm : P.follows .mixedOrders = true) (h : Fns P l) : qM ⟨P, eqT, qP l⟩ :=
 ⟨⟨he, yAb fun r hr => (h.all r hr).ok⟩, qTy fun r hr => (h.all r hr).loc, hm⟩
theorem zL {P : Program} {l : List (Nat × zH)} (hm : P.follows .mixedOrders = true) (h : Fns P l) : qM ⟨P, fun _ => false, qP l⟩ := vB5 yXe hm h
theorem loops1 {P : Program} {A : zZ} {pre na nt : Nat} {c : Code} {L : qG} (h : qF P pre na nt (qC c 0) L) (hn : (zCg c).length = 1 := by kernel_rfl) (hl : zG0 A (qC c 0) = some L := by kernel_rfl) : vM P A pre na nt c :=
 zF6 hn fun i hi => by
  obtain rfl : i = 0 := by omega
  exact ⟨L, hl, h⟩
theorem zJ {P : Program} {A : zZ} {pre na nt : Nat} {c : Code} (hn : (zCg c).length = 0 := by kernel_rfl) : vM P A pre na nt c := vEi hn
def yHg (E : qA) (A : zZ) (na nt : Nat) (b : Code) (ins : List zM) (outs : List (Ex × zM)) {X Y : Type} (toX : zCo outs → X) (c : Y → InD ins → Option X) (bf : Nat → Y → Y) : Prop :=
 ∀ k rec d, c (bf k rec) d = zVn (1000 + zAc) ins d fun st => evC E A k 1000 na nt b st (yCa 1000 ins outs toX (c rec))
abbrev vA5 (X : Type) := Nat → X → (R : Type) → (Ex → St → Option R) → Option R
theorem yVa {E : qA} {A : zZ} {na nt : Nat} {b : Code} {ins : List zM} {outs : List (Ex × zM)} {X Y : Type} {toX : zCo outs → X} {c : Y → InD ins → Option X} {bf : Nat → Y → Y} (hE : qM E) (hs : yHg E A na nt b ins outs toX c bf) (f : Nat → Nat → Y) (elim : vA5 X)
  (hX : ∀ o R K, elim (1000 + zAc) (toX o) R K = zLh (1000 + zAc) outs o K) (hL : vM E.P A 1000 na nt b) (h0 : ∀ k d, c (f k 0) d = none := by intros; rfl) (h1 : ∀ k n, f k (n + 1) = bf k (f k n) := by intros; rfl) :
  qF E.P 1000 na nt b ⟨ins, outs, X, fun k d => c (f k k) d, elim⟩ :=
 vHq hE.ok hE.loc hE.ord hL toX elim hX (fun k n d => c (f k n) d) h0 (fun k n d => by rw [h1]; exact hs k (f k n) d)
def qFk (E : qA) (A : zZ) (na : Nat) (fn : Func) (as : List AS) (rs : RS) {X : Type} (up : RL rs.cells → X) (S : Nat → AD as → Option X) : Prop :=
 ∀ k d, evF E A k 1000 na fn (zDe as d).1 (zDe as d).2 (zB4 rs up) = S k d
def yHk (E : qA) (A : zZ) (na : Nat) (fn : Func) (as : List AX) (rs : RS) (os : List (List RC)) (ns : Nat) {X : Type} (up : RL (rs.cells ++ os.flatten) → X) (S : Nat → XD as → Option X) : Prop :=
 ∀ k d, evF E A k 1000 na fn (zA9 as d).1 (zA9 as d).2 (zPs as rs os ns up) = S k d
def yKv (E : qA) (A : zZ) (na : Nat) (fn : Func) (as : List AX) (rs : RS) (os : List (List RC)) (ns : Nat) (rs2 : RS) (os2 : List (List RC)) (ns2 : Nat) {X Y : Type} (up : RL (rs.cells ++ os.flatten) → X) (up2 : RL (rs2.cells ++ os2.flatten) → Y) (S : Nat → XD as → Option (X ⊕ Y)) : Prop :=
 ∀ k d, evF E A k 1000 na fn (zA9 as d).1 (zA9 as d).2 (zYe as rs os ns rs2 os2 ns2 up up2) = S k d
theorem yTq {E : qA} {A : zZ} {na f : Nat} {fn : Func} {as : List AS} {rs : RS} {X : Type} {S : Nat → AD as → Option X} {pack : X → RL rs.cells} {unpack : RL rs.cells → X} (hE : qM E) (hev : qFk E A na fn as rs unpack S) (hL : vM E.P A 1000 na fn.ntmps (qD fn))
  (hf : E.P.funcs[f]? = some fn := by kernel_rfl) (hb : fn.body.isNone = false := by kernel_rfl) (hn : (fn.name == "runtime.NumGoroutine") = false := by kernel_rfl) (hpu : ∀ d, pack (unpack d) = d := by intro d; rfl) :
  zI E.P (f, fun k nm args h => zC2 as rs (S k) pack nm args h) :=
 ⟨fun k _ _ _ _ _ hy => vCg hE.ok hE.loc hE.ord hf (body_loops hL) (zOd hf hb hn) hpu (hev k) hy, qQv⟩
theorem yTc {E : qA} {A : zZ} {na f : Nat} {fn : Func} {as : List AX} {rs : RS} {os : List (List RC)} {ns : Nat} {X : Type} {S : Nat → XD as → Option X} {pack : X → RL (rs.cells ++ os.flatten)} {unpack : RL (rs.cells ++ os.flatten) → X} (hE : qM E) (hev : yHk E A na fn as rs os ns unpack S)
  (hL : vM E.P A 1000 na fn.ntmps (qD fn)) (hf : E.P.funcs[f]? = some fn := by kernel_rfl) (hb : fn.body.isNone = false := by kernel_rfl) (hn : (fn.name == "runtime.NumGoroutine") = false := by kernel_rfl) (hna : zE7 as na = true := by kernel_rfl) (hch : (!as.any AX.isChn || A.loops.isEmpty) = true := by kernel_rfl) (hpu : ∀ d, pack (unpack d) = d := by intro d; rfl) :
  zI E.P (f, fun k nm args h => zEj as rs os ns (S k) pack nm args h) :=
 ⟨fun k _ _ _ _ _ hy => yU8 hE.ok hE.loc hE.ord hf (body_loops hL) (zOd hf hb hn) hpu hna hch (hev k) hy, yJq⟩
theorem vBq {E : qA} {A : zZ} {na f : Nat} {fn : Func} {as : List AX} {rs rs2 : RS} {os os2 : List (List RC)} {ns ns2 : Nat} {X Y : Type} {S : Nat → XD as → Option (X ⊕ Y)} {pk : X → RL (rs.cells ++ os.flatten)} {up : RL (rs.cells ++ os.flatten) → X} {pk2 : Y → RL (rs2.cells ++ os2.flatten)} {up2 : RL (rs2.cells ++ os2.flatten) → Y} (hE : qM E)
  (hev : yKv E A na fn as rs os ns rs2 os2 ns2 up up2 S)
  (hL : vM E.P A 1000 na fn.ntmps (qD fn)) (hf : E.P.funcs[f]? = some fn := by kernel_rfl) (hb : fn.body.isNone = false := by kernel_rfl) (hn : (fn.name == "runtime.NumGoroutine") = false := by kernel_rfl) (hna : zE7 as na = true := by kernel_rfl) (hch : (!as.any AX.isChn || A.loops.isEmpty) = true := by kernel_rfl) (hpu : ∀ d, pk (up d) = d := by intro d; rfl) (hpu2 : ∀ d, pk2 (up2 d) = d := by intro d; rfl) :
  zI E.P (f, fun k nm args h => zEz as rs os ns rs2 os2 ns2 (S k) pk pk2 nm args h) :=
 ⟨fun k _ _ _ _ _ hy => vFm hE.ok hE.loc hE.ord hf (body_loops hL) (zOd hf hb hn) hpu hpu2 hna hch (hev k) hy, yVu⟩
theorem yYn {E : qA} {A : zZ} {na f : Nat} {fn : Func} {sh : Bool} {t : Ty} {rs : RS} {X : Type} {S : Nat → List t.den → Option X} {pack : X → RL rs.cells} {unpack : RL rs.cells → X} (hE : qM E) (hnil : ∀ k, evF E A k 1000 na fn [.c .nsl] (zBo []) (zB4 rs unpack) = S k [])
  (hev : ∀ k xs, evF E A k 1000 na fn [.c (.nfl sh t xs)] (zBo []) (zB4 rs unpack) = S k xs) (hL : vM E.P A 1000 na fn.ntmps (qD fn)) (hf : E.P.funcs[f]? = some fn := by kernel_rfl) (hb : fn.body.isNone = false := by kernel_rfl) (hn : (fn.name == "runtime.NumGoroutine") = false := by kernel_rfl) (hpu : ∀ d, pack (unpack d) = d := by intro d; rfl) :
  zI E.P (f, fun k nm args h => zC2 [.c (.dat sh t)] rs (fun d => S k d.1) pack nm args h) :=
 ⟨fun k _ _ _ _ _ hy => yQ4 hE.ok hE.loc hE.ord hf (body_loops hL) (zOd hf hb hn) hpu (fun x hx => (hnil k).trans hx) (fun xs x hx => (hev k xs).trans hx) hy, qQv⟩
def zIr (k : Nat) (a b c : Int) : Option (Int × Int) :=
 bif decide (c = 0) then some (Int.ofNat ((a.toNat + b.toNat + 0) % 18446744073709551616), Int.ofNat ((a.toNat + b.toNat + 0) / 18446744073709551616)) else none
def zWx : zH := fun k nm args h => match args with
 | [.c (.int .u64 a), .c (.int .u64 b), .c (.int .u64 c)] => .call (Int × Int) (zIr k a b c) (fun r => (.tup [(false, [.int .u64 r.1]), (false, [.int .u64 r.2])], []))
 | _ => .stuck
theorem yQ7 {P : Program} (a b : Int) (w : World) :
  (add64Entry #[.int .u64 a, .int .u64 b, .int .u64 0]).run P w = .ok (.tuple #[.int .u64 (Int.ofNat ((a.toNat + b.toNat + 0) % 18446744073709551616)), .int .u64 (Int.ofNat ((a.toNat + b.toNat + 0) / 18446744073709551616))]) w := rfl
theorem vGv {P : Program} {f : Nat} {fn : Func} (hf : P.funcs[f]? = some fn := by kernel_rfl) (hname : (fn.name == "runtime.NumGoroutine") = false := by kernel_rfl) (hb : fn.body.isNone = true := by kernel_rfl)
  (hn : Extern.findNext fn = none := by kernel_rfl) (he : Extern.find fn = some add64Entry := by kernel_rfl) :
  zI P (f, zWx) := by
 refine ⟨fun k nm args h v u hy => ?_, fun _ _ _ _ _ _ _ => rfl⟩
 intro M w vs hh hH ok hv
 refine .inr ?_
 replace hy : yD (zWx k nm args h) v u := hy
 unfold zWx at hy
 split at hy
 ·rename_i a b c
  obtain ⟨x, hx, rfl, rfl⟩ := hy
  match hl : vs.toList, hv with
  | [v1, v2, v3], hv =>
   obtain ⟨h1, h2, h3, _⟩ := hv
   cases h1; cases h2; cases h3
   obtain rfl : vs = #[.int .u64 a, .int .u64 b, .int .u64 c] := by cases vs; simpa using hl
   unfold zIr at hx
   obtain ⟨hc, hx⟩ := yX hx
   cases hx
   have hc : c = 0 := by simpa using hc
   subst hc
   refine ⟨.tuple #[.int .u64 (Int.ofNat ((a.toNat + b.toNat + 0) % 18446744073709551616)), .int .u64 (Int.ofNat ((a.toNat + b.toNat + 0) / 18446744073709551616))], w, M, ?_, ⟨rfl, rfl, rfl, hH, rfl, ok, .refl M⟩, ?_⟩
   ·rw [run_callFunc_extern hf hname hb hn he, yQ7 a b w]
    rfl
   ·exact ⟨#[.int .u64 (Int.ofNat ((a.toNat + b.toNat + 0) % 18446744073709551616)), .int .u64 (Int.ofNat ((a.toNat + b.toNat + 0) / 18446744073709551616))], rfl, rfl, rfl, trivial⟩
 ·exact hy.elim
def zP (f : Nat) (as : List AS) (rs : RS) {X : Type} (s : Nat → AD as → Option X) (pk : X → RL rs.cells) : Nat × zH := (f, fun k nm args h => zC2 as rs (s k) pk nm args h)
def yS (f : Nat) (as : List AX) (rs : RS) (os : List (List RC)) (ns : Nat) {X : Type} (s : Nat → XD as → Option X) (pk : X → RL (rs.cells ++ os.flatten)) : Nat × zH := (f, fun k nm args h => zEj as rs os ns (s k) pk nm args h)
def zX9 (f : Nat) (as : List AX) (rs : RS) (os : List (List RC)) (ns : Nat) (rs2 : RS) (os2 : List (List RC)) (ns2 : Nat) {X Y : Type} (s : Nat → XD as → Option (X ⊕ Y)) (pk : X → RL (rs.cells ++ os.flatten)) (pk2 : Y → RL (rs2.cells ++ os2.flatten)) : Nat × zH := (f, fun k nm args h => zEz as rs os ns rs2 os2 ns2 (s k) pk pk2 nm args h)
theorem fA {E : qA} (fn : Func) (A : zZ) {f : Nat} {as : List AS} {rs : RS} {X : Type} {s : Nat → AD as → Option X} {pk : X → RL rs.cells} (up : RL rs.cells → X) (hE : qM E) (hL : vM E.P A 1000 0 fn.ntmps (qD fn))
  (hev : qFk E A 0 fn as rs up s := by intro k d; kernel_rfl)
  (hf : E.P.funcs[f]? = some fn := by kernel_rfl) (hb : fn.body.isNone = false := by kernel_rfl) (hn : (fn.name == "runtime.NumGoroutine") = false := by kernel_rfl) (hpu : ∀ d, pk (up d) = d := by intro d; rfl) :
  zI E.P (zP f as rs s pk) := yTq hE hev hL hf hb hn hpu
theorem fX {E : qA} (fn : Func) (A : zZ) (na : Nat) {f : Nat} {as : List AX} {rs : RS} {os : List (List RC)} {ns : Nat} {X : Type} {s : Nat → XD as → Option X} {pk : X → RL (rs.cells ++ os.flatten)} (up : RL (rs.cells ++ os.flatten) → X) (hE : qM E) (hL : vM E.P A 1000 na fn.ntmps (qD fn))
  (hev : yHk E A na fn as rs os ns up s := by intro k d; kernel_rfl)
  (hf : E.P.funcs[f]? = some fn := by kernel_rfl) (hb : fn.body.isNone = false := by kernel_rfl) (hn : (fn.name == "runtime.NumGoroutine") = false := by kernel_rfl) (hna : zE7 as na = true := by kernel_rfl) (hch : (!as.any AX.isChn || A.loops.isEmpty) = true := by kernel_rfl) (hpu : ∀ d, pk (up d) = d := by intro d; rfl) :
  zI E.P (yS f as rs os ns s pk) := yTc hE hev hL hf hb hn hna hch hpu
theorem fN {E : qA} (fn : Func) (A : zZ) (na : Nat) {f : Nat} {as : List AX} {rs rs2 : RS} {os os2 : List (List RC)} {ns ns2 : Nat} {X Y : Type} {s : Nat → XD as → Option (X ⊕ Y)} {pk : X → RL (rs.cells ++ os.flatten)} (up : RL (rs.cells ++ os.flatten) → X) {pk2 : Y → RL (rs2.cells ++ os2.flatten)} (up2 : RL (rs2.cells ++ os2.flatten) → Y) (hE : qM E) (hL : vM E.P A 1000 na fn.ntmps (qD fn))
  (hev : yKv E A na fn as rs os ns rs2 os2 ns2 up up2 s := by intro k d; kernel_rfl)
  (hf : E.P.funcs[f]? = some fn := by kernel_rfl) (hb : fn.body.isNone = false := by kernel_rfl) (hn : (fn.name == "runtime.NumGoroutine") = false := by kernel_rfl) (hna : zE7 as na = true := by kernel_rfl) (hch : (!as.any AX.isChn || A.loops.isEmpty) = true := by kernel_rfl) (hpu : ∀ d, pk (up d) = d := by intro d; rfl) (hpu2 : ∀ d, pk2 (up2 d) = d := by intro d; rfl) :
  zI E.P (zX9 f as rs os ns rs2 os2 ns2 s pk pk2) := vBq hE hev hL hf hb hn hna hch hpu hpu2
def zGo (f : Nat) (sh : Bool) (t : Ty) (r : RC) (s : Nat → List t.den → Option r.den) : Nat × zH :=
 (f, fun k nm args h => zC2 [.c (.dat sh t)] (.c r) (fun d => s k d.1) (fun x => (x, ())) nm args h)
theorem fC {E : qA} (fn : Func) (A : zZ) {f : Nat} {sh : Bool} {t : Ty} {r : RC} {s : Nat → List t.den → Option r.den} (hE : qM E) (hL : vM E.P A 1000 0 fn.ntmps (qD fn))
  (hnil : ∀ k, evF E A k 1000 0 fn [.c .nsl] (zBo []) (zB4 (.c r) (fun d => d.1)) = s k [] := by intro k; kernel_rfl)
  (hev : ∀ k xs, evF E A k 1000 0 fn [.c (.nfl sh t xs)] (zBo []) (zB4 (.c r) (fun d => d.1)) = s k xs := by intro k xs; kernel_rfl)
  (hf : E.P.funcs[f]? = some fn := by kernel_rfl) (hb : fn.body.isNone = false := by kernel_rfl) (hn : (fn.name == "runtime.NumGoroutine") = false := by kernel_rfl) : zI E.P (zGo f sh t r s) :=
 yYn (rs := .c r) (pack := fun x => (x, ())) (unpack := fun d => d.1) hE hnil hev hL hf hb hn
def vG {T : Type} (z : T) (b : T → T) : Nat → T
 | 0 => z
 | n + 1 => b (vG z b n)
theorem lp {E : qA} {A : zZ} {na nt : Nat} {b : Code} (L : qG) {Y : Type} (toX : zCo L.outs → L.X) (c : Y → InD L.ins → Option L.X) (f : Nat → Nat → Y) (bf : Nat → Y → Y) (hE : qM E) (hL : vM E.P A 1000 na nt b)
  (hs : yHg E A na nt b L.ins L.outs toX c bf := by intro k rec d; kernel_rfl)
  (hX : ∀ o R K, L.elim (1000 + zAc) (toX o) R K = zLh (1000 + zAc) L.outs o K := by intro o R K; first | rfl | (rcases o with o | o <;> rfl) | (rcases o with o | o | o <;> rfl) | (rcases o with o | o | o | o <;> rfl) | (rcases o with o | o | o | o | o <;> rfl))
  (h0 : ∀ k d, c (f k 0) d = none := by intros; rfl) (h1 : ∀ k n, f k (n + 1) = bf k (f k n) := by intros; rfl) (hf : (⟨L.ins, L.outs, L.X, fun k d => c (f k k) d, L.elim⟩ : qG) = L := by rfl) : qF E.P 1000 na nt b L := by
 rw [← hf]
 exact yVa hE hs f _ hX hL h0 h1
def ins {α : Type} (b : Nat) (xs : List α) (i : Int) (ys : List α) : Option (List α) :=
 bif decide (0 ≤ i) && decide (i ≤ (xs.length : Int)) && Nat.beq ys.length 1 && zY (xs.length + 1) b then some (xs.take i.toNat ++ (ys ++ xs.drop i.toNat)) else none
end Go.Ab
