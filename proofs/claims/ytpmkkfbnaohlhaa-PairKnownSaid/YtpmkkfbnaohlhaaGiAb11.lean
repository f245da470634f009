/- append. -/
import Derived.Test.YtpmkkfbnaohlhaaGiAb10
set_option linter.unusedVariables false
set_option linter.unusedSimpArgs false
namespace Go.Ab

theorem ERep_total {H : Array Go.Obj} {F : Nat → Prop} : ∀ (t : Ty) (x : t.den) (rd : Nat → Option Value), ERep H F t x rd → ∀ j, j < t.size → ∃ v, rd j = some v ∧ v.one1 = true
  | .int k, x, rd, h, j, hj => by
    simp only [Ty.size] at hj
    obtain rfl : j = 0 := by omega
    exact ⟨_, h, rfl⟩
  | .bool, x, rd, h, j, hj => by
    simp only [Ty.size] at hj
    obtain rfl : j = 0 := by omega
    exact ⟨_, h, rfl⟩
  | .sl t, x, rd, h, j, hj => by
    simp only [Ty.size] at hj
    obtain rfl : j = 0 := by omega
    simp only [ERep] at h
    obtain ⟨A, n, c, h1, _⟩ := h
    exact ⟨_, h1, rfl⟩
  | .pair a b, x, rd, h, j, hj => by
    simp only [ERep] at h
    simp only [Ty.size] at hj
    by_cases hlt : j < a.size
    · exact ERep_total a _ _ h.1 j hlt
    · have := ERep_total b _ _ h.2 (j - a.size) (by omega)
      rwa [show j - a.size + a.size = j by omega] at this

/-- What the first cells of a slice value hold. -/
def Rd (H : Array Go.Obj) (v : Value) (n size : Nat) (news : List Value) : Prop := ∃ A c, v = .slice A n c ∧ news.length = n * size ∧ (∀ u ∈ news, u.one1 = true) ∧ (match A with
  | none => n = 0
  | some a => n = 0 ∨ a.spot = none ∧ ∀ j u, news[j]? = some u → hcell H a.block (a.off + j) = some u)

theorem Rd.first {P : Program} {H : Array Go.Obj} {v : Value} {n size : Nat} {news : List Value} (h : Rd H v n size news) (w : World) (hw : w.heap = H) : (Builtin.firstCells size n v).run P w = .ok news.toArray w := by
  obtain ⟨A, c, rfl, hl, _, h⟩ := h
  cases A with
  | none =>
    have h0 : n = 0 := h
    subst h0
    have : news = [] := List.eq_nil_of_length_eq_zero (by simpa using hl)
    subst this
    exact run_firstCells_none w size 0 0 c
  | some a =>
    rcases h with h0 | ⟨hs, h⟩
    · subst h0
      have : news = [] := List.eq_nil_of_length_eq_zero (by simpa using hl)
      subst this
      simp [Builtin.firstCells, loadCells, loadCellsFrom]
    · obtain ⟨B, o, sp⟩ := a
      cases hs
      exact run_firstCells_some w size n ⟨B, o, none⟩ n c news hl (fun j u hu => by rw [Addr.add_lit, cell_hcell, hw]; exact h j u hu)

/-- Elements in a block, as a row of cells. -/
theorem rd_block {H : Array Go.Obj} {F : Nat → Prop} {t : Ty} {ys : List t.den} {B o c : Nat} (hc : ys.length ≤ c) (h : ∀ i (hi : i < ys.length), ERep H F t ys[i] (fun j => hcell H B (o + i * t.size + j))) :
    ∃ news, Rd H (.slice (some ⟨B, o, none⟩) ys.length c) ys.length t.size news ∧ ∀ i (hi : i < ys.length), ERep H F t ys[i] (fun j => news[i * t.size + j]?) := by
  have tot : ∀ k, k < ys.length * t.size → ∃ v, hcell H B (o + k) = some v ∧ v.one1 = true := by
    intro k hk
    have hi : k / t.size < ys.length := Nat.div_lt_of_lt_mul (by rw [Nat.mul_comm]; exact hk)
    obtain ⟨v, h1, h2⟩ := ERep_total t _ _ (h _ hi) (k % t.size) (Nat.mod_lt _ t.size_pos)
    refine ⟨v, ?_, h2⟩
    rw [Nat.add_assoc, Nat.mul_comm, Nat.div_add_mod] at h1
    exact h1
  refine ⟨(List.range (ys.length * t.size)).map fun k => (hcell H B (o + k)).getD undef, ⟨_, c, rfl, by simp, fun u hu => ?_, .inr ⟨rfl, fun j u hu => ?_⟩⟩, fun i hi => ?_⟩
  · obtain ⟨k, hk, rfl⟩ := List.mem_map.1 hu
    obtain ⟨v, h1, h2⟩ := tot k (List.mem_range.1 hk)
    rw [h1]; exact h2
  · have hj : j < ys.length * t.size := by
      rcases Nat.lt_or_ge j (ys.length * t.size) with h | h
      · exact h
      · rw [List.getElem?_eq_none (by simpa using h)] at hu; cases hu
    obtain ⟨v, h1, h2⟩ := tot j hj
    simp only [List.getElem?_map, List.getElem?_range hj, Option.map_some, h1, Option.getD_some, Option.some.injEq] at hu
    rw [← hu]; exact h1
  · refine ERep_mono (fun _ h => h) (fun _ _ => rfl) t _ _ _ (fun j hj => ?_) (h i hi)
    have hrow := Nat.mul_le_mul_right t.size (show i + 1 ≤ ys.length by omega)
    rw [Nat.add_mul] at hrow
    have hk : i * t.size + j < ys.length * t.size := by omega
    obtain ⟨v, h1, h2⟩ := tot _ hk
    simp only [List.getElem?_map, List.getElem?_range hk, Option.map_some, h1, Option.getD_some]
    rw [Nat.add_assoc]; exact h1.symm

theorem rd_nil {H : Array Go.Obj} {F : Nat → Prop} {t : Ty} {A : Option Addr} {c : Nat} : ∃ news, Rd H (.slice A 0 c) 0 t.size news ∧ ∀ i (hi : i < ([] : List t.den).length), ERep H F t ([] : List t.den)[i] (fun j => news[i * t.size + j]?) :=
  ⟨[], ⟨A, c, rfl, by simp, by simp, by cases A with
    | none => rfl
    | some a => exact .inl rfl⟩, fun i hi => by simp at hi⟩

theorem rd_fsl {H : Array Go.Obj} {F : Nat → Prop} {t : Ty} {ys : List t.den} {v : Value} (h : ERep H F (.sl t) ys (fun _ => some v)) :
    ∃ news, Rd H v ys.length t.size news ∧ ∀ i (hi : i < ys.length), ERep H F t ys[i] (fun j => news[i * t.size + j]?) := by
  simp only [ERep, Option.some.injEq] at h
  obtain ⟨A, n, c, rfl, rfl, hc, h⟩ := h
  rcases h with ⟨rfl, _⟩ | ⟨B, o, rfl, hB, hE⟩
  · exact rd_nil
  · exact rd_block hc hE

theorem rng_len {α : Type} {xs : List α} {r : Option (Nat × Nat)} {L : Nat} (hL : L = xs.length) (h : match r with | none => True | some (lo, n) => lo + n ≤ L) :
    (rng xs r).length = (match r with | none => L | some (_, n) => n) := by
  cases r with
  | none => exact hL.symm
  | some p => exact slc_length (by subst hL; exact h)

theorem rd_osl {M : Mst} {own : Bool} {t : Ty} {xs : List t.den} {C : Conc} {id : Nat} {r : Option (Nat × Nat)} {v : Value} (hC : M.κ id = some C) (hO : ORep M (.arr own t xs) C) (hv : CRep M (.osl id r) v) :
    ∃ news, Rd M.H v (rng xs r).length t.size news ∧ ∀ i (hi : i < (rng xs r).length), ERep M.H M.G t (rng xs r)[i] (fun j => news[i * t.size + j]?) := by
  obtain ⟨h1, h2, h3, h4⟩ := hO
  obtain ⟨C', hC', hv⟩ := hv
  rw [hC] at hC'; cases hC'
  have key : ∀ lo n, lo + n ≤ C.len → SlV M.H C lo n v → ∃ news, Rd M.H v (slc xs lo n).length t.size news ∧ ∀ i (hi : i < (slc xs lo n).length), ERep M.H M.G t (slc xs lo n)[i] (fun j => news[i * t.size + j]?) := by
    intro lo n hn hS
    obtain ⟨A, c, rfl, hS⟩ := hS
    have hl := slc_length (xs := xs) (lo := lo) (n := n) (by omega)
    by_cases h0 : n = 0
    · subst h0
      have e : slc xs lo 0 = [] := by simp [slc]
      rw [e]; exact rd_nil
    · cases hB : C.blk with
      | none => rw [hB] at hS; omega
      | some B =>
        rw [hB] at hS h4
        obtain ⟨hc, a, rfl, ha, _⟩ := hS
        obtain ⟨vals, e, h5, h6, h7, h8⟩ := h4
        have ha' : a = lo * C.sz := by rcases ha with ha | ha <;> omega
        have := rd_block (H := M.H) (F := M.G) (ys := slc xs lo n) (B := B) (o := a) (c := c) (by omega) (fun i hi => by
          obtain ⟨hi', e1⟩ := slc_get hi
          rw [e1]
          refine ERep_mono (fun _ h => h) (fun _ _ => rfl) t _ _ _ (fun j hj => ?_) (h8 (lo + i) hi')
          rw [ha', h2, ← Nat.add_mul]
          simp only [hcell, h5])
        obtain ⟨news, k1, k2⟩ := this
        rw [hl] at k1
        exact ⟨news, by rw [hl]; exact k1, k2⟩
  cases r with
  | none =>
    have := key 0 C.len (by omega) hv
    rw [h1, rng_full] at this
    exact this
  | some p => exact key p.1 p.2 hv.1 hv.2.1

/-! ### The run -/
theorem append_room {P : Program} {w : World} {t e : TypeId} {i : TypeInfo} {A : Option Addr} {sLen sCap n size : Nat} {x : Value} {news : List Value} (T : TypeId) (hu : P.underlying t = some (.slice e)) (hi : P.info? e = some i) (hs : i.size = size)
    (hx : Rd w.heap x n size news) (hroom : sLen + n ≤ sCap) (w' : World) (hw : match A with
      | none => w' = w
      | some a => (storeCells (a.add (sLen * size)) news).run P w = .ok () w') :
    (Builtin.append_ #[t, t] T #[.slice A sLen sCap, x]).run P w = .ok (.slice A (sLen + n) sCap) w' := by
  have hf := hx.first (P := P) w rfl
  obtain ⟨X, c, rfl, _⟩ := hx
  subst hs
  cases A with
  | none =>
    subst hw
    simp [Builtin.append_, run_underlying hu, sizeOf, typeInfo, hi, Builtin.lenOf, hroom, hf]
  | some a => simp [Builtin.append_, run_underlying hu, sizeOf, typeInfo, hi, Builtin.lenOf, hroom, hf, hw]

theorem append_grow {P : Program} {w : World} {t e : TypeId} {i : TypeInfo} {z : Value} {A : Option Addr} {sLen sCap n size : Nat} {x : Value} {olds news : List Value} (T : TypeId) (hu : P.underlying t = some (.slice e)) (hi : P.info? e = some i) (hz : i.zero = some z)
    (hs : i.size = size) (hb : Rd w.heap (.slice A sLen sCap) sLen size olds) (hx : Rd w.heap x n size news) (hg : sCap < sLen + n) (h46 : (sLen + n) * i.bytes ≤ 70368744177664) (hn46 : sLen + n ≤ 70368744177664) :
    (Builtin.append_ #[t, t] T #[.slice A sLen sCap, x]).run P w =
      .ok (.slice (some ⟨w.heap.size, 0, none⟩) (sLen + n) (grownCap w (sLen + n) sCap e)) (w.drew.alloc (.cells (olds.toArray ++ news.toArray ++ Builtin.zeroCells z.cells (grownCap w (sLen + n) sCap e - (sLen + n))) e)) := by
  have hf := hx.first (P := P) w.drew rfl
  have hfo := hb.first (P := P) w.drew rfl
  obtain ⟨X, c, rfl, _⟩ := hx
  subst hs
  have hn : ¬ (sLen + n ≤ sCap) := by omega
  have h63' : ¬ (9223372036854775807 < ((sLen : Int) + (n : Int))) := by omega
  have h48' : ¬ (281474976710656 < Builtin.nextslicecap (sLen + n) sCap * i.bytes) := by
    have := growslice_fits (bytes := i.bytes) hg (by omega)
    omega
  simp [Builtin.append_, run_underlying hu, sizeOf, typeInfo, zeroValue, hi, hz, Builtin.lenOf, hn, h63', h48', Question.forced, hf, hfo, newRow, grownCap]
  congr 2
  apply Array.ext'
  simp [List.append_assoc]

theorem size_zeros (z : Array Value) (n : Nat) : (Builtin.zeroCells z n).size = n * z.size := by simp [Builtin.zeroCells]

/-- Two rows of elements behind each other. -/
theorem rd_both {H : Array Go.Obj} {F : Nat → Prop} {t : Ty} {xs ys : List t.den} {olds news : List Value} (hl : olds.length = xs.length * t.size) (hx : ∀ i (h : i < xs.length), ERep H F t xs[i] (fun j => olds[i * t.size + j]?))
    (hy : ∀ i (h : i < ys.length), ERep H F t ys[i] (fun j => news[i * t.size + j]?)) : ∀ i (h : i < (xs ++ ys).length), ERep H F t (xs ++ ys)[i] (fun j => (olds ++ news)[i * t.size + j]?) := by
  intro i hi
  by_cases h : i < xs.length
  · rw [List.getElem_append_left h]
    refine ERep_mono (fun _ h => h) (fun _ _ => rfl) t _ _ _ (fun j hj => ?_) (hx i h)
    have := Nat.mul_le_mul_right t.size (show i + 1 ≤ xs.length by omega)
    rw [Nat.add_mul] at this
    rw [List.getElem?_append_left (by omega)]
  · rw [List.getElem_append_right (by omega)]
    refine ERep_mono (fun _ h => h) (fun _ _ => rfl) t _ _ _ (fun j hj => ?_) (hy (i - xs.length) (by rw [List.length_append] at hi; omega))
    have := Nat.mul_le_mul_right t.size (show xs.length ≤ i by omega)
    rw [List.getElem?_append_right (by omega), hl]
    congr 1
    rw [Nat.sub_mul]; omega

/-- The row that append hands back, in a new block; what it was of is given up. -/
theorem grown_arr {P : Program} {M : Mst} {w : World} (ok : Ok M) (hM : M.H = w.heap) {nm : Nat} {t : Ty} {zs : List t.den} {us : Array Value} {e : TypeId} {s : Sem Value} {c : Nat} {u : Upd} (hnm : M.h nm = none)
    (hg : ∀ p ∈ u, p.2 = .gone ∧ ∃ o, M.h p.1 = some o ∧ o.owned = true) (hc : zs.length ≤ c) (hs : c * t.size ≤ us.size) (hx : ∀ i (h : i < zs.length), ERep M.H M.G t zs[i] (fun j => us[i * t.size + j]?))
    {w' : World} (hr : s.run P w = .ok (.slice (some ⟨w.heap.size, 0, none⟩) zs.length c) w') (hw : w'.heap = w.heap.push (.cells us e) ∧ w'.os = w.os ∧ w'.tape = w.tape ∧ w'.output = w.output) :
    RunsV P s M w (.c (.osl nm none)) (u ++ [(nm, .arr true t zs)]) := by
  let C : Conc := ⟨some M.H.size, zs.length, t.size, 0, []⟩
  have hnJ : nm ∉ u.map (·.1) := fun hm => by
    obtain ⟨p, hp, e⟩ := List.mem_map.1 hm
    obtain ⟨_, o, ho, _⟩ := hg p hp
    rw [e, hnm] at ho; cases ho
  have hh : ∀ n', (happly M.h (u ++ [(nm, .arr true t zs)])) n' = if n' = nm then some (.arr true t zs) else happly M.h u n' := fun n' => by
    rw [happly_append, happly_one]
    by_cases e : n' = nm
    · rw [if_pos e, e, hset_same]
    · rw [if_neg e, hset_ne _ _ e]
  have hle := Nat.mul_le_mul_right t.size hc
  have := Mst.move_ok (M := M) (nm := nm) (o' := .arr true t zs) (C' := C) (h' := happly M.h (u ++ [(nm, .arr true t zs)])) (H' := M.H.push (.cells us e)) ok (fun j => j ∈ u.map (·.1)) hnm
    (fun j hj => by
      obtain ⟨p, hp, e⟩ := List.mem_map.1 hj
      obtain ⟨_, o, ho, hoo⟩ := hg p hp
      refine ⟨o, by rw [← e]; exact ho, hoo, ?_⟩
      have hne : j ≠ nm := fun e' => hnJ (by rw [← e']; exact hj)
      rw [hh, if_neg hne]
      exact happly_gone (fun p hp => (hg p hp).1) hj)
    (by rw [hh, if_pos rfl]) (fun n' h1 h2 => by rw [hh, if_neg h2]; exact happly_not h1) (by simp) (fun b hb _ => push_lt hb) (fun b hb => bsize_congr (push_lt hb))
    (fun b hb => by
      simp only [C, Conc.fp, Option.toList_some, List.filterMap_nil, List.append_nil, List.mem_singleton] at hb
      subst hb
      exact .inl ⟨Nat.le_refl _, by simp⟩)
    (fun x => ⟨rfl, rfl, fun _ => rfl, us, e, push_new, fun h => (by cases h), by omega, fun i hi => ERep_mono x.G x.sameG t _ _ _ (fun _ _ => rfl) (hx i hi)⟩)
  refine ⟨_, _, _, hr, hw.2.1, hw.2.2.1, hw.2.2.2, by show M.H.push _ = _; rw [hw.1, hM], rfl, this.1, this.2, C, κset_same _ _ _, _, c, rfl, ?_⟩
  refine ⟨hc, 0, by rw [hM], .inr (by simp), ?_⟩
  have : bsize (M.H.push (.cells us e)) M.H.size = us.size := by simp [bsize]
  show (0 + c) * t.size ≤ bsize (M.H.push (.cells us e)) M.H.size
  rw [this, Nat.zero_add]; exact hs

/-- The row that append hands back, where the old one lay. -/
theorem room_arr {P : Program} {M : Mst} {w : World} (ok : Ok M) (hM : M.H = w.heap) {id nm : Nat} {t : Ty} {xs0 zs : List t.den} {C : Conc} {H' : Array Go.Obj} {s : Sem Value} {c : Nat} {A : Option Addr} {w' : World}
    (hid : M.h id = some (.arr true t xs0)) (hC : M.κ id = some C) (hnm : M.h nm = none) (hsz : H'.size = M.H.size) (hH : ∀ b, b ∉ C.fp → H'[b]? = M.H[b]?) (hbs : ∀ b, bsize H' b = bsize M.H b)
    (hx : ∀ M', Ext M M' → M'.H = H' → M'.G = M.G → match C.blk with
      | none => zs = []
      | some B => ∃ vals e, H'[B]? = some (.cells vals e (0, 0)) ∧ zs.length * t.size ≤ vals.size ∧ ∀ i (h : i < zs.length), ERep M'.H M'.G t zs[i] (fun j => vals[i * t.size + j]?))
    (hA : match C.blk with
      | none => A = none ∧ zs.length = 0 ∧ c = 0
      | some B => zs.length ≤ c ∧ ∃ a, A = some ⟨B, a, none⟩ ∧ (c = 0 ∨ a = 0) ∧ c * t.size ≤ bsize M.H B)
    (hw : w'.heap = H' ∧ w'.os = w.os ∧ w'.tape = w.tape ∧ w'.output = w.output) (hr : s.run P w = .ok (.slice A zs.length c) w') :
    RunsV P s M w (.c (.osl nm none)) [(id, .gone), (nm, .arr true t zs)] := by
  obtain ⟨C0, hC0, hO⟩ := ok.obj id _ hid
  rw [hC] at hC0; cases hC0
  obtain ⟨fr, ff⟩ := arr_fp hO
  have hne : id ≠ nm := fun e => by rw [e, hnm] at hid; cases hid
  let C' : Conc := ⟨C.blk, zs.length, t.size, 0, []⟩
  have hh : ∀ n', (happly M.h [(id, .gone), (nm, .arr true t zs)]) n' = if n' = nm then some (.arr true t zs) else if n' = id then some .gone else M.h n' := fun n' => by
    show (hset (hset M.h id .gone) nm _) n' = _
    by_cases e : n' = nm
    · rw [if_pos e, e, hset_same]
    · rw [if_neg e, hset_ne _ _ e]
      by_cases e2 : n' = id
      · rw [if_pos e2, e2, hset_same]
      · rw [if_neg e2, hset_ne _ _ e2]
  have := Mst.move_ok (M := M) (nm := nm) (o' := .arr true t zs) (C' := C') (h' := happly M.h [(id, .gone), (nm, .arr true t zs)]) (H' := H') ok (fun j => j = id) hnm
    (fun j hj => ⟨.arr true t xs0, by rw [hj]; exact hid, rfl, by rw [hh, hj, if_neg hne, if_pos rfl]⟩)
    (by rw [hh, if_pos rfl]) (fun n' h1 h2 => by rw [hh, if_neg h2, if_neg h1]) (by omega) (fun b hb hn => hH b (hn id C rfl hC)) (fun b _ => hbs b)
    (fun b hb => .inr ⟨id, C, rfl, hC, by
      simp only [C', Conc.fp, List.filterMap_nil, List.append_nil] at hb
      rw [ff]; exact hb⟩)
    (fun x => by
      refine ⟨rfl, rfl, fun _ => rfl, ?_⟩
      have := hx _ x rfl rfl
      show match C.blk with
        | none => _
        | some B => _
      cases hB : C.blk with
      | none => rw [hB] at this; exact this
      | some B =>
        rw [hB] at this
        obtain ⟨vals, e, h1, h2, h3⟩ := this
        exact ⟨vals, e, h1, fun h => (by cases h), h2, h3⟩)
  refine ⟨_, _, _, hr, hw.2.1, hw.2.2.1, hw.2.2.2, by rw [hw.1]; rfl, rfl, this.1, this.2, C', κset_same _ _ _, _, c, rfl, ?_⟩
  show match C.blk with
    | none => _
    | some B => _
  cases hB : C.blk with
  | none => rw [hB] at hA; exact hA
  | some B =>
    rw [hB] at hA
    obtain ⟨h1, a, h2, h3, h4⟩ := hA
    refine ⟨h1, a, h2, by simpa using h3, ?_⟩
    show (0 + c) * t.size ≤ bsize H' B
    rw [hbs, Nat.zero_add]; exact h4

theorem roomOk {n : Nat} {b : Nat} (h : (Nat.ble (n * b) 70368744177664 && Nat.ble n 70368744177664) = true) : n * b ≤ 70368744177664 ∧ n ≤ 70368744177664 := by
  rw [Bool.and_eq_true] at h
  exact ⟨Nat.le_of_ble_eq_true h.1, Nat.le_of_ble_eq_true h.2⟩

theorem ERep_flat {H H' : Array Go.Obj} {F F' : Nat → Prop} : ∀ (t : Ty) (x : t.den) (rd : Nat → Option Value), t.flat = true → ERep H F t x rd → ERep H' F' t x rd
  | .int k, n, rd, _, h => h
  | .bool, n, rd, _, h => h
  | .sl t, xs, rd, hf, _ => by cases hf
  | .pair a b, p, rd, hf, h => by
    simp only [Ty.flat, Bool.and_eq_true] at hf
    exact ⟨ERep_flat a _ _ hf.1 h.1, ERep_flat b _ _ hf.2 h.2⟩

theorem rd_kept {M : Mst} {sh : Bool} {s : Ty} {xs : List s.den} {v : Value} (hs : (sh || s.flat) = true) (hv : ERep M.H (bif sh then M.G else M.F) (.sl s) xs (fun _ => some v)) :
    ∃ news, Rd M.H v xs.length s.size news ∧ ∀ i (hi : i < xs.length), ERep M.H M.G s xs[i] (fun j => news[i * s.size + j]?) := by
  obtain ⟨news, h1, h2⟩ := rd_fsl hv
  refine ⟨news, h1, fun i hi => ?_⟩
  cases sh with
  | true => exact h2 i hi
  | false => exact ERep_flat _ _ _ hs (h2 i hi)

theorem tailOf_sound {M : Mst} (ok : Ok M) {t : Ty} {x : CVal} {ys : List t.den} {u : Upd} {v : Value} (hv : CRep M x v) (h : tailOf M.h t x = some (ys, u)) :
    u = [] ∧ ∃ news, Rd M.H v ys.length t.size news ∧ ∀ i (hi : i < ys.length), ERep M.H M.G t ys[i] (fun j => news[i * t.size + j]?) := by
  unfold tailOf at h
  split at h
  · cases h
    have e : v = .slice none 0 0 := hv
    subst e
    exact ⟨rfl, rd_nil⟩
  · rename_i sh s xs
    cases hs : (sh || s.flat) with
    | false => rw [hs] at h; cases h
    | true =>
      rw [hs] at h
      simp only [cond_true, Option.map_eq_some_iff, Prod.mk.injEq] at h
      obtain ⟨zs, hz, rfl, rfl⟩ := h
      obtain ⟨e, hz⟩ := castL_some hz
      subst e
      subst hz
      exact ⟨rfl, rd_kept hs hv⟩
  · rename_i sh s xs
    cases hs : (sh || s.flat) with
    | false => rw [hs] at h; cases h
    | true =>
      rw [hs] at h
      simp only [cond_true, Option.map_eq_some_iff, Prod.mk.injEq] at h
      obtain ⟨zs, hz, rfl, rfl⟩ := h
      obtain ⟨e, hz⟩ := castL_some hz
      subst e
      subst hz
      exact ⟨rfl, rd_kept hs hv.2⟩
  · rename_i id r
    split at h
    · rename_i own s xs hid
      simp only [Option.map_eq_some_iff, Prod.mk.injEq] at h
      obtain ⟨zs, hz, rfl, rfl⟩ := h
      obtain ⟨e, hz⟩ := castL_some hz
      subst e
      subst hz
      obtain ⟨C, hC, hO⟩ := ok.obj _ _ hid
      exact ⟨rfl, rd_osl hC hO hv⟩
    · cases h
  · cases h

theorem appendS_nil {P : Program} {M : Mst} {w : World} (ok : Ok M) (hM : M.H = w.heap) {nm : Nat} {t e T : TypeId} {ty : Ty} {x : Value} {ys : List ty.den} {news : List Value} (hu : P.underlying t = some (.slice e)) (hty : elemTy P e = some ty) (hnm : M.h nm = none)
    (hx : Rd M.H x ys.length ty.size news) (hE : ∀ i (hi : i < ys.length), ERep M.H M.G ty ys[i] (fun j => news[i * ty.size + j]?)) (hroom : ys.length * P.bytesOf e ≤ 70368744177664 ∧ ys.length ≤ 70368744177664) :
    RunsV P (Builtin.append_ #[t, t] T #[.slice none 0 0, x]) M w (.c (.osl nm none)) [(nm, .arr true ty ys)] := by
  obtain ⟨i, z, h1, h2, h3, h4, h5, h6, h7⟩ := elemTy_some hty
  by_cases h0 : ys.length = 0
  · have hy : ys = [] := List.eq_nil_of_length_eq_zero h0
    subst hy
    have hr := append_room (P := P) (w := w) (A := none) (sLen := 0) (sCap := 0) T hu h1 h3 (by rw [← hM]; exact hx) (by simp) w rfl
    let C : Conc := ⟨none, 0, ty.size, 0, []⟩
    have := Mst.move_ok (M := M) (nm := nm) (o' := .arr true ty []) (C' := C) (h' := hset M.h nm (.arr true ty [])) (H' := M.H) ok (fun _ => False) hnm (fun _ h => h.elim) (hset_same _ _ _)
      (fun n' _ h2 => hset_ne _ _ h2) (Nat.le_refl _) (fun _ _ _ => rfl) (fun _ _ => rfl) (fun b hb => by simp [C, Conc.fp] at hb) (fun x => ⟨rfl, rfl, fun _ => rfl, rfl⟩)
    exact ⟨_, _, M.move nm C (hset M.h nm (.arr true ty [])) M.H, hr, rfl, rfl, rfl, hM, rfl, this.1, this.2, C, κset_same _ _ _, _, _, rfl, rfl, rfl, rfl⟩
  · have hb : Rd w.heap (.slice none 0 0) 0 ty.size [] := ⟨none, 0, rfl, by simp, by simp, rfl⟩
    have hr := append_grow (P := P) (w := w) T hu h1 h2 h3 hb (by rw [← hM]; exact hx) (by omega) (by rw [h6] at hroom; rw [Nat.zero_add]; exact hroom.1) (by omega)
    simp only [Nat.zero_add] at hr
    have hlen : news.length = ys.length * ty.size := hx.choose_spec.choose_spec.2.1
    have hge := grownCap_ge w ys.length 0 e
    refine grown_arr (u := []) ok hM hnm (by simp) hge ?_ (fun i hi => ?_) hr ⟨rfl, rfl, rfl, rfl⟩
    · simp only [Array.size_append, List.size_toArray, List.length_nil, size_zeros, h7, hlen, Nat.zero_add, ← Nat.add_mul]
      exact Nat.le_of_eq (by congr 1; omega)
    · refine ERep_mono (fun _ h => h) (fun _ _ => rfl) ty _ _ _ (fun j hj => ?_) (hE i hi)
      have := Nat.mul_le_mul_right ty.size (show i + 1 ≤ ys.length by omega)
      rw [Nat.add_mul] at this
      rw [Array.getElem?_append_left (by simp; omega)]
      simp

theorem appendS_own {P : Program} {M : Mst} {w : World} (ok : Ok M) (hM : M.H = w.heap) {id nm : Nat} {t e T : TypeId} {ty : Ty} {x b : Value} {xs0 ys : List ty.den} {r : Option (Nat × Nat)} {news : List Value} (hu : P.underlying t = some (.slice e)) (hty : elemTy P e = some ty)
    (hnm : M.h nm = none) (hid : M.h id = some (.arr true ty xs0)) (hb : CRep M (.osl id r) b) (hr0 : match r with | none => True | some (lo, _) => lo = 0)
    (hx : Rd M.H x ys.length ty.size news) (hE : ∀ i (hi : i < ys.length), ERep M.H M.G ty ys[i] (fun j => news[i * ty.size + j]?))
    (hroom : ((rng xs0 r).length + ys.length) * P.bytesOf e ≤ 70368744177664 ∧ (rng xs0 r).length + ys.length ≤ 70368744177664) :
    RunsV P (Builtin.append_ #[t, t] T #[b, x]) M w (.c (.osl nm none)) [(id, .gone), (nm, .arr true ty (rng xs0 r ++ ys))] := by
  obtain ⟨i, z, h1, h2, h3, h4, h5, h6, h7⟩ := elemTy_some hty
  obtain ⟨C, hC, hO⟩ := ok.obj id _ hid
  obtain ⟨olds, ho, hEo⟩ := rd_osl hC hO hb
  have hlen : news.length = ys.length * ty.size := hx.choose_spec.choose_spec.2.1
  have hleno : olds.length = (rng xs0 r).length * ty.size := ho.choose_spec.choose_spec.2.1
  obtain ⟨C', hC', hS⟩ := hb
  rw [hC] at hC'; cases hC'
  -- the slice value
  have hSl : ∃ n, (rng xs0 r).length = n ∧ SlV M.H C 0 n b := by
    cases r with
    | none => exact ⟨C.len, by rw [hO.1]; rfl, hS⟩
    | some p =>
      obtain ⟨lo, n⟩ := p
      have : lo = 0 := hr0
      subst this
      exact ⟨n, slc_length (by have := hO.1; have := hS.1; omega), hS.2.1⟩
  obtain ⟨n, hn, A, sCap, rfl, hSl⟩ := hSl
  rw [hn] at hleno ho hroom
  have hall := rd_both (H := M.H) (F := M.G) (t := ty) (xs := rng xs0 r) (ys := ys) (olds := olds) (news := news) (by rw [hn]; exact hleno) hEo hE
  have hlz : (rng xs0 r ++ ys).length = n + ys.length := by rw [List.length_append, hn]
  by_cases hroom' : n + ys.length ≤ sCap
  · -- room
    cases hB : C.blk with
    | none =>
      rw [hB] at hSl
      obtain ⟨rfl, rfl, rfl⟩ := hSl
      have hr := append_room (P := P) (w := w) (A := none) (sLen := 0) (sCap := 0) T hu h1 h3 (by rw [← hM]; exact hx) hroom' w rfl
      rw [← hlz] at hr
      refine room_arr (s := Builtin.append_ #[t, t] T #[.slice none 0 0, x]) (H' := M.H) ok hM hid hC hnm rfl (fun _ _ => rfl) (fun _ => rfl) (fun M' _ _ _ => ?_) ?_ ⟨hM.symm, rfl, rfl, rfl⟩ hr
      · rw [hB]
        exact List.eq_nil_of_length_eq_zero (by omega)
      · rw [hB]
        exact ⟨rfl, by omega, rfl⟩
    | some B =>
      rw [hB] at hSl
      obtain ⟨hc, a, rfl, ha, hs⟩ := hSl
      obtain ⟨k1, k2, k3, k4⟩ := hO
      rw [hB] at k4
      obtain ⟨vals, ev, k5, k6, k7, k8⟩ := k4
      rw [Nat.zero_mul] at ha
      rw [Nat.zero_add, k2] at hs
      have hbs : bsize M.H B = vals.size := by simp only [bsize, k5]
      rw [hbs] at hs
      have hwB : w.heap[B]? = some (.cells vals ev (0, 0)) := by rw [← hM]; exact k5
      by_cases h0 : sCap = 0
      · -- nothing fits, nothing is there
        have hn0 : n = 0 := by omega
        have hy0 : ys.length = 0 := by omega
        have hr := append_room (P := P) (w := w) (A := some ⟨B, a, none⟩) (sLen := n) (sCap := sCap) T hu h1 h3 (by rw [← hM]; exact hx) hroom' w (by
          have : news = [] := List.eq_nil_of_length_eq_zero (by rw [hlen, hy0, Nat.zero_mul])
          rw [this]; rfl)
        rw [← hlz] at hr
        have hz0 : rng xs0 r ++ ys = [] := List.eq_nil_of_length_eq_zero (by omega)
        refine room_arr (s := Builtin.append_ #[t, t] T #[.slice (some ⟨B, a, none⟩) n sCap, x]) (H' := M.H) ok hM hid hC hnm rfl (fun _ _ => rfl) (fun _ => rfl) (fun M' _ _ _ => ?_) ?_ ⟨hM.symm, rfl, rfl, rfl⟩ hr
        · rw [hB]
          refine ⟨vals, ev, k5, by rw [hz0]; simp, fun i hi => ?_⟩
          rw [hz0] at hi; simp at hi
        · rw [hB]
          exact ⟨by omega, a, rfl, .inl h0, by rw [h0]; simp⟩
      · have ha0 : a = 0 := by rcases ha with ha | ha <;> omega
        subst ha0
        have hle := Nat.mul_le_mul_right ty.size hroom'
        rw [Nat.add_mul] at hle
        have hfit : n * ty.size + news.length ≤ vals.size := by omega
        have hst := run_storeCells_at (P := P) B (n * ty.size) ev news 0 vals w hwB (by simpa using hfit) (fun v hv => one1_one' (hx.choose_spec.choose_spec.2.2.1 v hv))
        simp only [Nat.add_zero] at hst
        have hr := append_room (P := P) (w := w) (A := some ⟨B, 0, none⟩) (sLen := n) (sCap := sCap) T hu h1 h3 (by rw [← hM]; exact hx) hroom' (w.setRow B (putRow vals (n * ty.size) news)) (by show (storeCells (Addr.add ⟨B, 0, none⟩ (n * ty.size)) news).run P w = _; rw [Addr.add_lit, Nat.zero_add]; exact hst)
        rw [← hlz] at hr
        obtain ⟨f1, f2, f3, f4⟩ := setRow_facts hwB (new := putRow vals (n * ty.size) news) (putRow_size hfit)
        refine room_arr (s := Builtin.append_ #[t, t] T #[.slice (some ⟨B, 0, none⟩) n sCap, x]) (H' := (w.setRow B (putRow vals (n * ty.size) news)).heap) ok hM hid hC hnm (by rw [hM]; exact f1)
          (fun b hb => by rw [hM]; exact f3 b fun e => hb (e ▸ fp_blk hB)) (fun b => by rw [hM]; exact f4 b) (fun M' xt hH hG => ?_) ?_ ⟨rfl, rfl, rfl, rfl⟩ hr
        · rw [hB]
          refine ⟨_, ev, f2, by rw [hlz, putRow_size hfit, Nat.add_mul]; omega, fun i hi => ?_⟩
          refine ERep_mono xt.G xt.sameG ty _ _ _ (fun j hj => ?_) (hall i hi)
          have hrow := Nat.mul_le_mul_right ty.size (show i + 1 ≤ n + ys.length by omega)
          rw [Nat.add_mul, Nat.add_mul] at hrow
          rw [putRow_get hfit]
          by_cases hlt : i * ty.size + j < n * ty.size
          · rw [if_pos hlt, List.getElem?_append_left (by omega)]
            obtain ⟨A', c', e1, _, _, hold⟩ := ho
            simp only [Value.slice.injEq] at e1
            obtain ⟨rfl, _, rfl⟩ := e1
            rcases hold with hn0 | ⟨_, hold⟩
            · rw [hn0] at hlt; omega
            · have hjl : i * ty.size + j < olds.length := by omega
              have := hold (i * ty.size + j) olds[i * ty.size + j] (List.getElem?_eq_getElem hjl)
              rw [List.getElem?_eq_getElem hjl, ← this]
              simp only [hcell, k5, Nat.zero_add]
          · rw [if_neg hlt, if_pos (by omega), List.getElem?_append_right (by omega), hleno]
        · rw [hB]
          exact ⟨by omega, 0, rfl, .inr rfl, by rw [hbs]; exact hs⟩
  · -- a new block
    have hr := append_grow (P := P) (w := w) T hu h1 h2 h3 (by rw [← hM]; exact ho) (by rw [← hM]; exact hx) (by omega) (by rw [h6] at hroom; exact hroom.1) hroom.2
    have hge := grownCap_ge w (n + ys.length) sCap e
    rw [← hlz] at hr hge
    refine grown_arr (s := Builtin.append_ #[t, t] T #[.slice A n sCap, x]) (u := [(id, .gone)]) ok hM hnm (fun p hp => ?_) hge ?_ (fun i hi => ?_) hr ⟨rfl, rfl, rfl, rfl⟩
    · simp only [List.mem_singleton] at hp
      subst hp
      exact ⟨rfl, _, hid, rfl⟩
    · simp only [Array.size_append, List.size_toArray, size_zeros, h7, hlen, hleno, ← Nat.add_mul]
      exact Nat.le_of_eq (by congr 1; omega)
    · refine ERep_mono (fun _ h => h) (fun _ _ => rfl) ty _ _ _ (fun j hj => ?_) (hall i hi)
      have := Nat.mul_le_mul_right ty.size (show i + 1 ≤ n + ys.length by omega)
      rw [Nat.add_mul, Nat.add_mul] at this
      rw [Array.getElem?_append_left (by simp; omega)]
      simp
end Go.Ab
