/- What a loop carries on, under names of its own. -/
import Derived.Test.YtpmkkfbnaohlhaaGiAb21
set_option linter.unusedVariables false
set_option linter.unusedSimpArgs false
namespace Go.Ab

/-! ### A nil slice is a row of none -/
def Mst.nilObj (M : Mst) (nm : Nat) (o : Obj) (sz : Nat) : Mst := { M with κ := κset M.κ nm ⟨none, 0, sz, 0, []⟩, h := hset M.h nm o }

def nilO (t : Ty) (rows : Bool) : Obj := bif rows then .mat 0 [] else .arr true t []
def nilSz (t : Ty) (rows : Bool) : Nat := bif rows then 1 else t.size

theorem Mst.nilObj_ok {M : Mst} (ok : Ok M) {nm : Nat} (hnm : M.h nm = none) (t : Ty) (rows : Bool) :
    Ok (M.nilObj nm (nilO t rows) (nilSz t rows)) ∧ Ext M (M.nilObj nm (nilO t rows) (nilSz t rows)) ∧ (∀ b, Own (M.nilObj nm (nilO t rows) (nilSz t rows)) b → Own M b) := by
  have hO : ∀ M' : Mst, ORep M' (nilO t rows) ⟨none, 0, nilSz t rows, 0, []⟩ := fun M' => by
    cases rows with
    | false => exact ⟨rfl, rfl, fun _ => rfl, rfl⟩
    | true => exact ⟨rfl, rfl, rfl, rfl, by simp [Conc.fp], rfl⟩
  have x : Ext M (M.nilObj nm (nilO t rows) (nilSz t rows)) := ⟨fun id C h => by
    have hne : id ≠ nm := fun e => by rw [e, ok.non nm hnm] at h; cases h
    exact ⟨C, by show κset M.κ nm _ id = _; rw [κset_ne _ _ hne]; exact h, C.le_refl⟩, fun _ h => h, fun _ h => h, fun _ _ => rfl, fun _ _ => rfl, fun _ _ => rfl⟩
  refine ⟨Ok.build ok x (fun id => id = nm) (fun id h => hset_ne _ _ h) (fun id h => κset_ne _ _ h) (fun _ _ _ _ _ _ _ _ _ => rfl) (fun id o C h1 h2 h3 h4 b hb => (ok.own b ⟨id, o, C, h2, h3, h4, hb⟩).1) (Nat.le_refl _)
    (fun id o e h => ?_) (fun id e h => ?_) (fun id o C b e h1 h2 h3 h4 => ?_) ok.GF ok.Flt, x, fun b hb => ?_⟩
  · subst e
    have e1 : (M.nilObj id (nilO t rows) (nilSz t rows)).h id = some (nilO t rows) := hset_same _ _ _
    rw [e1] at h
    cases h
    exact ⟨_, κset_same _ _ _, hO _⟩
  · subst e
    have e1 : (M.nilObj id (nilO t rows) (nilSz t rows)).h id = some (nilO t rows) := hset_same _ _ _
    rw [e1] at h; cases h
  · subst e
    have e1 : (M.nilObj id (nilO t rows) (nilSz t rows)).κ id = some _ := κset_same _ _ _
    rw [e1] at h3
    cases h3
    simp [Conc.fp] at h4
  · obtain ⟨id, o, C, h1, h2, h3, h4⟩ := hb
    by_cases e : id = nm
    · subst e
      have e1 : (M.nilObj id (nilO t rows) (nilSz t rows)).κ id = some _ := κset_same _ _ _
      rw [e1] at h3
      cases h3
      simp [Conc.fp] at h4
    · exact ⟨id, o, C, by rw [← h1]; exact (hset_ne _ _ e).symm, h2, by rw [← h3]; exact (κset_ne _ _ e).symm, h4⟩

theorem Grow.same_mem {M M' : Mst} (hF : M'.F = M.F) (hG : M'.G = M.G) (hH : M'.H = M.H) (ho : ∀ b, Own M' b → Own M b) : Grow M M' :=
  ⟨fun b h => by rw [hF]; exact h, fun b h => by rw [hG]; exact h, fun _ _ => by rw [hH], fun _ _ => by rw [hH], fun _ _ => by rw [hH], by rw [hH]; exact Nat.le_refl _, fun _ _ _ => by rw [hH], fun b h _ => ho b h,
    fun b h _ => .inl (by rw [hG] at h; exact h), fun b h _ => .inl (by rw [hF] at h; exact h)⟩

theorem Grow.refl (M : Mst) : Grow M M := .same_mem rfl rfl rfl fun _ h => h

section
variable {na nt : Nat} {a0 : Nat → Value} {M0 : Mst} {w0 w : World} {a : Act}

theorem growOne_rel {st : St} {nm : Nat} {g : Nat × Option Nat × Ty × Bool} (r : Rel na nt a0 M0 w0 st a w) (hnm : st.h nm = none) : Rel na nt a0 M0 w0 (growOne st nm g) a w := by
  obtain ⟨M, h1, h2, h3, h4, h5⟩ := r.ex
  have hM : M.h nm = none := by rw [h1]; exact hnm
  obtain ⟨k1, k2, k3⟩ := M.nilObj_ok h3 hM g.2.2.1 g.2.2.2
  have hnil : CRep (M.nilObj nm (nilO g.2.2.1 g.2.2.2) (nilSz g.2.2.1 g.2.2.2)) (.osl nm none) (.slice none 0 0) := ⟨_, κset_same _ _ _, none, 0, rfl, rfl, rfl, rfl⟩
  have gr : Grow M0 (M.nilObj nm (nilO g.2.2.1 g.2.2.2) (nilSz g.2.2.1 g.2.2.2)) := h4.trans (.same_mem rfl rfl rfl k3)
  unfold growOne
  split
  · split
    · rename_i hs
      refine ⟨⟨M.nilObj nm (nilO g.2.2.1 g.2.2.2) (nilSz g.2.2.1 g.2.2.2), ?_, h2, k1, gr, fun t => ?_⟩, r.defers, r.size, r.os, r.tape, r.output, r.keep⟩
      · show hset M.h nm _ = hset st.h nm _
        rw [h1]; rfl
      · show VRep _ (tset st.t g.1 _ t) _
        unfold tset
        cases e : Nat.beq t g.1 with
        | false => exact (h5 t).ext k2
        | true =>
          have e : t = g.1 := by simpa using e
          subst e
          have hv := h5 g.1
          rw [hs] at hv
          have hv : a.tmps.getD g.1 undef = .slice none 0 0 := hv
          rw [hv]; exact hnil
    · exact r
  · rename_i j hj
    split
    · rename_i id hs
      split
      · rename_i cells hid
        split
        · rename_i hcell
          have hne : id ≠ nm := fun e => by rw [e, hnm] at hid; cases hid
          let M1 := M.nilObj nm (nilO g.2.2.1 g.2.2.2) (nilSz g.2.2.1 g.2.2.2)
          have hid1 : M1.h id = some (.box true cells) := by
            show hset M.h nm _ id = _
            rw [hset_ne _ _ hne, h1]; exact hid
          obtain ⟨C, hC, hO⟩ := k1.obj id _ hid1
          obtain ⟨B, vals, e, b1, b2, b3, b4, b5⟩ := hO
          have hx := Mst.write_ext (H' := M1.H) k1 hid1 rfl hC C.le_refl (fun _ _ => rfl) (fun _ _ => rfl) (.box true (cells.set j (.osl nm none)))
          have hw := Mst.write_ok (H' := M1.H) (o' := .box true (cells.set j (.osl nm none))) k1 hid1 rfl hC C.le_refl (fun _ h => h) rfl (fun _ _ => rfl) (fun _ _ => rfl) (by
            refine ⟨B, vals, e, b1, b2, b3, ?_, fun h => (by cases h)⟩
            have hl := b4.length
            refine All2.of_get (by simpa using hl) fun i hi hi' => ?_
            have hb := b4.get i (by simpa using hi) hi'
            by_cases eij : j = i
            · subst eij
              rw [List.getElem_set_self]
              have hlt : j < cells.length := by simpa using hi
              have ec : cells[j] = .nsl := by
                rw [List.getElem?_eq_getElem hlt] at hcell
                exact Option.some.inj hcell
              rw [ec] at hb
              have hb : vals.toList[j] = .slice none 0 0 := hb
              rw [hb]
              exact hnil.ext hx
            · rw [List.getElem_set_ne eij]
              exact hb.ext hx)
          refine ⟨⟨M1.write id (.box true (cells.set j (.osl nm none))) C M1.H, ?_, h2, hw.1, gr.trans hw.2.grow, fun t => ((h5 t).ext k2).ext hx⟩, r.defers, r.size, r.os, r.tape, r.output, r.keep⟩
          show hset (hset M.h nm _) id _ = hset (hset st.h nm _) id _
          rw [h1]; rfl
        · exact r
      · exact r
    · exact r

theorem growAll_rel : ∀ {l : List (Nat × Option Nat × Ty × Bool)} {st st' : St} {nm : Nat}, Rel na nt a0 M0 w0 st a w → growAll st nm l = some st' → Rel na nt a0 M0 w0 st' a w
  | [], st, st', nm, r, h => by cases h; exact r
  | g :: l, st, st', nm, r, h => by
    unfold growAll at h
    split at h
    · rename_i hnm
      exact growAll_rel (growOne_rel r hnm) h
    · cases h

/-! ### Names -/
theorem indexOf_some {id : Nat} : ∀ {l : List Nat} {n i : Nat}, indexOf id l n = some i → n ≤ i ∧ l[i - n]? = some id
  | [], n, i, h => by cases h
  | x :: l, n, i, h => by
    unfold indexOf at h
    cases e : Nat.beq x id with
    | true =>
      rw [e] at h
      cases h
      have : x = id := by simpa using e
      exact ⟨Nat.le_refl _, by simp [this]⟩
    | false =>
      rw [e] at h
      obtain ⟨h1, h2⟩ := indexOf_some (l := l) h
      refine ⟨by omega, ?_⟩
      rw [show i - n = (i - (n + 1)) + 1 by omega, List.getElem?_cons_succ]
      exact h2

theorem collect_nodup {h : Hp} : ∀ (n : Nat) {todo seen : List Nat}, seen.Nodup → (collect h n todo seen).Nodup
  | 0, _, _, hs => hs
  | n + 1, [], _, hs => hs
  | n + 1, id :: todo, seen, hs => by
    unfold collect
    cases e : seen.any (Nat.beq id) with
    | true => exact collect_nodup n hs
    | false =>
      refine collect_nodup n (List.nodup_append.2 ⟨hs, by simp, fun x hx y hy exy => ?_⟩)
      have : y = id := by simpa using hy
      subst this
      subst exy
      have := List.any_eq_false.1 e x hx
      simp at this

/-- Names turned. -/
def renK (base : Nat) (κ : Nat → Option Conc) (ids : List Nat) : Nat → Option Conc := fun n => if base ≤ n then (match ids[n - base]? with
  | some id => (κ id).map fun C => { C with ver := 0 }
  | none => none) else none

def Mst.ren (M : Mst) (base : Nat) (ids : List Nat) : Mst := { M with κ := renK base M.κ ids, h := renHp base M.h ids }

theorem renHp_some {base : Nat} {h : Hp} {ids : List Nat} {n : Nat} {o : Obj} (e : renHp base h ids n = some o) : ∃ id o', base ≤ n ∧ ids[n - base]? = some id ∧ h id = some o' ∧ o = renO h (fun i => (indexOf i ids 0).map (base + ·)) o' := by
  unfold renHp at e
  cases hb : Nat.ble base n with
  | false => rw [hb] at e; cases e
  | true =>
    rw [hb] at e
    simp only [cond_true] at e
    split at e
    · rename_i id hid
      obtain ⟨o', h1, h2⟩ := Option.map_eq_some_iff.1 e
      exact ⟨id, o', Nat.le_of_ble_eq_true hb, hid, h1, h2.symm⟩
    · cases e

theorem renK_at {base : Nat} {κ : Nat → Option Conc} {ids : List Nat} {id i : Nat} {C : Conc} (hi : indexOf id ids 0 = some i) (hC : κ id = some C) : renK base κ ids (base + i) = some { C with ver := 0 } := by
  obtain ⟨_, h⟩ := indexOf_some hi
  unfold renK
  rw [if_pos (by omega), show base + i - base = i by omega]
  rw [Nat.sub_zero] at h
  rw [h]
  simp [hC]

theorem SlV_ver {H : Array Go.Obj} {C : Conc} {lo n : Nat} {v : Value} (h : SlV H C lo n v) : SlV H { C with ver := 0 } lo n v := h

theorem renC_rep {M : Mst} (ok : Ok M) {base : Nat} {ids : List Nat} {c : CVal} {v : Value} (h : CRep M c v) : CRep (M.ren base ids) (renC M.h (fun i => (indexOf i ids 0).map (base + ·)) c) v := by
  have h1 := h.one
  have look : ∀ id C, M.κ id = some C → ∀ i, (indexOf id ids 0).map (base + ·) = some i → (M.ren base ids).κ i = some { C with ver := 0 } := fun id C hC i hi => by
    obtain ⟨j, hj, rfl⟩ := Option.map_eq_some_iff.1 hi
    exact renK_at hj hC
  unfold renC
  cases c with
  | osl id r =>
    dsimp only
    obtain ⟨C, hC, h⟩ := h
    cases e : (indexOf id ids 0).map (base + ·) with
    | none => exact h1
    | some i => cases r with
      | none => exact ⟨_, look id C hC i e, h⟩
      | some p => exact ⟨_, look id C hC i e, h⟩
  | bsl id x y =>
    dsimp only
    obtain ⟨C, B, hC, h⟩ := h
    cases e : (indexOf id ids 0).map (base + ·) with
    | none => exact h1
    | some i => exact ⟨_, B, look id C hC i e, h⟩
  | ptr id x =>
    dsimp only
    obtain ⟨C, B, hC, h⟩ := h
    cases e : (indexOf id ids 0).map (base + ·) with
    | none => exact h1
    | some i => exact ⟨_, B, look id C hC i e, h⟩
  | eptr id x y =>
    dsimp only
    obtain ⟨C, B, hC, h⟩ := h
    cases e : (indexOf id ids 0).map (base + ·) with
    | none => exact h1
    | some i => exact ⟨_, B, look id C hC i e, h⟩
  | mrow id x ver =>
    dsimp only
    obtain ⟨C, hC, ho, hle, h⟩ := h
    cases e : (indexOf id ids 0).map (base + ·) with
    | none => exact h1
    | some i =>
      split
      · rename_i i' v' xs ei hid
        cases ei
        cases hver : Nat.beq v' ver with
        | false => exact h1
        | true =>
          have hv' : v' = ver := by simpa using hver
          obtain ⟨C', hC', hO⟩ := ok.obj id _ hid
          rw [hC] at hC'; cases hC'
          exact ⟨_, look id C hC i e, h1, Nat.le_refl _, fun _ => h (by rw [hO.1, hv'])⟩
      · exact h1
  | mptr id x =>
    dsimp only
    obtain ⟨C, B, hC, h⟩ := h
    cases e : (indexOf id ids 0).map (base + ·) with
    | none => exact h1
    | some i => exact ⟨_, B, look id C hC i e, h⟩
  | meptr id x y ver =>
    dsimp only
    obtain ⟨C, hC, ho, hle, h⟩ := h
    cases e : (indexOf id ids 0).map (base + ·) with
    | none => exact h1
    | some i =>
      split
      · rename_i i' v' xs ei hid
        cases ei
        cases hver : Nat.beq v' ver with
        | false => exact h1
        | true =>
          have hv' : v' = ver := by simpa using hver
          obtain ⟨C', hC', hO⟩ := ok.obj id _ hid
          rw [hC] at hC'; cases hC'
          exact ⟨_, look id C hC i e, h1, Nat.le_refl _, fun _ => h (by rw [hO.1, hv'])⟩
      · exact h1
  | map id =>
    dsimp only
    obtain ⟨C, B, hC, h⟩ := h
    cases e : (indexOf id ids 0).map (base + ·) with
    | none => exact h1
    | some i => exact ⟨_, B, look id C hC i e, h⟩
  | fn f cap =>
    dsimp only
    obtain ⟨cv, rfl, h⟩ := h
    split
    · rename_i c hc
      refine ⟨cv, rfl, ?_⟩
      have := mapM_some _ _ _ hc
      generalize cv.toList = l at h
      clear hc h1
      induction cap generalizing c l with
      | nil => cases c with
        | nil => cases l with
          | nil => trivial
          | cons _ _ => exact h.elim
        | cons _ _ => exact this.elim
      | cons x cap ih => cases c with
        | nil => exact this.elim
        | cons y c => cases l with
          | nil => exact h.elim
          | cons u l =>
            obtain ⟨⟨C, B, hC, hh⟩, h⟩ := h
            exact ⟨⟨_, B, look x C hC y this.1, hh⟩, ih c this.2 l h⟩
    · exact h1
  | fsl sh t xs => exact h
  | fptr sh t x off => exact h
  | _ => exact h

theorem renCs_rep {M : Mst} (ok : Ok M) {base : Nat} {ids : List Nat} : ∀ {cs : List CVal} {vs : List Value}, All2 (CRep M) cs vs → All2 (CRep (M.ren base ids)) (cs.map (renC M.h fun i => (indexOf i ids 0).map (base + ·))) vs
  | [], [], _ => trivial
  | _ :: _, _ :: _, h => ⟨renC_rep ok h.1, renCs_rep ok h.2⟩
  | [], _ :: _, h => h.elim
  | _ :: _, [], h => h.elim

theorem renV_rep {M : Mst} (ok : Ok M) {base : Nat} {ids : List Nat} {x : AVal} {v : Value} (h : VRep M x v) : VRep (M.ren base ids) (renV M.h (fun i => (indexOf i ids 0).map (base + ·)) x) v := by
  cases x with
  | undef => trivial
  | skp => exact h
  | c x => exact renC_rep (c := x) ok h
  | agg cs =>
    obtain ⟨vs, h1, h2⟩ := h
    exact ⟨vs, h1, renCs_rep ok h2⟩
  | tup xs =>
    obtain ⟨vs, h1, h2⟩ := h
    refine ⟨vs, h1, All2.map_left (h2.mono fun p u hp => ?_)⟩
    obtain ⟨b, cs⟩ := p
    cases b with
    | true =>
      obtain ⟨us, q1, q2⟩ := hp
      exact ⟨us, q1, renCs_rep ok q2⟩
    | false =>
      cases cs with
      | nil => exact hp
      | cons c cs => cases cs with
        | nil => exact renC_rep (c := c) ok hp
        | cons _ _ => exact hp

theorem renO_rep {M : Mst} (ok : Ok M) {base : Nat} {ids : List Nat} {o : Obj} {C : Conc} (h : ORep M o C) : ORep (M.ren base ids) (renO M.h (fun i => (indexOf i ids 0).map (base + ·)) o) { C with ver := 0 } := by
  cases o with
  | box own cells =>
    obtain ⟨B, vals, e, h1, h2, h3, h4, h5⟩ := h
    exact ⟨B, vals, e, h1, h2, h3, renCs_rep ok h4, h5⟩
  | robox cells =>
    obtain ⟨B, vals, e, h1, h2, h3, h4, h5⟩ := h
    exact ⟨B, vals, e, h1, h2, h3, renCs_rep ok h4, h5⟩
  | arr own t xs => exact h
  | mat ver xs =>
    obtain ⟨h1, h2⟩ := h
    exact ⟨rfl, h2⟩
  | pmat ver xs n =>
    obtain ⟨h1, h2⟩ := h
    exact ⟨rfl, h2⟩
  | imap kvs => exact h
  | gone => trivial

theorem renO_owned {h : Hp} {ρ : Nat → Option Nat} (o : Obj) : (renO h ρ o).owned = o.owned := by cases o <;> rfl

theorem Mst.ren_ok {M : Mst} (ok : Ok M) {base : Nat} {ids : List Nat} (hnd : ids.Nodup) : Ok (M.ren base ids) ∧ ∀ b, Own (M.ren base ids) b → Own M b := by
  have at' : ∀ n o, (M.ren base ids).h n = some o → ∃ id o' C, base ≤ n ∧ ids[n - base]? = some id ∧ M.h id = some o' ∧ M.κ id = some C ∧ o = renO M.h (fun i => (indexOf i ids 0).map (base + ·)) o' ∧ ORep M o' C ∧ (M.ren base ids).κ n = some { C with ver := 0 } := fun n o h => by
    obtain ⟨id, o', h1, h2, h3, h4⟩ := renHp_some h
    obtain ⟨C, hC, hO⟩ := ok.obj id _ h3
    refine ⟨id, o', C, h1, h2, h3, hC, h4, hO, ?_⟩
    show renK base M.κ ids n = _
    unfold renK
    rw [if_pos h1, h2]
    simp [hC]
  have own' : ∀ b, Own (M.ren base ids) b → Own M b := fun b ⟨n, o, C, h1, h2, h3, h4⟩ => by
    obtain ⟨id, o', C', k1, k2, k3, k4, k5, k6, k7⟩ := at' n o h1
    rw [k7] at h3
    cases h3
    exact ⟨id, o', C', k3, by rw [← h2, k5, renO_owned], k4, h4⟩
  refine ⟨⟨fun n o h => ?_, fun n h => ?_, fun i j oi oj Ci Cj b hij h1 h2 h3 h4 h5 h6 h7 h8 => ?_, fun b h => ok.own b (own' b h), ok.GF, ok.Flt⟩, own'⟩
  · obtain ⟨id, o', C, k1, k2, k3, k4, rfl, k6, k7⟩ := at' n o h
    exact ⟨_, k7, renO_rep ok k6⟩
  · show renK base M.κ ids n = none
    unfold renK
    split
    · rename_i hb
      split
      · rename_i id hid
        have : M.h id = none := by
          cases e : M.h id with
          | none => rfl
          | some o =>
            have : (M.ren base ids).h n = some (renO M.h (fun i => (indexOf i ids 0).map (base + ·)) o) := by
              show renHp base M.h ids n = _
              unfold renHp
              rw [show Nat.ble base n = true from Nat.ble_eq_true_of_le hb, hid]
              simp [e]
            rw [this] at h; cases h
        rw [ok.non id this]; rfl
      · rfl
    · rfl
  · obtain ⟨id, o', C, k1, k2, k3, k4, k5, k6, k7⟩ := at' i oi h1
    obtain ⟨jd, p', D, q1, q2, q3, q4, q5, q6, q7⟩ := at' j oj h2
    rw [k7] at h5
    rw [q7] at h6
    cases h5
    cases h6
    refine ok.disj id jd o' p' C D b (fun e => ?_) k3 q3 (by rw [← h3, k5, renO_owned]) (by rw [← h4, q5, renO_owned]) k4 q4 h7 h8
    subst e
    have hi := (List.getElem?_eq_some_iff.1 k2)
    have hj := (List.getElem?_eq_some_iff.1 q2)
    have := (List.getElem_inj (h₀ := hi.1) (h₁ := hj.1) hnd).1 (by rw [hi.2, hj.2])
    omega

theorem lookup_mem {α : Type} {n : Nat} {v : α} : ∀ {l : List (Nat × α)}, l.lookup n = some v → (n, v) ∈ l
  | (m, u) :: l, h => by
    rw [List.lookup_cons] at h
    cases e : n == m with
    | true =>
      rw [e] at h
      cases h
      have : n = m := by simpa using e
      subst this
      exact List.mem_cons_self ..
    | false =>
      rw [e] at h
      exact List.mem_cons_of_mem _ (lookup_mem h)

theorem natsEq_spec : ∀ {a b : List Nat}, natsEq a b = true → a = b
  | [], [], _ => rfl
  | x :: a, y :: b, h => by
    simp only [natsEq, Bool.and_eq_true] at h
    rw [Nat.eq_of_beq_eq_true h.1, natsEq_spec h.2]
  | [], _ :: _, h => by cases h
  | _ :: _, [], h => by cases h

theorem litEq_spec {c v : CVal} (h : litEq c v = true) : c = .undef ∨ c = v := by
  unfold litEq at h
  split at h
  · exact .inl rfl
  · exact .inr rfl
  · exact .inr rfl
  · exact .inr rfl
  · exact .inr rfl
  · exact .inr (by rw [Nat.eq_of_beq_eq_true h])
  · simp only [Bool.and_eq_true] at h
    exact .inr (by rw [Nat.eq_of_beq_eq_true h.1.1, Nat.eq_of_beq_eq_true h.1.2, Nat.eq_of_beq_eq_true h.2])
  · simp only [Bool.and_eq_true] at h
    exact .inr (by rw [Nat.eq_of_beq_eq_true h.1, Nat.eq_of_beq_eq_true h.2])
  · simp only [Bool.and_eq_true] at h
    exact .inr (by rw [Nat.eq_of_beq_eq_true h.1, natsEq_spec h.2])
  · exact .inr (by rw [Nat.eq_of_beq_eq_true h])
  · cases h

theorem cond_some' {α : Type} {c : Bool} {x : Option α} {y : α} (h : (bif c then x else none) = some y) : c = true ∧ x = some y := by
  cases c with
  | true => exact ⟨rfl, h⟩
  | false => cases h

theorem readC_rep {M : Mst} (ok : Ok M) : ∀ {l : List CS} {cs : List CVal} {d : SL l} {vs : List Value}, readC l cs = some d → All2 (CRep M) cs vs → All2 (CRep M) (absS l d) vs
  | [], [], _, [], _, _ => trivial
  | .int k :: l, c :: cs, d, v :: vs, h, hv => by
    cases c <;> first | (cases h; done) | skip
    unfold readC at h
    obtain ⟨hk, h⟩ := cond_some' h
    split at h
    · rename_i d' hd
      cases h
      refine ⟨?_, readC_rep ok hd hv.2⟩
      rw [← kindEq_spec hk]; exact hv.1
    · cases h
  | .bool :: l, c :: cs, d, v :: vs, h, hv => by
    cases c <;> first | (cases h; done) | skip
    unfold readC at h
    split at h
    · rename_i d' hd
      cases h
      exact ⟨hv.1, readC_rep ok hd hv.2⟩
    · cases h
  | .dat sh t :: l, c :: cs, d, v :: vs, h, hv => by
    cases c <;> first | (cases h; done) | skip
    · rename_i sh' s xs
      unfold readC at h
      obtain ⟨hs, h⟩ := cond_some' h
      split at h
      · rename_i ys d' hx hd
        cases h
        obtain ⟨e, hx⟩ := castL_some hx
        subst e
        subst hx
        refine ⟨?_, readC_rep ok hd hv.2⟩
        have h1 : ERep M.H (bif sh' then M.G else M.F) (.sl s) xs (fun _ => some v) := hv.1
        cases sh with
        | true =>
          have : sh' = true := by simpa using hs
          subst this
          exact h1
        | false => cases sh' with
          | false => exact h1
          | true => exact ERep_mono ok.GF (fun _ _ => rfl) _ _ _ _ (fun _ _ => rfl) h1
      · cases h
    · unfold readC at h
      split at h
      · rename_i d' hd
        cases h
        refine ⟨?_, readC_rep ok hd hv.2⟩
        rw [show v = .slice none 0 0 from hv.1]
        exact ⟨none, 0, 0, rfl, rfl, Nat.le_refl _, .inl ⟨rfl, fun _ => rfl⟩⟩
      · cases h
  | .lit c :: l, x :: cs, d, v :: vs, h, hv => by
    unfold readC at h
    obtain ⟨he, h⟩ := cond_some' h
    refine ⟨?_, readC_rep ok h hv.2⟩
    rcases litEq_spec he with rfl | rfl
    · exact hv.1.one
    · exact hv.1
  | [], _ :: _, _, _, h, _ => by cases h
  | .int _ :: _, [], _, _, h, _ => by cases h
  | .bool :: _, [], _, _, h, _ => by cases h
  | .dat _ _ :: _, [], _, _, h, _ => by cases h
  | .lit _ :: _, [], _, _, h, _ => by cases h
  | [], [], _, _ :: _, _, hv => hv.elim
  | _ :: _, _ :: _, _, [], _, hv => hv.elim

theorem readV_rep {M : Mst} (ok : Ok M) {v : VS} {a : AVal} {d : SL v.cells} {rv : Value} (h : readV v a = some d) (hv : VRep M a rv) : VRep M (absV' v d) rv := by
  cases v with
  | c x =>
    cases a with
    | c y =>
      have := readC_rep ok (vs := [rv]) (show readC [x] [y] = some d from h) ⟨hv, trivial⟩
      show VRep M (match absS [x] d with | c :: _ => .c c | [] => .undef) rv
      match hh : absS [x] d, this with
      | [c], this => exact this.1
    | _ => cases h
  | agg l =>
    cases a with
    | agg vs =>
      obtain ⟨us, rfl, hx⟩ := hv
      exact ⟨us, rfl, readC_rep ok (show readC l vs = some d from h) hx⟩
    | _ => cases h

theorem readO_rep {M : Mst} (ok : Ok M) {o : OS} {x : Obj} {d : o.den} {C : Conc} (h : readO o x = some d) (hO : ORep M x C) (hv : C.ver = 0) : ORep M (absO o d) C ∧ (absO o d).owned = x.owned := by
  unfold readO at h
  split at h
  · obtain ⟨he, h'⟩ := cond_some' h
    have he := eq_of_beq he
    subst he
    clear h
    obtain ⟨B, vals, e, h1, h2, h3, h4, h5⟩ := hO
    exact ⟨⟨B, vals, e, h1, h2, h3, readC_rep ok h' h4, h5⟩, rfl⟩
  · obtain ⟨B, vals, e, h1, h2, h3, h4, h5⟩ := hO
    exact ⟨⟨B, vals, e, h1, h2, h3, readC_rep ok h h4, h5⟩, rfl⟩
  · obtain ⟨he, h'⟩ := cond_some' h
    have he := eq_of_beq he
    subst he
    clear h
    obtain ⟨e, hx⟩ := castL_some h'
    subst e
    subst hx
    exact ⟨hO, rfl⟩
  · cases h
    exact ⟨⟨hv, hO.2⟩, rfl⟩
  · cases h
    exact ⟨⟨hv, hO.2⟩, rfl⟩
  · cases h
    exact ⟨hO, rfl⟩
  · cases h

theorem readSlots_at {f : AVal → AVal} {t : Nat → AVal} : ∀ {l : List (Nat × VS)} {d : SV l} {n : Nat} {v : AVal}, readSlots f t l = some d → (absSlots l d).lookup n = some v → ∃ (s : VS) (x : SL s.cells), readV s (f (t n)) = some x ∧ v = absV' s x
  | [], d, n, v, _, h => by cases h
  | s :: l, d, n, v, hr, h => by
    unfold readSlots at hr
    split at hr
    · rename_i x ds h1 h2
      cases hr
      unfold absSlots at h
      rw [List.lookup_cons] at h
      cases e : n == s.1 with
      | true =>
        rw [e] at h
        cases h
        have : n = s.1 := by simpa using e
        rw [this]
        exact ⟨s.2, x, h1, rfl⟩
      | false =>
        rw [e] at h
        exact readSlots_at h2 h
    · cases hr

theorem readObjs_at {f : Obj → Obj} {h0 : Hp} : ∀ {l : List OS} {ids : List Nat} {d : OL l}, readObjs f h0 l ids = some d → (absObjs l d).length = ids.length ∧ ∀ (i : Nat) (o : Obj), (absObjs l d)[i]? = some o → ∃ (s : OS) (x : s.den) (id : Nat) (y : Obj), ids[i]? = some id ∧ h0 id = some y ∧ readO s (f y) = some x ∧ o = absO s x
  | [], [], d, _ => ⟨rfl, fun i o h => by simp [absObjs] at h⟩
  | s :: l, id :: ids, d, h => by
    unfold readObjs at h
    split at h
    · rename_i x ds h1 h2
      cases h
      obtain ⟨y, h3, h4⟩ := Option.bind_eq_some_iff.1 h1
      obtain ⟨k1, k2⟩ := readObjs_at h2
      refine ⟨by simp [absObjs, k1], fun i o hi => ?_⟩
      cases i with
      | zero =>
        simp only [absObjs, List.getElem?_cons_zero, Option.some.injEq] at hi
        exact ⟨s, x, id, y, rfl, h3, h4, hi.symm⟩
      | succ i =>
        simp only [absObjs, List.getElem?_cons_succ] at hi
        exact k2 i o hi
    · cases h
  | [], _ :: _, _, h => by cases h
  | _ :: _, [], _, h => by cases h

theorem canonSAt_rel {g0 base n : Nat} {S : Spec} {st : St} {d : S.den} (r : Rel na nt a0 M0 w0 st a w) (h : canonSAt g0 base n S st = some d) : Rel na nt a0 M0 w0 (stOf base S d) a w := by
  unfold canonSAt at h
  split at h
  · cases h
  rename_i st1 hg
  have r := growAll_rel r hg
  dsimp only at h
  generalize hids : collect st1.h n _ [] = ids at h
  have hnd : ids.Nodup := by rw [← hids]; exact collect_nodup n List.nodup_nil
  split at h
  case h_2 => cases h
  rename_i da db ha hb
  cases h
  obtain ⟨M, h1, h2, h3, h4, h5⟩ := r.ex
  rw [← h1] at ha hb
  obtain ⟨k1, k2⟩ := M.ren_ok h3 (base := base) hnd
  obtain ⟨ol, oa⟩ := readObjs_at hb
  let M' : Mst := { M.ren base ids with h := (stOf base S (da, db)).h }
  have hM' : ∀ n o', M'.h n = some o' → ∃ o C, (M.ren base ids).h n = some o ∧ M'.κ n = some C ∧ ORep (M.ren base ids) o' C ∧ o'.owned = o.owned := fun m o' e => by
    have e : (bif Nat.ble base m then (absObjs S.objs db)[m - base]? else none) = some o' := e
    obtain ⟨hle, e⟩ := cond_some' e
    obtain ⟨s, x, id, y, q1, q2, q3, rfl⟩ := oa _ _ e
    obtain ⟨C, hC, hO⟩ := h3.obj id y q2
    have hκ : (M.ren base ids).κ m = some { C with ver := 0 } := by
      show renK base M.κ ids m = _
      unfold renK
      rw [if_pos (Nat.le_of_ble_eq_true hle), q1]
      simp [hC]
    have hh : (M.ren base ids).h m = some (renO M.h (fun i => (indexOf i ids 0).map (base + ·)) y) := by
      show renHp base M.h ids m = _
      unfold renHp
      rw [hle, q1]
      simp [q2]
    obtain ⟨p1, p2⟩ := readO_rep k1 q3 (renO_rep h3 hO) rfl
    exact ⟨_, _, hh, hκ, p1, p2⟩
  have x : Ext (M.ren base ids) M' := ⟨fun _ C h => ⟨C, h, C.le_refl⟩, fun _ h => h, fun _ h => h, fun _ _ => rfl, fun _ _ => rfl, fun _ _ => rfl⟩
  have hown : ∀ b, Own M' b → Own (M.ren base ids) b := fun b ⟨id, o', C, q1, q2, q3, q4⟩ => by
    obtain ⟨o, D, p1, p2, p3, p4⟩ := hM' id o' q1
    exact ⟨id, o, C, p1, by rw [← p4]; exact q2, q3, q4⟩
  have ok' : Ok M' := by
    refine ⟨fun id o' q => ?_, fun id q => ?_, fun i j oi oj Ci Cj b hij q1 q2 q3 q4 q5 q6 q7 q8 => ?_, fun b hb => k1.own b (hown b hb), k1.GF, k1.Flt⟩
    · obtain ⟨o, C, p1, p2, p3, p4⟩ := hM' id o' q
      exact ⟨C, p2, p3.ext x fun _ _ _ => rfl⟩
    · have q : (bif Nat.ble base id then (absObjs S.objs db)[id - base]? else none) = none := q
      show renK base M.κ ids id = none
      unfold renK
      cases hle : Nat.ble base id with
      | false => rw [if_neg fun h => by rw [Nat.ble_eq_true_of_le h] at hle; cases hle]
      | true =>
        rw [hle] at q
        have q : (absObjs S.objs db)[id - base]? = none := q
        rw [List.getElem?_eq_none_iff, ol] at q
        rw [List.getElem?_eq_none q]
        split <;> rfl
    · obtain ⟨o1, C1, p1, p2, p3, p4⟩ := hM' i oi q1
      obtain ⟨o2, C2, p5, p6, p7, p8⟩ := hM' j oj q2
      exact k1.disj i j o1 o2 Ci Cj b hij p1 p5 (by rw [← p4]; exact q3) (by rw [← p8]; exact q4) q5 q6 q7 q8
  refine ⟨⟨M', rfl, h2, ok', h4.trans (.same_mem rfl rfl rfl fun b hb => k2 b (hown b hb)), fun m => ?_⟩, r.defers, r.size, r.os, r.tape, r.output, r.keep⟩
  show VRep M' (match (absSlots S.slots da).lookup m with | some v => v | none => .undef) _
  cases hl : (absSlots S.slots da).lookup m with
  | none => trivial
  | some v =>
    obtain ⟨s, y, q1, rfl⟩ := readSlots_at ha hl
    exact (readV_rep k1 q1 (renV_rep h3 (h5 m))).ext x

theorem canonS_rel {pre : Nat} {S : Spec} {st : St} {d : S.den} (r : Rel na nt a0 M0 w0 st a w) (h : canonS pre S st = some d) : Rel na nt a0 M0 w0 (stOf (pre + loopBase) S d) a w := canonSAt_rel r h
end
end Go.Ab
