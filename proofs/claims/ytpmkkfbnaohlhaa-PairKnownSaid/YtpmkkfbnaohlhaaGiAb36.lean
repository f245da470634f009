/- Calls that hand over boxes: the way out. -/
import Derived.Test.YtpmkkfbnaohlhaaGiAb35
set_option linter.unusedVariables false
set_option linter.unusedSimpArgs false
set_option linter.unusedSectionVars false
namespace Go.Ab

theorem goneUpd_at {n : Nat} : ∀ {ids : List Nat} {h : Hp}, happly h (goneUpd ids) n = if n ∈ ids then some .gone else h n
  | [], _ => by simp [goneUpd, happly]
  | id :: ids, h => by
    show happly (hset h id .gone) (goneUpd ids) n = _
    rw [goneUpd_at (ids := ids)]
    by_cases e : n = id
    · subst e; simp [hset_same]
    · rw [hset_ne _ _ e]; simp [e]

/-- What is handed over is gone; the callee's memory is there. -/
def Mst.overX (M L : Mst) (mine : List Nat) : Mst := { κ := M.κ, F := fun b => M.F b ∨ L.G b, G := L.G, h := happly M.h (goneUpd mine), H := L.H }

theorem Mst.overX_ok {M Ml L : Mst} {mine : List Nat} (ok : Ok M) (okL : Ok L) (lo : LoX M mine Ml) (ho : Owned M mine) (hand : ∀ b, Own Ml b → Hand M mine b) (g : Grow Ml L) :
    Ok (M.overX L mine) ∧ Step M (M.overX L mine) ∧ (∀ b, Own (M.overX L mine) b → Own M b ∧ ¬ Hand M mine b) := by
  have hsame : ∀ b, b < M.H.size → ¬ Hand M mine b → L.H[b]? = M.H[b]? := fun b hb hn => by rw [g.same b (by rw [lo.F]; exact ⟨hb, hn⟩), lo.H]
  have hsz : M.H.size ≤ L.H.size := by have := g.size; rw [lo.H] at this; exact this
  have hG : ∀ b, L.G b → b < M.H.size → M.G b ∨ Hand M mine b := fun b hb hs => by
    rcases g.Gb b hb (by rw [lo.H]; exact hs) with h | h
    · rw [lo.G] at h; exact .inl h
    · exact .inr (hand b h)
  have hsF : ∀ b, M.F b → L.H[b]? = M.H[b]? := fun b h => hsame b (not_hand_F ok ho h).1 (not_hand_F ok ho h).2
  have x : Ext M (M.overX L mine) := ⟨fun id C h => ⟨C, h, C.le_refl⟩, fun b h => .inl h, fun b h => g.G b (by rw [lo.G]; exact h), fun b h => hsF b h, fun b h => hsF b (ok.GF b h), fun b h => by
    have := g.bsz b (by rw [lo.H]; exact h)
    rw [lo.H] at this
    exact this⟩
  have hobj : ∀ id o, (M.overX L mine).h id = some o → o.owned = true → id ∉ mine ∧ M.h id = some o := fun id o h hoo => by
    have h : happly M.h (goneUpd mine) id = some o := h
    rw [goneUpd_at] at h
    by_cases hm : id ∈ mine
    · rw [if_pos hm] at h; cases h; cases hoo
    · rw [if_neg hm] at h; exact ⟨hm, h⟩
  have hnot : ∀ id o C, id ∉ mine → M.h id = some o → o.owned = true → M.κ id = some C → ∀ b ∈ C.fp, ¬ Hand M mine b := fun id o C hm h hoo hC b hb ⟨jd, hj, D, hD, hbD⟩ => by
    obtain ⟨q, q1, q2⟩ := ho jd hj
    exact ok.disj id jd o q C D b (fun e => hm (by rw [e]; exact hj)) h q1 hoo q2 hC hD hb hbD
  have hown : ∀ b, Own (M.overX L mine) b → Own M b ∧ ¬ Hand M mine b := fun b ⟨id, o, C, h1, h2, h3, h4⟩ => by
    obtain ⟨k1, k2⟩ := hobj id o h1 h2
    exact ⟨⟨id, o, C, k2, h2, h3, h4⟩, hnot id o C k1 k2 h2 h3 b h4⟩
  refine ⟨⟨fun id o h => ?_, fun id h => ?_, fun i j oi oj Ci Cj b hij h1 h2 h3 h4 h5 h6 h7 h8 => ?_, fun b h => ⟨fun hf => ?_, ?_⟩, fun b h => .inr h, fun b h => ?_⟩, ⟨x, hsz, fun b hb hn => hsame b hb fun hh => hn (hh.own ho), fun b h _ => (hown b h).1, fun b h hs => ?_, fun b h hs => ?_⟩, hown⟩
  · have h : happly M.h (goneUpd mine) id = some o := h
    rw [goneUpd_at] at h
    by_cases hm : id ∈ mine
    · rw [if_pos hm] at h
      cases h
      obtain ⟨q, q1, q2⟩ := ho id hm
      obtain ⟨C, hC, _⟩ := ok.obj id q q1
      exact ⟨C, hC, trivial⟩
    · rw [if_neg hm] at h
      obtain ⟨C, hC, hO⟩ := ok.obj id o h
      exact ⟨C, hC, hO.ext x fun hoo b hb => hsame b (ok.own b ⟨id, o, C, h, hoo, hC, hb⟩).2 (hnot id o C hm h hoo hC b hb)⟩
  · have h : happly M.h (goneUpd mine) id = none := h
    rw [goneUpd_at] at h
    by_cases hm : id ∈ mine
    · rw [if_pos hm] at h; cases h
    · rw [if_neg hm] at h; exact ok.non id h
  · exact ok.disj i j oi oj Ci Cj b hij (hobj i oi h1 h3).2 (hobj j oj h2 h4).2 h3 h4 h5 h6 h7 h8
  · obtain ⟨k1, k2⟩ := hown b h
    have := ok.own b k1
    rcases hf with hf | hf
    · exact this.1 hf
    · rcases hG b hf this.2 with h | h
      · exact this.1 (ok.GF b h)
      · exact k2 h
  · have h1 := (ok.own b (hown b h).1).2
    show b < L.H.size
    omega
  · show b < L.H.size
    rcases h with h | h
    · have := ok.Flt b h; omega
    · exact okL.Flt b (okL.GF b h)
  · rcases hG b h hs with h | h
    · exact .inl h
    · exact .inr (h.own ho)
  · rcases h with h | h
    · exact .inl h
    · rcases hG b h hs with h | h
      · exact .inl (ok.GF b h)
      · exact .inr (h.own ho)

/-! ### A box that comes back -/
def Conc.bare (C : Conc) : Conc := { C with ver := C.ver + 1, rows := [] }

def Mst.revive (M : Mst) (id : Nat) (C : Conc) (cs : List CVal) : Mst := { M with κ := κset M.κ id C.bare, h := hset M.h id (.box true cs) }

theorem Mst.revive_ok {M : Mst} (ok : Ok M) {id : Nat} {C : Conc} {B : Nat} {vals : Array Value} {e : TypeId} {cs : List CVal} (hC : M.κ id = some C) (hB : C.blk = some B) (hH : M.H[B]? = some (.cells vals e (0, 0))) (hc : All2 (CRep M) cs vals.toList)
    (h1 : ¬ Own M B) (h2 : ¬ M.F B) : Ok (M.revive id C cs) ∧ Ext M (M.revive id C cs) ∧ (∀ b, Own (M.revive id C cs) b → Own M b ∨ b = B) := by
  have hκ : (M.revive id C cs).κ id = some C.bare := κset_same _ _ _
  have x : Ext M (M.revive id C cs) := ⟨fun jd D h => by
    by_cases e' : jd = id
    · subst e'
      rw [hC] at h; cases h
      exact ⟨_, hκ, rfl, rfl, rfl, Nat.le_succ _, fun h => absurd h (by simp [Conc.bare])⟩
    · exact ⟨D, by show κset M.κ id _ jd = _; rw [κset_ne _ _ e']; exact h, D.le_refl⟩, fun _ h => h, fun _ h => h, fun _ _ => rfl, fun _ _ => rfl, fun _ _ => rfl⟩
  have hfp : C.bare.fp = [B] := by simp [Conc.fp, Conc.bare, hB]
  have hat : (M.revive id C cs).h id = some (.box true cs) := hset_same _ _ _
  refine ⟨Ok.build ok x (fun jd => jd = id) (fun jd h => hset_ne _ _ h) (fun jd h => κset_ne _ _ h) (fun _ _ _ _ _ _ _ _ _ => rfl) (fun jd o' D k1 k2 k3 k4 b hb' => (ok.own b ⟨jd, o', D, k2, k3, k4, hb'⟩).1) (Nat.le_refl _)
    (fun jd o' e' h => ?_) (fun jd e' h => ?_) (fun jd o' D b e' k1 k2 k3 k4 => ?_) ok.GF ok.Flt, x, fun b hb' => ?_⟩
  · subst e'
    rw [hat] at h
    cases h
    exact ⟨_, hκ, B, vals, e, hB, rfl, hH, hc.mono fun _ _ h => h.ext x, fun h => by cases h⟩
  · subst e'
    rw [hat] at h; cases h
  · subst e'
    rw [hκ] at k3
    cases k3
    rw [hfp, List.mem_singleton] at k4
    subst k4
    refine ⟨fun j oj Cj hj q1 q2 q3 q4 => h1 ⟨j, oj, Cj, ?_, q2, ?_, q4⟩, h2, (Array.getElem?_eq_some_iff.1 hH).1⟩
    · rw [← q1]; exact (hset_ne _ _ hj).symm
    · rw [← q3]; exact (κset_ne _ _ hj).symm
  · obtain ⟨jd, o', D, k1, k2, k3, k4⟩ := hb'
    by_cases e' : jd = id
    · subst e'
      rw [hκ] at k3
      cases k3
      rw [hfp, List.mem_singleton] at k4
      exact .inr k4
    · exact .inl ⟨jd, o', D, by rw [← k1]; exact (hset_ne _ _ e').symm, k2, by rw [← k3]; exact (κset_ne _ _ e').symm, k4⟩

/-- Boxes of the caller's, cells for them, where they lie. -/
structure BackAt (M : Mst) (id : Nat) (cs : List CVal) (B : Nat) : Prop where
  at' : ∃ C, M.κ id = some C ∧ C.blk = some B
  rep : ∃ vals e, M.H[B]? = some (.cells vals e (0, 0)) ∧ All2 (CRep M) cs vals.toList
  own : ¬ Own M B
  F : ¬ M.F B

def Back3 (R : Nat → List CVal → Nat → Prop) : List Nat → List (List CVal) → List Nat → Prop
  | [], [], [] => True
  | a :: l, b :: m, c :: n => R a b c ∧ Back3 R l m n
  | _, _, _ => False

theorem Back3.mono {R S : Nat → List CVal → Nat → Prop} : ∀ {l : List Nat} {m : List (List CVal)} {n : List Nat}, (∀ a b c, c ∈ n → R a b c → S a b c) → Back3 R l m n → Back3 S l m n
  | [], [], [], _, _ => trivial
  | _ :: _, _ :: _, _ :: _, h, k => ⟨h _ _ _ (List.mem_cons_self ..) k.1, Back3.mono (fun a b c hc => h a b c (List.mem_cons_of_mem _ hc)) k.2⟩
  | [], [], _ :: _, _, k => k.elim
  | [], _ :: _, _, _, k => k.elim
  | _ :: _, [], _, _, k => k.elim
  | _ :: _, _ :: _, [], _, k => k.elim

theorem revive_all : ∀ {ids : List Nat} {css : List (List CVal)} {Bs : List Nat} {M : Mst}, Ok M → Back3 (BackAt M) ids css Bs → Bs.Nodup →
    ∃ M' : Mst, M'.H = M.H ∧ M'.G = M.G ∧ M'.F = M.F ∧ M'.h = happly M.h (boxUpd ids css) ∧ Ok M' ∧ Ext M M' ∧ (∀ b, Own M' b → Own M b ∨ b ∈ Bs)
  | [], [], [], M, ok, _, _ => ⟨M, rfl, rfl, rfl, rfl, ok, .refl M, fun _ h => .inl h⟩
  | id :: ids, cs :: css, B :: Bs, M, ok, h, hn => by
    obtain ⟨C, hC, hB⟩ := h.1.at'
    obtain ⟨vals, e, hH, hc⟩ := h.1.rep
    obtain ⟨k1, k2, k3⟩ := Mst.revive_ok ok hC hB hH hc h.1.own h.1.F
    obtain ⟨n1, n2⟩ := List.nodup_cons.1 hn
    obtain ⟨M', a1, a2, a3, a4, a5, a6, a7⟩ := revive_all (M := M.revive id C cs) k1 (Back3.mono (fun a b c hcB hb => by
      refine ⟨?_, ?_, fun ho => ?_, hb.F⟩
      · obtain ⟨D, q1, q2⟩ := hb.at'
        obtain ⟨D', q3, le⟩ := k2.κ _ _ q1
        exact ⟨D', q3, le.blk.trans q2⟩
      · obtain ⟨vals, e, q1, q2⟩ := hb.rep
        exact ⟨vals, e, q1, q2.mono fun _ _ h => h.ext k2⟩
      · rcases k3 _ ho with h | h
        · exact hb.own h
        · subst h; exact n1 hcB) h.2) n2
    exact ⟨M', a1, a2, a3, a4, a5, Ext.trans (M := M) (M' := M.revive id C cs) (Nat.le_refl _) k2 a6, fun b hb => by
      rcases a7 b hb with h | h
      · exact (k3 b h).imp (fun h => h) fun h => by rw [h]; exact List.mem_cons_self ..
      · exact .inr (List.mem_cons_of_mem _ h)⟩
  | [], [], _ :: _, _, _, h, _ => h.elim
  | [], _ :: _, _, _, _, h, _ => h.elim
  | _ :: _, [], _, _, _, h, _ => h.elim
  | _ :: _, _ :: _, [], _, _, h, _ => h.elim

theorem boxUpd_eq : ∀ {ids : List Nat} {css : List (List CVal)} {h h' : Hp}, ids.length = css.length → (∀ n, n ∉ ids → h n = h' n) → happly h (boxUpd ids css) = happly h' (boxUpd ids css)
  | [], [], h, h', _, e => funext fun n => e n (by simp)
  | id :: ids, cs :: css, h, h', hl, e => boxUpd_eq (ids := ids) (css := css) (by simpa using hl) fun n hn => by
      by_cases k : n = id
      · subst k; rw [hset_same, hset_same]
      · rw [hset_ne _ _ k, hset_ne _ _ k]; exact e n (by simp [k, hn])
  | [], _ :: _, _, _, hl, _ => by simp at hl
  | _ :: _, [], _, _, hl, _ => by simp at hl

/-! ### Freezing -/
theorem frzX_sound {h0 : Hp} {s : AX} {a a' : AVal} {v : Value} {u : Upd} {M : Mst} (ok : Ok M) (hf : Frz h0 M.h) (hv : VRep M a v) (h : frzX h0 s a = some (a', u)) :
    ∃ L : Mst, L.H = M.H ∧ L.h = happly M.h u ∧ Ok L ∧ Step M L ∧ VRep L a' v ∧ Frz h0 L.h := by
  unfold frzX at h
  split at h
  · rename_i p x
    split at h
    · rename_i y u1 e
      cases h
      obtain ⟨L, h1, h2, h3, h4, h5, h6⟩ := frzW_sound (cs := [x]) (vs := [v]) ok hf ⟨hv, trivial⟩ e
      exact ⟨L, h1, h2, h3, h4, h5.1, h6⟩
    · cases h
  · rename_i l xs
    split at h
    · rename_i ys u1 e
      cases h
      obtain ⟨vs, rfl, hx⟩ := hv
      obtain ⟨L, h1, h2, h3, h4, h5, h6⟩ := frzW_sound ok hf hx e
      exact ⟨L, h1, h2, h3, h4, ⟨vs, rfl, h5⟩, h6⟩
    · cases h
  · cases h
    exact ⟨M, rfl, rfl, ok, .refl M, hv, hf⟩

theorem frzAX_sound {h0 : Hp} : ∀ {l : List AX} {as as' : List AVal} {vs : List Value} {u : Upd} {M : Mst}, Ok M → Frz h0 M.h → All2 (VRep M) as vs → frzAX h0 l as = some (as', u) →
    ∃ L : Mst, L.H = M.H ∧ L.h = happly M.h u ∧ Ok L ∧ Step M L ∧ All2 (VRep L) as' vs ∧ Frz h0 L.h
  | s :: l, a :: as, as', v :: vs, u, M, ok, hf, hv, h => by
    unfold frzAX at h
    split at h
    · rename_i a1 u1 as1 us1 e1 e2
      cases h
      obtain ⟨M1, h1, h2, h3, h4, h5, h6⟩ := frzX_sound ok hf hv.1 e1
      obtain ⟨M2, k1, k2, k3, k4, k5, k6⟩ := frzAX_sound h3 h6 (VReps.ext h4.ext hv.2) e2
      exact ⟨M2, k1.trans h1, by rw [k2, h2, happly_append], k3, h4.trans k4, ⟨h5.ext k4.ext, k5⟩, k6⟩
    · cases h
  | [], as, as', vs, u, M, ok, hf, hv, h => by
    cases as <;> cases h <;> exact ⟨M, rfl, rfl, ok, .refl M, hv, hf⟩
  | s :: l, [], as', vs, u, M, ok, hf, hv, h => by cases h; exact ⟨M, rfl, rfl, ok, .refl M, hv, hf⟩
  | _ :: _, _ :: _, _, [], _, _, _, _, hv, _ => hv.elim

/-! ### The same block, by both names -/
def SameBlk (M L : Mst) (id jd : Nat) : Prop := ∃ C D B, M.κ id = some C ∧ C.blk = some B ∧ L.κ jd = some D ∧ D.blk = some B

theorem pick_match {M L : Mst} : ∀ {ls : List (Bool × List XC)} {is js out : List Nat} {us : List Value} {cs : List CVal} {bs : List (Bool × Nat)}, boxesX M.h ls is = some (cs, bs) → pickIo ls js = some out →
    All2 (fun id u => ∃ C B, M.κ id = some C ∧ C.blk = some B ∧ u = .pointer (some ⟨B, 0, none⟩)) is us → All2 (fun id u => ∃ C B, L.κ id = some C ∧ C.blk = some B ∧ u = .pointer (some ⟨B, 0, none⟩)) js us → All2 (SameBlk M L) (ioIds bs) out
  | [], [], [], out, us, cs, bs, h, k, _, _ => by cases h; cases k; exact trivial
  | (io, l) :: ls, i :: is, j :: js, out, u :: us, cs, bs, h, k, p, q => by
    unfold boxesX at h
    split at h
    · rename_i cells rest bs' h1 h2
      obtain ⟨_, h⟩ := cond_some h
      cases h
      unfold pickIo at k
      split at k
      · rename_i o ho
        cases k
        have ih := pick_match h2 ho p.2 q.2
        cases io with
        | false => exact ih
        | true =>
          obtain ⟨C, B, k1, k2, k3⟩ := p.1
          obtain ⟨D, B', k4, k5, k6⟩ := q.1
          rw [k3] at k6
          cases k6
          exact ⟨⟨C, D, B, k1, k2, k4, k5⟩, ih⟩
      · cases k
    · cases h
  | [], _ :: _, _, _, _, _, _, h, _, _, _ => by cases h
  | _ :: _, [], _, _, _, _, _, h, _, _, _ => by cases h
  | [], [], _ :: _, _, _, _, _, _, k, _, _ => by cases k
  | _ :: _, _ :: _, [], _, _, _, _, _, k, _, _ => by cases k
  | _ :: _, _ :: _, _ :: _, _, [], _, _, _, _, p, _ => p.elim

theorem ioOne_match {M L : Mst} {s : AX} {a b : AVal} {v : Value} {cs : List CVal} {bs : List (Bool × Nat)} {out : List Nat} (h : s.get M.h a = some (cs, bs)) (k : s.io b = some out) (p : VRep M a v) (q : s.looks = true → VRep L b v) : All2 (SameBlk M L) (ioIds bs) out := by
  unfold AX.get at h
  split at h
  · cases h; cases k; exact trivial
  · obtain ⟨_, h'⟩ := cond_some h
    cases h'; cases k; exact trivial
  · rename_i io l id
    unfold AX.io at k
    split at k
    · rename_i e; cases e
    · rename_i e; cases e
    · rename_i io' l' jd e
      cases e
      exact pick_match (us := [v]) h k ⟨p, trivial⟩ ⟨q rfl, trivial⟩
    · rename_i e; cases e
    · cases k
  · rename_i f caps g ids
    obtain ⟨hg, h'⟩ := cond_some h
    unfold AX.io at k
    split at k
    · rename_i e; cases e
    · rename_i e; cases e
    · rename_i e; cases e
    · rename_i f' caps' g' js e
      cases e
      obtain ⟨cv, rfl, hc⟩ := p
      obtain ⟨cv', e', hc'⟩ := q rfl
      cases e'
      exact pick_match h' k hc hc'
    · cases k
  · cases h

theorem ioAll_match {M L : Mst} : ∀ {l : List AX} {as : List AVal} {vs : List Value} {t : Nat → AVal} {n : Nat} {cs : List CVal} {bs : List (Bool × Nat)} {out : List Nat}, getAllX M.h l as = some (cs, bs) → ioAll l t n = some out → All2 (VRep M) as vs → (∀ i (h : i < vs.length) s, l[i]? = some s → s.looks = true → VRep L (t (n + i)) vs[i]) →
    All2 (SameBlk M L) (ioIds bs) out
  | [], [], [], t, n, cs, bs, out, h, k, _, _ => by cases h; cases k; exact trivial
  | s :: l, a :: as, v :: vs, t, n, cs, bs, out, h, k, p, q => by
    unfold getAllX at h
    split at h
    · rename_i c1 b1 c2 b2 h1 h2
      cases h
      unfold ioAll at k
      split at k
      · rename_i o1 o2 k1 k2
        cases k
        have e : ∀ b1 b2 : List (Bool × Nat), ioIds (b1 ++ b2) = ioIds b1 ++ ioIds b2 := fun b1 b2 => by
          induction b1 with
          | nil => rfl
          | cons x b1 ih => obtain ⟨io, y⟩ := x; cases io <;> simp [ioIds, ih]
        rw [e]
        refine (ioOne_match h1 k1 p.1 (q 0 (by simp) s rfl)).append (ioAll_match h2 k2 p.2 fun i hi s' hs hl => ?_)
        have := q (i + 1) (by simpa using hi) s' (by simpa using hs) hl
        rw [show n + (i + 1) = n + 1 + i by omega] at this
        simpa using this
      · cases k
    · cases h
  | [], [], _ :: _, _, _, _, _, _, _, _, p, _ => p.elim
  | [], _ :: _, _, _, _, _, _, _, h, _, _, _ => by cases h
  | _ :: _, [], _, _, _, _, _, _, h, _, _, _ => by cases h
  | _ :: _, _ :: _, [], _, _, _, _, _, _, _, p, _ => p.elim

/-- The cells of boxes, as they are in the end. -/
theorem boxCells_at {L : Mst} (okL : Ok L) : ∀ {os : List (List RC)} {ids : List Nat} {bs : List CVal}, boxCells L.h os ids = some bs → bs.length = os.flatten.length ∧ ids.length = os.length ∧
    ∃ us : List Value, All2 (CRep L) bs us ∧ ∀ {M : Mst} {cs : List CVal}, M.H = L.H → All2 (CRep M) cs us → Back3 (fun id cs B => (∃ cells, L.h id = some (.box true cells)) ∧ (∃ C, L.κ id = some C ∧ C.blk = some B ∧ C.rows = []) ∧ ∃ vals e, M.H[B]? = some (.cells vals e (0, 0)) ∧ All2 (CRep M) cs vals.toList) ids (cutR os cs) (ids.map fun id => ((L.κ id).bind Conc.blk).getD 0)
  | [], [], bs, h => by cases h; exact ⟨rfl, rfl, [], trivial, fun _ _ => trivial⟩
  | o :: os, n :: ns, bs, h => by
    unfold boxCells at h
    split at h
    · rename_i cells rest h1 h2
      obtain ⟨hl, h⟩ := cond_some h
      cases h
      have hl : cells.length = o.length := Nat.eq_of_beq_eq_true hl
      obtain ⟨C, hC, B, vals, e, q1, q2, q3, q4, _⟩ := okL.obj n _ h1
      obtain ⟨k1, k2, us, k3, k4⟩ := boxCells_at okL h2
      refine ⟨by simp [hl, k1], by simp [k2], vals.toList ++ us, q4.append k3, fun {M cs} hH hc => ⟨⟨⟨cells, h1⟩, ⟨C, hC, ?_, q2⟩, vals, e, ?_, ?_⟩, ?_⟩⟩
      · show C.blk = some (((L.κ n).bind Conc.blk).getD 0); rw [hC]; show C.blk = some (C.blk.getD 0); rw [q1]; rfl
      · show M.H[((L.κ n).bind Conc.blk).getD 0]? = _; rw [hC, hH]; show L.H[C.blk.getD 0]? = _; rw [q1]; exact q3
      · have h1 := All2.take o.length hc
        have hwl := q4.length
        rw [show (vals.toList ++ us).take o.length = vals.toList from by rw [List.take_append_of_le_length (by omega), List.take_of_length_le (by omega)]] at h1
        exact h1
      · have h1 := All2.drop o.length hc
        have hwl := q4.length
        rw [show (vals.toList ++ us).drop o.length = us from by rw [show o.length = vals.toList.length by omega, List.drop_left]] at h1
        exact k4 hH h1
    · cases h
  | [], _ :: _, _, h => by cases h
  | _ :: _, [], _, h => by cases h

theorem nobox_one {h0 : Hp} {r : RC} {c : CVal} {d : r.den} (h : outR h0 r c = some d) : ∀ id ∈ ownIds [r] [c], ∀ own cells, h0 id ≠ some (.box own cells) := by
  unfold outR at h
  split at h
  all_goals (try (intro id hid; simp [ownIds] at hid; done))
  all_goals first
    | (cases h; done)
    | (intro id' hid own cells hb
       have := List.mem_singleton.1 hid
       subst this
       rw [hb] at h
       cases h)
    | (cases h; intro id' hid; simp [ownIds] at hid)

theorem nobox_all {L : Hp} : ∀ {l : List RC} {cs : List CVal} {d : RL l}, outRL L l cs = some d → ∀ id ∈ ownIds l cs, ∀ own cells, L id ≠ some (.box own cells)
  | [], [], _, _, id, hid => by cases hid
  | r :: l, c :: cs, d, h, id, hid => by
    unfold outRL at h
    split at h
    · rename_i x xs e1 e2
      rw [ownIds_cons] at hid
      rcases List.mem_append.1 hid with hid | hid
      · exact nobox_one e1 id hid
      · exact nobox_all e2 id hid
    · cases h
  | [], _ :: _, _, h, _, _ => by cases h
  | _ :: _, [], _, h, _, _ => by cases h
end Go.Ab
