/- part 3 -/
import Derived.Test.YtdhajnjinkknkaaGreatGiAbC
import Derived.Laws.Externs
set_option linter.unusedVariables false
set_option linter.unusedSimpArgs false
set_option linter.unusedSectionVars false
namespace Go.Ab
theorem goneUpd_at {n : Nat} : ∀ {ids : List Nat} {h : Hp}, happly h (goneUpd ids) n = if n ∈ ids then some .gone else h n
 | [], _ => by simp [goneUpd, happly]
 | id :: ids, h => by
  show happly (hset h id .gone) (goneUpd ids) n = _
  rw [goneUpd_at (ids := ids)]
  by_cases e : n = id
  ·subst e; simp [hset_same]
  ·rw [hset_ne _ _ e]; simp [e]
def Mst.overX (M L : Mst) (mine : List Nat) : Mst := { κ := M.κ, F := fun b => M.F b ∨ L.G b, G := L.G, h := happly M.h (goneUpd mine), H := L.H }
theorem Mst.overX_ok {M Ml L : Mst} {mine : List Nat} (ok : Ok M) (okL : Ok L) (lo : LoX M mine Ml) (ho : Owned M mine) (hand : ∀ b, Own Ml b → Hand M mine b) (g : Grow Ml L) :
  Ok (M.overX L mine) ∧ Step M (M.overX L mine) ∧ (∀ b, Own (M.overX L mine) b → Own M b ∧ ¬ Hand M mine b) := by
 have hsame : ∀ b, b < M.H.size → ¬ Hand M mine b → L.H[b]? = M.H[b]? := fun b hb hn => by rw [g.same b (by rw [lo.F]; exact ⟨hb, hn⟩), lo.H]
 have hsz : M.H.size ≤ L.H.size := by have := g.size; rw [lo.H] at this; exact this
 have hG : ∀ b, L.G b → b < M.H.size → M.G b ∨ Hand M mine b := fun b hb hs => by
  rcases g.Gb b hb (by rw [lo.H]; exact hs) with h | h
  ·rw [lo.G] at h; exact .inl h
  ·exact .inr (hand b h)
 have hsF : ∀ b, M.F b → L.H[b]? = M.H[b]? := fun b h => hsame b (not_hand_F ok ho h).1 (not_hand_F ok ho h).2
 have x : Ext M (M.overX L mine) := ⟨fun id C h => ⟨C, h, C.le_refl⟩, fun b h => .inl h, fun b h => g.G b (by rw [lo.G]; exact h), fun b h => hsF b h, fun b h => hsF b (ok.GF b h), fun b h => by
  have := g.bsz b (by rw [lo.H]; exact h)
  rw [lo.H] at this
  exact this⟩
 have hobj : ∀ id o, (M.overX L mine).h id = some o → o.owned = true → id ∉ mine ∧ M.h id = some o := fun id o h hoo => by
  have h : happly M.h (goneUpd mine) id = some o := h
  rw [goneUpd_at] at h
  by_cases hm : id ∈ mine
  ·rw [if_pos hm] at h; cases h; cases hoo
  ·rw [if_neg hm] at h; exact ⟨hm, h⟩
 have hnot : ∀ id o C, id ∉ mine → M.h id = some o → o.owned = true → M.κ id = some C → ∀ b ∈ C.fp, ¬ Hand M mine b := fun id o C hm h hoo hC b hb ⟨jd, hj, D, hD, hbD⟩ => by
  obtain ⟨q, q1, q2⟩ := ho jd hj
  exact ok.disj id jd o q C D b (fun e => hm (by rw [e]; exact hj)) h q1 hoo q2 hC hD hb hbD
 have hown : ∀ b, Own (M.overX L mine) b → Own M b ∧ ¬ Hand M mine b := fun b ⟨id, o, C, h1, h2, h3, h4⟩ => by
  obtain ⟨k1, k2⟩ := hobj id o h1 h2
  exact ⟨⟨id, o, C, k2, h2, h3, h4⟩, hnot id o C k1 k2 h2 h3 b h4⟩
 refine ⟨⟨fun id o h => ?_, fun id h => ?_, fun i j oi oj Ci Cj b hij h1 h2 h3 h4 h5 h6 h7 h8 => ?_, fun b h => ⟨fun hf => ?_, ?_⟩, fun b h => .inr h, fun b h => ?_⟩, ⟨x, hsz, fun b hb hn => hsame b hb fun hh => hn (hh.own ho), fun b h _ => (hown b h).1, fun b h hs => ?_, fun b h hs => ?_⟩, hown⟩
 ·have h : happly M.h (goneUpd mine) id = some o := h
  rw [goneUpd_at] at h
  by_cases hm : id ∈ mine
  ·rw [if_pos hm] at h
   cases h
   obtain ⟨q, q1, q2⟩ := ho id hm
   obtain ⟨C, hC, _⟩ := ok.obj id q q1
   exact ⟨C, hC, trivial⟩
  ·rw [if_neg hm] at h
   obtain ⟨C, hC, hO⟩ := ok.obj id o h
   exact ⟨C, hC, hO.ext x fun hoo b hb => hsame b (ok.own b ⟨id, o, C, h, hoo, hC, hb⟩).2 (hnot id o C hm h hoo hC b hb)⟩
 ·have h : happly M.h (goneUpd mine) id = none := h
  rw [goneUpd_at] at h
  by_cases hm : id ∈ mine
  ·rw [if_pos hm] at h; cases h
  ·rw [if_neg hm] at h; exact ok.non id h
 ·exact ok.disj i j oi oj Ci Cj b hij (hobj i oi h1 h3).2 (hobj j oj h2 h4).2 h3 h4 h5 h6 h7 h8
 ·obtain ⟨k1, k2⟩ := hown b h
  have := ok.own b k1
  rcases hf with hf | hf
  ·exact this.1 hf
  ·rcases hG b hf this.2 with h | h
   ·exact this.1 (ok.GF b h)
   ·exact k2 h
 ·have h1 := (ok.own b (hown b h).1).2
  show b < L.H.size
  omega
 ·show b < L.H.size
  rcases h with h | h
  ·have := ok.Flt b h; omega
  ·exact okL.Flt b (okL.GF b h)
 ·rcases hG b h hs with h | h
  ·exact .inl h
  ·exact .inr (h.own ho)
 ·rcases h with h | h
  ·exact .inl h
  ·rcases hG b h hs with h | h
   ·exact .inl (ok.GF b h)
   ·exact .inr (h.own ho)
def Conc.bare (C : Conc) : Conc := { C with ver := C.ver + 1, rows := [] }
def Mst.revive (M : Mst) (id : Nat) (C : Conc) (cs : List CVal) : Mst := { M with κ := κset M.κ id C.bare, h := hset M.h id (.box true cs) }
theorem Mst.revive_ok {M : Mst} (ok : Ok M) {id : Nat} {C : Conc} {B : Nat} {vals : Array Value} {e : TypeId} {cs : List CVal} (hC : M.κ id = some C) (hB : C.blk = some B) (hH : M.H[B]? = some (.cells vals e (0, 0))) (hc : All2 (CRep M) cs vals.toList)
  (h1 : ¬ Own M B) (h2 : ¬ M.F B) : Ok (M.revive id C cs) ∧ Ext M (M.revive id C cs) ∧ (∀ b, Own (M.revive id C cs) b → Own M b ∨ b = B) := by
 have hκ : (M.revive id C cs).κ id = some C.bare := κset_same _ _ _
 have x : Ext M (M.revive id C cs) := ⟨fun jd D h => by
  by_cases e' : jd = id
  ·subst e'
   rw [hC] at h; cases h
   exact ⟨_, hκ, rfl, rfl, rfl, Nat.le_succ _, fun h => absurd h (by simp [Conc.bare])⟩
  ·exact ⟨D, by show κset M.κ id _ jd = _; rw [κset_ne _ _ e']; exact h, D.le_refl⟩, fun _ h => h, fun _ h => h, fun _ _ => rfl, fun _ _ => rfl, fun _ _ => rfl⟩
 have hfp : C.bare.fp = [B] := by simp [Conc.fp, Conc.bare, hB]
 have hat : (M.revive id C cs).h id = some (.box true cs) := hset_same _ _ _
 refine ⟨Ok.build ok x (fun jd => jd = id) (fun jd h => hset_ne _ _ h) (fun jd h => κset_ne _ _ h) (fun _ _ _ _ _ _ _ _ _ => rfl) (fun jd o' D k1 k2 k3 k4 b hb' => (ok.own b ⟨jd, o', D, k2, k3, k4, hb'⟩).1) (Nat.le_refl _)
  (fun jd o' e' h => ?_) (fun jd e' h => ?_) (fun jd o' D b e' k1 k2 k3 k4 => ?_) ok.GF ok.Flt, x, fun b hb' => ?_⟩
 ·subst e'
  rw [hat] at h
  cases h
  exact ⟨_, hκ, B, vals, e, hB, rfl, hH, hc.mono fun _ _ h => h.ext x, fun h => by cases h⟩
 ·subst e'
  rw [hat] at h; cases h
 ·subst e'
  rw [hκ] at k3
  cases k3
  rw [hfp, List.mem_singleton] at k4
  subst k4
  refine ⟨fun j oj Cj hj q1 q2 q3 q4 => h1 ⟨j, oj, Cj, ?_, q2, ?_, q4⟩, h2, (Array.getElem?_eq_some_iff.1 hH).1⟩
  ·rw [← q1]; exact (hset_ne _ _ hj).symm
  ·rw [← q3]; exact (κset_ne _ _ hj).symm
 ·obtain ⟨jd, o', D, k1, k2, k3, k4⟩ := hb'
  by_cases e' : jd = id
  ·subst e'
   rw [hκ] at k3
   cases k3
   rw [hfp, List.mem_singleton] at k4
   exact .inr k4
  ·exact .inl ⟨jd, o', D, by rw [← k1]; exact (hset_ne _ _ e').symm, k2, by rw [← k3]; exact (κset_ne _ _ e').symm, k4⟩
structure BackAt (M : Mst) (id : Nat) (cs : List CVal) (B : Nat) : Prop where
 at' : ∃ C, M.κ id = some C ∧ C.blk = some B
 rep : ∃ vals e, M.H[B]? = some (.cells vals e (0, 0)) ∧ All2 (CRep M) cs vals.toList
 own : ¬ Own M B
 F : ¬ M.F B
def Back3 (R : Nat → List CVal → Nat → Prop) : List Nat → List (List CVal) → List Nat → Prop
 | [], [], [] => True
 | a :: l, b :: m, c :: n => R a b c ∧ Back3 R l m n
 | _, _, _ => False
theorem Back3.mono {R S : Nat → List CVal → Nat → Prop} : ∀ {l : List Nat} {m : List (List CVal)} {n : List Nat}, (∀ a b c, c ∈ n → R a b c → S a b c) → Back3 R l m n → Back3 S l m n
 | [], [], [], _, _ => trivial
 | _ :: _, _ :: _, _ :: _, h, k => ⟨h _ _ _ (List.mem_cons_self ..) k.1, Back3.mono (fun a b c hc => h a b c (List.mem_cons_of_mem _ hc)) k.2⟩
 | [], [], _ :: _, _, k => k.elim
 | [], _ :: _, _, _, k => k.elim
 | _ :: _, [], _, _, k => k.elim
 | _ :: _, _ :: _, [], _, k => k.elim
theorem revive_all : ∀ {ids : List Nat} {css : List (List CVal)} {Bs : List Nat} {M : Mst}, Ok M → Back3 (BackAt M) ids css Bs → Bs.Nodup →
  ∃ M' : Mst, M'.H = M.H ∧ M'.G = M.G ∧ M'.F = M.F ∧ M'.h = happly M.h (boxUpd ids css) ∧ Ok M' ∧ Ext M M' ∧ (∀ b, Own M' b → Own M b ∨ b ∈ Bs)
 | [], [], [], M, ok, _, _ => ⟨M, rfl, rfl, rfl, rfl, ok, .refl M, fun _ h => .inl h⟩
 | id :: ids, cs :: css, B :: Bs, M, ok, h, hn => by
  obtain ⟨C, hC, hB⟩ := h.1.at'
  obtain ⟨vals, e, hH, hc⟩ := h.1.rep
  obtain ⟨k1, k2, k3⟩ := Mst.revive_ok ok hC hB hH hc h.1.own h.1.F
  obtain ⟨n1, n2⟩ := List.nodup_cons.1 hn
  obtain ⟨M', a1, a2, a3, a4, a5, a6, a7⟩ := revive_all (M := M.revive id C cs) k1 (Back3.mono (fun a b c hcB hb => by
   refine ⟨?_, ?_, fun ho => ?_, hb.F⟩
   ·obtain ⟨D, q1, q2⟩ := hb.at'
    obtain ⟨D', q3, le⟩ := k2.κ _ _ q1
    exact ⟨D', q3, le.blk.trans q2⟩
   ·obtain ⟨vals, e, q1, q2⟩ := hb.rep
    exact ⟨vals, e, q1, q2.mono fun _ _ h => h.ext k2⟩
   ·rcases k3 _ ho with h | h
    ·exact hb.own h
    ·subst h; exact n1 hcB) h.2) n2
  exact ⟨M', a1, a2, a3, a4, a5, Ext.trans (M := M) (M' := M.revive id C cs) (Nat.le_refl _) k2 a6, fun b hb => by
   rcases a7 b hb with h | h
   ·exact (k3 b h).imp (fun h => h) fun h => by rw [h]; exact List.mem_cons_self ..
   ·exact .inr (List.mem_cons_of_mem _ h)⟩
 | [], [], _ :: _, _, _, h, _ => h.elim
 | [], _ :: _, _, _, _, h, _ => h.elim
 | _ :: _, [], _, _, _, h, _ => h.elim
 | _ :: _, _ :: _, [], _, _, h, _ => h.elim
theorem boxUpd_eq : ∀ {ids : List Nat} {css : List (List CVal)} {h h' : Hp}, ids.length = css.length → (∀ n, n ∉ ids → h n = h' n) → happly h (boxUpd ids css) = happly h' (boxUpd ids css)
 | [], [], h, h', _, e => funext fun n => e n (by simp)
 | id :: ids, cs :: css, h, h', hl, e => boxUpd_eq (ids := ids) (css := css) (by simpa using hl) fun n hn => by
   by_cases k : n = id
   ·subst k; rw [hset_same, hset_same]
   ·rw [hset_ne _ _ k, hset_ne _ _ k]; exact e n (by simp [k, hn])
 | [], _ :: _, _, _, hl, _ => by simp at hl
 | _ :: _, [], _, _, hl, _ => by simp at hl
theorem frzX_sound {h0 : Hp} {s : AX} {a a' : AVal} {v : Value} {u : Upd} {M : Mst} (ok : Ok M) (hf : Frz h0 M.h) (hv : VRep M a v) (h : frzX h0 s a = some (a', u)) :
  ∃ L : Mst, L.H = M.H ∧ L.h = happly M.h u ∧ Ok L ∧ Step M L ∧ VRep L a' v ∧ Frz h0 L.h := by
 unfold frzX at h
 split at h
 ·rename_i p x
  split at h
  ·rename_i y u1 e
   cases h
   obtain ⟨L, h1, h2, h3, h4, h5, h6⟩ := frzW_sound (cs := [x]) (vs := [v]) ok hf ⟨hv, trivial⟩ e
   exact ⟨L, h1, h2, h3, h4, h5.1, h6⟩
  ·cases h
 ·rename_i l xs
  split at h
  ·rename_i ys u1 e
   cases h
   obtain ⟨vs, rfl, hx⟩ := hv
   obtain ⟨L, h1, h2, h3, h4, h5, h6⟩ := frzW_sound ok hf hx e
   exact ⟨L, h1, h2, h3, h4, ⟨vs, rfl, h5⟩, h6⟩
  ·cases h
 ·cases h
  exact ⟨M, rfl, rfl, ok, .refl M, hv, hf⟩
theorem frzAX_sound {h0 : Hp} : ∀ {l : List AX} {as as' : List AVal} {vs : List Value} {u : Upd} {M : Mst}, Ok M → Frz h0 M.h → All2 (VRep M) as vs → frzAX h0 l as = some (as', u) →
  ∃ L : Mst, L.H = M.H ∧ L.h = happly M.h u ∧ Ok L ∧ Step M L ∧ All2 (VRep L) as' vs ∧ Frz h0 L.h
 | s :: l, a :: as, as', v :: vs, u, M, ok, hf, hv, h => by
  unfold frzAX at h
  split at h
  ·rename_i a1 u1 as1 us1 e1 e2
   cases h
   obtain ⟨M1, h1, h2, h3, h4, h5, h6⟩ := frzX_sound ok hf hv.1 e1
   obtain ⟨M2, k1, k2, k3, k4, k5, k6⟩ := frzAX_sound h3 h6 (VReps.ext h4.ext hv.2) e2
   exact ⟨M2, k1.trans h1, by rw [k2, h2, happly_append], k3, h4.trans k4, ⟨h5.ext k4.ext, k5⟩, k6⟩
  ·cases h
 | [], as, as', vs, u, M, ok, hf, hv, h => by
  cases as <;> cases h <;> exact ⟨M, rfl, rfl, ok, .refl M, hv, hf⟩
 | s :: l, [], as', vs, u, M, ok, hf, hv, h => by cases h; exact ⟨M, rfl, rfl, ok, .refl M, hv, hf⟩
 | _ :: _, _ :: _, _, [], _, _, _, _, hv, _ => hv.elim
def SameBlk (M L : Mst) (id jd : Nat) : Prop := ∃ C D B, M.κ id = some C ∧ C.blk = some B ∧ L.κ jd = some D ∧ D.blk = some B
theorem pick_match {M L : Mst} : ∀ {ls : List (Bool × List XC)} {is js out : List Nat} {us : List Value} {cs : List CVal} {bs : List (Bool × Nat)}, boxesX M.h ls is = some (cs, bs) → pickIo ls js = some out →
  All2 (fun id u => ∃ C B, M.κ id = some C ∧ C.blk = some B ∧ u = .pointer (some ⟨B, 0, none⟩)) is us → All2 (fun id u => ∃ C B, L.κ id = some C ∧ C.blk = some B ∧ u = .pointer (some ⟨B, 0, none⟩)) js us → All2 (SameBlk M L) (ioIds bs) out
 | [], [], [], out, us, cs, bs, h, k, _, _ => by cases h; cases k; exact trivial
 | (io, l) :: ls, i :: is, j :: js, out, u :: us, cs, bs, h, k, p, q => by
  unfold boxesX at h
  split at h
  ·rename_i cells rest bs' h1 h2
   obtain ⟨_, h⟩ := cond_some h
   cases h
   unfold pickIo at k
   split at k
   ·rename_i o ho
    cases k
    have ih := pick_match h2 ho p.2 q.2
    cases io with
    | false => exact ih
    | true =>
     obtain ⟨C, B, k1, k2, k3⟩ := p.1
     obtain ⟨D, B', k4, k5, k6⟩ := q.1
     rw [k3] at k6
     cases k6
     exact ⟨⟨C, D, B, k1, k2, k4, k5⟩, ih⟩
   ·cases k
  ·cases h
 | [], _ :: _, _, _, _, _, _, h, _, _, _ => by cases h
 | _ :: _, [], _, _, _, _, _, h, _, _, _ => by cases h
 | [], [], _ :: _, _, _, _, _, _, k, _, _ => by cases k
 | _ :: _, _ :: _, [], _, _, _, _, _, k, _, _ => by cases k
 | _ :: _, _ :: _, _ :: _, _, [], _, _, _, _, p, _ => p.elim
theorem ioOne_match {M L : Mst} {s : AX} {a b : AVal} {v : Value} {cs : List CVal} {bs : List (Bool × Nat)} {out : List Nat} (h : s.get M.h a = some (cs, bs)) (k : s.io b = some out) (p : VRep M a v) (q : s.looks = true → VRep L b v) : All2 (SameBlk M L) (ioIds bs) out := by
 unfold AX.get at h
 split at h
 ·cases h; cases k; exact trivial
 ·obtain ⟨_, h'⟩ := cond_some h
  cases h'; cases k; exact trivial
 ·rename_i io l id
  unfold AX.io at k
  split at k
  ·rename_i e; cases e
  ·rename_i e; cases e
  ·rename_i io' l' jd e
   cases e
   exact pick_match (us := [v]) h k ⟨p, trivial⟩ ⟨q rfl, trivial⟩
  ·rename_i e; cases e
  ·cases k
 ·rename_i f caps g ids
  obtain ⟨hg, h'⟩ := cond_some h
  unfold AX.io at k
  split at k
  ·rename_i e; cases e
  ·rename_i e; cases e
  ·rename_i e; cases e
  ·rename_i f' caps' g' js e
   cases e
   obtain ⟨cv, rfl, hc⟩ := p
   obtain ⟨cv', e', hc'⟩ := q rfl
   cases e'
   exact pick_match h' k hc hc'
  ·cases k
 ·cases h
theorem ioAll_match {M L : Mst} : ∀ {l : List AX} {as : List AVal} {vs : List Value} {t : Nat → AVal} {n : Nat} {cs : List CVal} {bs : List (Bool × Nat)} {out : List Nat}, getAllX M.h l as = some (cs, bs) → ioAll l t n = some out → All2 (VRep M) as vs → (∀ i (h : i < vs.length) s, l[i]? = some s → s.looks = true → VRep L (t (n + i)) vs[i]) →
  All2 (SameBlk M L) (ioIds bs) out
 | [], [], [], t, n, cs, bs, out, h, k, _, _ => by cases h; cases k; exact trivial
 | s :: l, a :: as, v :: vs, t, n, cs, bs, out, h, k, p, q => by
  unfold getAllX at h
  split at h
  ·rename_i c1 b1 c2 b2 h1 h2
   cases h
   unfold ioAll at k
   split at k
   ·rename_i o1 o2 k1 k2
    cases k
    have e : ∀ b1 b2 : List (Bool × Nat), ioIds (b1 ++ b2) = ioIds b1 ++ ioIds b2 := fun b1 b2 => by
     induction b1 with
     | nil => rfl
     | cons x b1 ih => obtain ⟨io, y⟩ := x; cases io <;> simp [ioIds, ih]
    rw [e]
    refine (ioOne_match h1 k1 p.1 (q 0 (by simp) s rfl)).append (ioAll_match h2 k2 p.2 fun i hi s' hs hl => ?_)
    have := q (i + 1) (by simpa using hi) s' (by simpa using hs) hl
    rw [show n + (i + 1) = n + 1 + i by omega] at this
    simpa using this
   ·cases k
  ·cases h
 | [], [], _ :: _, _, _, _, _, _, _, _, p, _ => p.elim
 | [], _ :: _, _, _, _, _, _, _, h, _, _, _ => by cases h
 | _ :: _, [], _, _, _, _, _, _, h, _, _, _ => by cases h
 | _ :: _, _ :: _, [], _, _, _, _, _, _, _, p, _ => p.elim
theorem boxCells_at {L : Mst} (okL : Ok L) : ∀ {os : List (List RC)} {ids : List Nat} {bs : List CVal}, boxCells L.h os ids = some bs → bs.length = os.flatten.length ∧ ids.length = os.length ∧
  ∃ us : List Value, All2 (CRep L) bs us ∧ ∀ {M : Mst} {cs : List CVal}, M.H = L.H → All2 (CRep M) cs us → Back3 (fun id cs B => (∃ cells, L.h id = some (.box true cells)) ∧ (∃ C, L.κ id = some C ∧ C.blk = some B ∧ C.rows = []) ∧ ∃ vals e, M.H[B]? = some (.cells vals e (0, 0)) ∧ All2 (CRep M) cs vals.toList) ids (cutR os cs) (ids.map fun id => ((L.κ id).bind Conc.blk).getD 0)
 | [], [], bs, h => by cases h; exact ⟨rfl, rfl, [], trivial, fun _ _ => trivial⟩
 | o :: os, n :: ns, bs, h => by
  unfold boxCells at h
  split at h
  ·rename_i cells rest h1 h2
   obtain ⟨hl, h⟩ := cond_some h
   cases h
   have hl : cells.length = o.length := Nat.eq_of_beq_eq_true hl
   obtain ⟨C, hC, B, vals, e, q1, q2, q3, q4, _⟩ := okL.obj n _ h1
   obtain ⟨k1, k2, us, k3, k4⟩ := boxCells_at okL h2
   refine ⟨by simp [hl, k1], by simp [k2], vals.toList ++ us, q4.append k3, fun {M cs} hH hc => ⟨⟨⟨cells, h1⟩, ⟨C, hC, ?_, q2⟩, vals, e, ?_, ?_⟩, ?_⟩⟩
   ·show C.blk = some (((L.κ n).bind Conc.blk).getD 0); rw [hC]; show C.blk = some (C.blk.getD 0); rw [q1]; rfl
   ·show M.H[((L.κ n).bind Conc.blk).getD 0]? = _; rw [hC, hH]; show L.H[C.blk.getD 0]? = _; rw [q1]; exact q3
   ·have h1 := All2.take o.length hc
    have hwl := q4.length
    rw [show (vals.toList ++ us).take o.length = vals.toList from by rw [List.take_append_of_le_length (by omega), List.take_of_length_le (by omega)]] at h1
    exact h1
   ·have h1 := All2.drop o.length hc
    have hwl := q4.length
    rw [show (vals.toList ++ us).drop o.length = us from by rw [show o.length = vals.toList.length by omega, List.drop_left]] at h1
    exact k4 hH h1
  ·cases h
 | [], _ :: _, _, h => by cases h
 | _ :: _, [], _, h => by cases h
theorem nobox_one {h0 : Hp} {r : RC} {c : CVal} {d : r.den} (h : outR h0 r c = some d) : ∀ id ∈ ownIds [r] [c], ∀ own cells, h0 id ≠ some (.box own cells) := by
  unfold outR at h
  split at h
  all_goals (try (intro id hid; simp [ownIds] at hid; done))
  all_goals first
    | (cases h; done)
    | (intro id' hid own cells hb
       have := List.mem_singleton.1 hid
       subst this
       rw [hb] at h
       cases h)
    | (cases h; intro id' hid; simp [ownIds] at hid)
theorem nobox_all {L : Hp} : ∀ {l : List RC} {cs : List CVal} {d : RL l}, outRL L l cs = some d → ∀ id ∈ ownIds l cs, ∀ own cells, L id ≠ some (.box own cells)
 | [], [], _, _, id, hid => by cases hid
 | r :: l, c :: cs, d, h, id, hid => by
  unfold outRL at h
  split at h
  ·rename_i x xs e1 e2
   rw [ownIds_cons] at hid
   rcases List.mem_append.1 hid with hid | hid
   ·exact nobox_one e1 id hid
   ·exact nobox_all e2 id hid
  ·cases h
 | [], _ :: _, _, h, _, _ => by cases h
 | _ :: _, [], _, h, _, _ => by cases h
end Go.Ab
set_option linter.unusedVariables false
set_option linter.unusedSimpArgs false
set_option linter.unusedSectionVars false
namespace Go.Ab
theorem ioIds_append : ∀ (a b : List (Bool × Nat)), ioIds (a ++ b) = ioIds a ++ ioIds b
 | [], _ => rfl
 | (true, _) :: a, b => by simp [ioIds, ioIds_append a b]
 | (false, _) :: a, b => by simp [ioIds, ioIds_append a b]
theorem boxesX_owned {h : Hp} : ∀ {ls : List (Bool × List XC)} {is : List Nat} {cs : List CVal} {bs : List (Bool × Nat)}, boxesX h ls is = some (cs, bs) → ∀ id ∈ ioIds bs, ∃ o, h id = some o ∧ o.owned = true
 | [], [], _, _, e => by cases e; intro id hid; cases hid
 | (io, l) :: ls, i :: is, cs, bs, e => by
  unfold boxesX at e
  split at e
  ·rename_i cells rest bs' h1 h2
   obtain ⟨_, e⟩ := cond_some e
   cases e
   intro id hid
   cases io with
   | false => exact boxesX_owned h2 id hid
   | true =>
    rcases List.mem_cons.1 hid with rfl | hid
    ·unfold boxX at h1
     split at h1
     ·rename_i c hc
      exact ⟨_, hc, rfl⟩
     ·rename_i e' _; cases e'
     ·rename_i e' _; cases e'
     ·cases h1
    ·exact boxesX_owned h2 id hid
  ·cases e
 | [], _ :: _, _, _, e => by cases e
 | _ :: _, [], _, _, e => by cases e
theorem getX_owned {h : Hp} {s : AX} {a : AVal} {cs : List CVal} {bs : List (Bool × Nat)} (e : s.get h a = some (cs, bs)) : ∀ id ∈ ioIds bs, ∃ o, h id = some o ∧ o.owned = true := by
 unfold AX.get at e
 split at e
 ·cases e; intro id hid; cases hid
 ·obtain ⟨_, e⟩ := cond_some e
  cases e; intro id hid; cases hid
 ·exact boxesX_owned e
 ·obtain ⟨_, e⟩ := cond_some e
  exact boxesX_owned e
 ·cases e
theorem getAllX_owned {h : Hp} : ∀ {l : List AX} {as : List AVal} {cs : List CVal} {bs : List (Bool × Nat)}, getAllX h l as = some (cs, bs) → l.length = as.length ∧ ∀ id ∈ ioIds bs, ∃ o, h id = some o ∧ o.owned = true
 | [], [], _, _, e => by cases e; exact ⟨rfl, fun id hid => by cases hid⟩
 | s :: l, a :: as, cs, bs, e => by
  unfold getAllX at e
  split at e
  ·rename_i c1 b1 c2 b2 h1 h2
   cases e
   obtain ⟨k1, k2⟩ := getAllX_owned h2
   refine ⟨by simp [k1], fun id hid => ?_⟩
   rw [ioIds_append] at hid
   rcases List.mem_append.1 hid with hid | hid
   ·exact getX_owned h1 id hid
   ·exact k2 id hid
  ·cases e
 | [], _ :: _, _, _, e => by cases e
 | _ :: _, [], _, _, e => by cases e
theorem inXL_owned {h : Hp} : ∀ {l : List XC} {cs : List CVal} {d : XL l}, inXL h l cs = some d → ∀ id ∈ rowIds l cs, ∃ o, h id = some o ∧ o.owned = true
 | [], [], _, _ => fun id hid => by cases hid
 | x :: l, c :: cs, d, e => by
  unfold inXL at e
  split at e
  ·rename_i y ys h1 h2
   cases e
   have ih := inXL_owned h2
   unfold inX at h1
   split at h1
   ·exact ih
   ·rename_i t id
    intro jd hid
    rcases List.mem_cons.1 hid with rfl | hid
    ·split at h1
     ·rename_i s xs hs
      exact ⟨_, hs, rfl⟩
     ·cases h1
    ·exact ih jd hid
   ·rename_i id
    intro jd hid
    rcases List.mem_cons.1 hid with rfl | hid
    ·split at h1
     ·rename_i s xs hs
      exact ⟨_, hs, rfl⟩
     ·cases h1
    ·exact ih jd hid
   ·rename_i id
    intro jd hid
    rcases List.mem_cons.1 hid with rfl | hid
    ·split at h1
     ·rename_i xs hs
      exact ⟨_, hs, rfl⟩
     ·cases h1
    ·exact ih jd hid
   ·cases h1
  ·cases e
 | [], _ :: _, _, e => by cases e
 | _ :: _, [], _, e => by cases e
theorem apartL_spec {a b : List Nat} (h : apartL a b = true) : ∀ id ∈ b, id ∉ a := fun id hb ha => by
 have h := List.all_eq_true.1 h id ha
 have : b.any (Nat.beq id) = true := List.any_eq_true.2 ⟨id, hb, by simp⟩
 rw [this] at h; cases h
theorem cutR_length : ∀ (os : List (List RC)) (cs : List CVal), (cutR os cs).length = os.length
 | [], _ => rfl
 | _ :: os, cs => by simp [cutR, cutR_length os]
theorem back_match {M L : Mst} {P : Mst → Nat → Prop} {R : Nat → List CVal → Nat → Prop} : ∀ {ids js : List Nat} {css : List (List CVal)} {Bs : List Nat}, All2 (SameBlk M L) ids js → Back3 R js css Bs → Back3 (fun id cs B => ∃ jd, SameBlk M L id jd ∧ R jd cs B) ids css Bs
 | [], [], [], [], _, _ => trivial
 | _ :: _, _ :: _, _ :: _, _ :: _, h, k => ⟨⟨_, h.1, k.1⟩, back_match (P := P) h.2 k.2⟩
 | [], [], [], _ :: _, _, k => k.elim
 | [], [], _ :: _, _, _, k => by cases k
 | [], _ :: _, _, _, h, _ => h.elim
 | _ :: _, [], _, _, h, _ => h.elim
 | _ :: _, _ :: _, [], _, _, k => k.elim
 | _ :: _, _ :: _, _ :: _, [], _, k => k.elim
theorem entryX_soundC {P : Program} {na : Nat} {f : FuncId} (hcall : ∀ vs w, (callFunc f vs).run P w = .ok (.enter f vs) w)
  {as : List AX} {rs : RS} {os : List (List RC)} {X : Type} {S : XD as → Option X} {pack : X → RL (rs.cells ++ os.flatten)} {unpack : RL (rs.cells ++ os.flatten) → X} (hpu : ∀ d, pack (unpack d) = d) (hna : looksBelow as na = true)
  (hcalls : ∀ d x, S d = some x → ∀ (M : Mst) (w : World) (vs : Array Value), M.h = (absArgsX as d).2 → M.H = w.heap → Ok M → All2 (VRep M) (absArgsX as d).1 vs.toList → Calls P f vs w fun
   | .returned rv, w' => ∃ (M' : Mst) (v : AVal) (st : St), outXM as rs os unpack v st = some x ∧ M'.h = st.h ∧ M'.H = w'.heap ∧ Ok M' ∧ Grow M M' ∧ VRep M' v rv ∧ w'.os = w.os ∧ w'.tape = w.tape ∧ w'.output = w.output ∧
     (∀ t, t < na → VRep M' (st.t t) (vs.getD t undef))
   | _, _ => False)
  {nm : Nat} {args : List AVal} {h : Hp} {v : AVal} {u : Upd} (hy : Yields (entryX as rs os S pack nm args h) v u) : CallOK P f args h v u := by
 intro M w vs hh hH ok hv
 refine .inl ⟨hcall vs w, ?_⟩
 unfold entryX at hy
 split at hy
 ·exact hy.elim
 rename_i args' u0 hfrz
 split at hy
 ·exact hy.elim
 rename_i cs bs hget
 split at hy
 ·exact hy.elim
 rename_i d hd
 dsimp only at hy
 obtain ⟨hc, hy⟩ := yields_if hy
 simp only [Bool.and_eq_true] at hc
 obtain ⟨⟨⟨⟨⟨hc1, hc2⟩, hc3⟩, hc4⟩, hc5⟩, hc6⟩ := hc
 obtain ⟨x, hx, rfl, rfl⟩ := hy
 subst hh
 obtain ⟨M1, a1, a2, a3, a4, a5, a6⟩ := frzAX_sound ok (Frz.refl _) hv hfrz
 rw [← a2] at hd hget
 obtain ⟨hlen1, hio⟩ := getAllX_owned hget
 have hrow := inXL_owned hd
 have howned : Owned M1 (ioIds bs ++ rowIds (as.flatMap AX.cells) cs) := fun id hid => (List.mem_append.1 hid).elim (hio id) (hrow id)
 have hnd0 := noDup_spec hc4
 obtain ⟨Ml, lo, b2, b3, b4, b5, b6⟩ := in_okX a3 a5 hget hd hnd0 (apartL_spec hc5) (apartL_spec hc6) (Nat.le_of_ble_eq_true hc3) howned
 generalize hmine : ioIds bs ++ rowIds (as.flatMap AX.cells) cs = mine at *
 refine Calls.mono (hcalls d x hx Ml w vs b2 (by rw [lo.H, a1]; exact hH) b3 b5) fun e w' he => ?_
 cases e with
 | panicked _ => exact he.elim
 | outgrown => exact he.elim
 | returned rv =>
  obtain ⟨L0, v0, st, hK, c1, c2, c3, c4, c5, c6, c7, c8, c9⟩ := he
  have hK : outX st as rs os v0 = some (pack x) := by
   unfold outXM at hK
   split at hK
   ·rename_i d' hd'
    cases hK
    rw [hd', hpu]
   ·cases hK
  unfold outX at hK
  split at hK
  ·cases hK
  rename_i ids hids
  split at hK
  case h_2 => cases hK
  rename_i ccs bcs hcs hbcs
  obtain ⟨hndi, hK⟩ := cond_some hK
  split at hK
  case h_2 => cases hK
  rename_i cs' u1 hfr
  obtain ⟨hnd, hK⟩ := cond_some hK
  obtain ⟨hlen, us, d1, d2⟩ := res_shape hcs c5
  rw [← c1] at hfr hK hbcs
  obtain ⟨k1, k2, us2, k3, k4⟩ := boxCells_at c3 hbcs
  obtain ⟨L, e1, e2, e3, e4, e5, e6⟩ := frzW_sound c3 (Frz.refl _) (d1.append k3) hfr
  rw [← e2] at hK
  have g : Grow Ml L := c4.trans e4.grow
  obtain ⟨f1, f2, f3⟩ := Mst.overX_ok a3 e3 lo howned b4 g
  have hsame : All2 (SameBlk M1 L0) (ioIds bs) ids := ioAll_match hget hids a5 fun i hi s hs hlk => by
   have hi' : i < vs.size := by simpa using hi
   have hl := a5.length
   have hlt : i < na := by
    have := List.all_eq_true.1 hna (s, i) (List.mk_mem_zipIdx_iff_getElem?.2 hs)
    simp only [hlk, Bool.not_true, Bool.false_or] at this
    exact blt_true this
   have := c9 i hlt
   rw [Nat.zero_add]
   have e : vs.getD i undef = vs.toList[i] := by simp [hi']
   rw [← e]; exact this
  have hfree : ∀ i, i < (rs.cells ++ os.flatten).length → (M1.overX L mine).h (nm + i) = none := fun i hi => by
   have h1 := freeN_at hc1 i hi
   have h2 : M1.h (nm + i) = none := by
    rw [a2]
    rcases a6 (nm + i) with h | ⟨own, t, xs, h, _⟩ | ⟨ver, xs, h, _⟩
    ·rw [a2] at h; rw [h]; exact h1
    ·rw [h1] at h; cases h
    ·rw [h1] at h; cases h
   show happly M1.h (goneUpd mine) (nm + i) = none
   rw [goneUpd_at, if_neg, h2]
   intro hm'
   obtain ⟨o, ho, _⟩ := howned _ hm'
   rw [h2] at ho; cases ho
  have hlow : ∀ b, Own L b → b < M1.H.size → Hand M1 mine b := fun b hb hlt => b4 b (g.own b hb (by rw [lo.H]; exact hlt))
  have hnotF : ∀ b, Own L b → ¬ (M1.overX L mine).F b := fun b hb h => by
   rcases h with h | h
   ·exact (not_hand_F a3 howned h).2 (hlow b hb (a3.Flt b h))
   ·exact (e3.own b hb).1 (e3.GF b h)
  have hnotO : ∀ b, Own L b → ¬ Own (M1.overX L mine) b := fun b hb h => by
   obtain ⟨q1, q2⟩ := f3 b h
   exact q2 (hlow b hb (a3.own b q1).2)
  obtain ⟨Mc, g1, g2, g3, g4, g5, g6, g7, g8⟩ := got_all e3 f1 ⟨rfl, rfl⟩ hfree hK (noDup_spec hnd) (ownIds_owned hK) (fun id hid C hC b hb => by
   obtain ⟨o, ho, hoo⟩ := ownIds_owned hK id hid
   have hown : Own L b := ⟨id, o, C, ho, hoo, hC, hb⟩
   exact ⟨hnotO b hown, hnotF b hown, (e3.own b hown).2⟩)
  have hgot := g8 _ e5
  have hul : us.length = rs.cells.length := by rw [← d1.length, hlen]
  have hgr : All2 (CRep Mc) ((gotL nm (rs.cells ++ os.flatten) (pack x)).1.take rs.cells.length) us := by
   have := All2.take rs.cells.length hgot
   rwa [show (us ++ us2).take rs.cells.length = us from by rw [← hul, List.take_left]] at this
  have hgb : All2 (CRep Mc) ((gotL nm (rs.cells ++ os.flatten) (pack x)).1.drop rs.cells.length) us2 := by
   have := All2.drop rs.cells.length hgot
   rwa [show (us ++ us2).drop rs.cells.length = us2 from by rw [← hul, List.drop_left]] at this
  have hHc : Mc.H = L0.H := by rw [g1]; exact e1
  have hback := back_match (P := fun _ _ => True) hsame (k4 hHc hgb)
  have hblk : ∀ id jd B, SameBlk M1 L0 id jd → (∃ C, L0.κ jd = some C ∧ C.blk = some B ∧ C.rows = []) → ∃ C, M1.κ id = some C ∧ C.blk = some B := fun id jd B ⟨C, D, B', q1, q2, q3, q4⟩ ⟨D', q5, q6, _⟩ => by
   rw [q3] at q5; cases q5
   rw [q4] at q6; cases q6
   exact ⟨C, q1, q2⟩
  have hlbox : ∀ jd B, (∃ cells, L0.h jd = some (.box true cells)) → (∃ C, L0.κ jd = some C ∧ C.blk = some B ∧ C.rows = []) → ∃ cells C, L.h jd = some (.box true cells) ∧ L.κ jd = some C ∧ B ∈ C.fp := fun jd B ⟨cells, q1⟩ ⟨C, q2, q3, _⟩ => by
   obtain ⟨C', q4, le⟩ := e4.ext.κ jd C q2
   refine ⟨cells, C', ?_, q4, ?_⟩
   ·rcases e6 jd with h | ⟨own, t, xs, h, _⟩ | ⟨ver, xs, h, _⟩
    ·rw [h, q1]
    ·rw [q1] at h; cases h
    ·rw [q1] at h; cases h
   ·have : C'.blk = some B := le.blk.trans q3
    simp [Conc.fp, this]
  have hback2 : Back3 (BackAt Mc) (ioIds bs) (cutR os ((gotL nm (rs.cells ++ os.flatten) (pack x)).1.drop rs.cells.length)) (ids.map fun id => ((L0.κ id).bind Conc.blk).getD 0) := Back3.mono (fun id css B _ ⟨jd, q1, q2, q3, q4⟩ => by
   obtain ⟨C, p1, p2⟩ := hblk id jd B q1 q3
   obtain ⟨C', p3, le⟩ := (f2.ext.trans f2.size g6).κ id C p1
   obtain ⟨cells, D, p4, p5, p6⟩ := hlbox jd B q2 q3
   have hown : Own L B := ⟨jd, _, D, p4, rfl, p5, p6⟩
   refine ⟨⟨C', p3, le.blk.trans p2⟩, q4, fun ho => ?_, ?_⟩
   ·rcases g7 B ho with h | ⟨kd, hkd, D', p7, p8⟩
    ·exact hnotO B hown h
    ·obtain ⟨o, p9, p10⟩ := ownIds_owned hK kd hkd
     refine e3.disj jd kd _ o D D' B (fun e => ?_) p4 p9 rfl p10 p5 p7 p6 p8
     exact nobox_all hK kd hkd true cells (by rw [← e]; exact p4)
   ·rw [g3]; exact hnotF B hown) hback
  have hBs : (ids.map fun id => ((L0.κ id).bind Conc.blk).getD 0).Nodup := by
   have hndi := noDup_spec hndi
   have hmem : ∀ {js : List Nat} {css : List (List CVal)} {Bs : List Nat}, Back3 (fun id cs B => (∃ cells, L0.h id = some (.box true cells)) ∧ (∃ C, L0.κ id = some C ∧ C.blk = some B ∧ C.rows = []) ∧ ∃ vals e, Mc.H[B]? = some (.cells vals e (0, 0)) ∧ All2 (CRep Mc) cs vals.toList) js css Bs →
     (∀ j, j ∈ js → (∃ cells, L0.h j = some (.box true cells)) ∧ ∃ C B, L0.κ j = some C ∧ C.blk = some B) := by
    intro js
    induction js with
    | nil => intro css Bs _ j hj; cases hj
    | cons a js ih =>
     intro css Bs hb j hj
     cases css with
     | nil => exact hb.elim
     | cons c css =>
      cases Bs with
      | nil => exact hb.elim
      | cons B Bs =>
       rcases List.mem_cons.1 hj with rfl | hj
       ·obtain ⟨q1, ⟨C, q2, q3, _⟩, _⟩ := hb.1
        exact ⟨q1, C, B, q2, q3⟩
       ·exact ih hb.2 j hj
   have hall := hmem (k4 hHc hgb)
   clear hback hback2 k4 hmem hgb hsame hbcs k2 hids
   revert hndi hall
   generalize ids = js
   intro hndi hall
   induction js with
   | nil => exact List.nodup_nil
   | cons a js ih =>
    obtain ⟨n1, n2⟩ := List.nodup_cons.1 hndi
    refine List.nodup_cons.2 ⟨fun hm' => ?_, ih n2 fun j hj => hall j (List.mem_cons_of_mem _ hj)⟩
    obtain ⟨j, hj, hje⟩ := List.mem_map.1 hm'
    obtain ⟨⟨c1', q1⟩, C, B, q2, q3⟩ := hall a (List.mem_cons_self ..)
    obtain ⟨⟨c2', q4⟩, D, B', q5, q6⟩ := hall j (List.mem_cons_of_mem _ hj)
    have hje : ((L0.κ j).bind Conc.blk).getD 0 = ((L0.κ a).bind Conc.blk).getD 0 := hje
    rw [q2, q5] at hje
    have hje : (D.blk.getD 0) = (C.blk.getD 0) := hje
    rw [q3, q6] at hje
    have hje : B' = B := hje
    subst hje
    exact c3.disj a j _ _ C D B' (fun e => n1 (by rw [e]; exact hj)) q1 q4 rfl rfl q2 q5 (by simp [Conc.fp, q3]) (by simp [Conc.fp, q6])
  obtain ⟨Mf, r1, r2, r3, r4, r5, r6, r7⟩ := revive_all g5 hback2 hBs
  have hBhand : ∀ b, b ∈ (ids.map fun id => ((L0.κ id).bind Conc.blk).getD 0) → Own M1 b := by
   have : ∀ {is : List Nat} {css : List (List CVal)} {Bs : List Nat}, (∀ id ∈ is, id ∈ ioIds bs) → Back3 (fun id cs B => ∃ jd, SameBlk M1 L0 id jd ∧ (∃ cells, L0.h jd = some (.box true cells)) ∧ (∃ C, L0.κ jd = some C ∧ C.blk = some B ∧ C.rows = []) ∧ ∃ vals e, Mc.H[B]? = some (.cells vals e (0, 0)) ∧ All2 (CRep Mc) cs vals.toList) is css Bs → ∀ b ∈ Bs, Own M1 b := by
    intro is
    induction is with
    | nil =>
     intro css Bs _ hb b hbB
     cases css with
     | nil => cases Bs with
      | nil => cases hbB
      | cons _ _ => exact hb.elim
     | cons _ _ => exact hb.elim
    | cons a is ih =>
     intro css Bs hm' hb b hbB
     cases css with
     | nil => exact hb.elim
     | cons c css =>
      cases Bs with
      | nil => exact hb.elim
      | cons B Bs =>
       rcases List.mem_cons.1 hbB with rfl | hbB
       ·obtain ⟨jd, q1, q2, q3, _⟩ := hb.1
        obtain ⟨C, p1, p2⟩ := hblk a jd b q1 q3
        obtain ⟨o, p3, p4⟩ := hio a (hm' a (List.mem_cons_self ..))
        exact ⟨a, o, C, p3, p4, p1, by simp [Conc.fp, p2]⟩
       ·exact ih (fun id hid => hm' id (List.mem_cons_of_mem _ hid)) hb.2 b hbB
   exact this (fun _ h => h) hback
  have st2 : Step M1 Mf := by
   have hown : ∀ b, Own Mf b → b < M1.H.size → Own M1 b := fun b hb hlt => by
    rcases r7 b hb with hb | hb
    ·rcases g7 b hb with h | ⟨id, hid, C, hC, hbC⟩
     ·exact (f3 b h).1
     ·obtain ⟨o, ho, hoo⟩ := ownIds_owned hK id hid
      exact (hlow b ⟨id, o, C, ho, hoo, hC, hbC⟩ hlt).own howned
    ·exact hBhand b hb
   have hg1 : Mf.H = (M1.overX L mine).H := r1.trans g1
   refine ⟨(f2.ext.trans f2.size g6).trans ?_ r6, ?_, fun b hb hn => ?_, hown, fun b hb hlt => ?_, fun b hb hlt => ?_⟩
   ·rw [g1]; exact f2.size
   ·rw [hg1]; exact f2.size
   ·rw [hg1]; exact f2.frame b hb hn
   ·rw [r2, g2] at hb; exact f2.Gb b hb hlt
   ·rw [r3, g3] at hb; exact f2.Fb b hb hlt
  refine ⟨Mf, ⟨c6, c7, c8, ?_, ?_, r5, a4.trans st2⟩, ?_⟩
  ·rw [r1, g1]; show L.H = _; rw [e1, c2]
  ·rw [r4, g4]
   show happly (happly (happly M1.h (goneUpd mine)) (gotL nm (rs.cells ++ os.flatten) (pack x)).2) (boxUpd (ioIds bs) (cutR os ((gotL nm (rs.cells ++ os.flatten) (pack x)).1.drop rs.cells.length))) = happly M.h (u0 ++ (goneUpd (rowIds (as.flatMap AX.cells) cs) ++ ((gotL nm (rs.cells ++ os.flatten) (pack x)).2 ++ boxUpd (ioIds bs) (cutR os ((gotL nm (rs.cells ++ os.flatten) (pack x)).1.drop rs.cells.length)))))
   rw [happly_append, happly_append, happly_append, ← a2]
   refine boxUpd_eq (by rw [cutR_length, hsame.length, k2]) fun n hn => happly_at ?_
   rw [goneUpd_at, goneUpd_at, ← hmine]
   simp [hn]
  ·exact d2 Mf _ (hgr.mono fun _ _ h => h.ext r6)
theorem entryX_sound {E : Env} (hE : EnvOK E) (hS : SumsLocal E.sums) (hm : E.P.follows .mixedOrders = true) {A : Notes} {k pre na : Nat} {f : FuncId} {fn : Func} (hf : E.P.funcs[f]? = some fn) (hL : ∀ c, fn.body = some c → LoopsOK E.P A pre na fn.ntmps c) (hcall : ∀ vs w, (callFunc f vs).run E.P w = .ok (.enter f vs) w)
  {as : List AX} {rs : RS} {os : List (List RC)} {X : Type} {S : XD as → Option X} {pack : X → RL (rs.cells ++ os.flatten)} {unpack : RL (rs.cells ++ os.flatten) → X} (hpu : ∀ d, pack (unpack d) = d) (hna : looksBelow as na = true)
  (hev : ∀ d, evF E A k pre na fn (absArgsX as d).1 (absArgsX as d).2 (outXM as rs os unpack) = S d)
  {nm : Nat} {args : List AVal} {h : Hp} {v : AVal} {u : Upd} (hy : Yields (entryX as rs os S pack nm args h) v u) : CallOK E.P f args h v u :=
 entryX_soundC hcall hpu hna (fun d x hx M w vs h1 h2 h3 h4 => evF_calls hE hS hm hf hL ((hev d).trans hx) h1 h2 h3 h4) hy
end Go.Ab
set_option linter.unusedVariables false
set_option linter.unusedSimpArgs false
set_option linter.unusedSectionVars false
namespace Go.Ab
section
variable {h h' : Hp}
theorem inX_h {x : XC} {c : CVal} (hh : ∀ id ∈ idsC c, h id = h' id) : inX h x c = inX h' x c := by
 unfold inX
 split
 ·exact inP_h hh
 ·rename_i id; rw [hh id (by simp [idsC])]
 ·rename_i id; rw [hh id (by simp [idsC])]
 ·rename_i id; rw [hh id (by simp [idsC])]
 ·rfl
theorem inXL_h : ∀ {l : List XC} {cs : List CVal}, (∀ id ∈ cs.flatMap idsC, h id = h' id) → inXL h l cs = inXL h' l cs
 | [], [], _ => rfl
 | [], _ :: _, _ => rfl
 | _ :: _, [], _ => rfl
 | p :: l, c :: cs, hh => by
  simp only [List.flatMap_cons, List.mem_append] at hh
  unfold inXL
  rw [inX_h fun id hi => hh id (.inl hi), inXL_h fun id hi => hh id (.inr hi)]
theorem boxesX_nil {ls : List (Bool × List XC)} : boxesX h ls [] = boxesX h' ls [] := by
 cases ls <;> rfl
theorem getX_h {s : AX} {a : AVal} (hb : boxy a = false) : s.get h a = s.get h' a := by
 unfold AX.get
 cases s with
 | c p => cases a <;> rfl
 | agg l => cases a <;> rfl
 | ptr io l =>
  cases a with
  | c x => cases x <;> first | rfl | (exact absurd hb (by simp [boxy]))
  | _ => rfl
 | fn f caps =>
  cases a with
  | c x => cases x with
   | fn g ids =>
    cases ids with
    | nil => dsimp only; rw [boxesX_nil]
    | cons _ _ => exact absurd hb (by simp [boxy])
   | _ => rfl
  | _ => rfl
theorem getX_ids {s : AX} {a : AVal} {cs : List CVal} {bs : List (Bool × Nat)} (hb : boxy a = false) (e : s.get h a = some (cs, bs)) : ∀ id ∈ cs.flatMap idsC, id ∈ idsV a := by
 unfold AX.get at e
 split at e
 ·cases e; intro id hid; simp only [List.flatMap_cons, List.flatMap_nil, List.append_nil] at hid; exact hid
 ·obtain ⟨_, e⟩ := cond_some e
  cases e; exact fun id hid => hid
 ·exact absurd hb (by simp [boxy])
 ·rename_i f caps g ids
  obtain ⟨_, e⟩ := cond_some e
  cases ids with
  | nil => cases caps with
   | nil => cases e; intro id hid; simp at hid
   | cons _ _ => cases e
  | cons _ _ => exact absurd hb (by simp [boxy])
 ·cases e
theorem getAllX_h : ∀ {l : List AX} {as : List AVal}, as.any boxy = false → getAllX h l as = getAllX h' l as
 | [], [], _ => rfl
 | [], _ :: _, _ => rfl
 | _ :: _, [], _ => rfl
 | s :: l, a :: as, hb => by
  simp only [List.any_cons, Bool.or_eq_false_iff] at hb
  unfold getAllX
  rw [getX_h (h := h) (h' := h') hb.1, getAllX_h hb.2]
theorem getAllX_ids : ∀ {l : List AX} {as : List AVal} {cs : List CVal} {bs : List (Bool × Nat)}, as.any boxy = false → getAllX h l as = some (cs, bs) → ∀ id ∈ cs.flatMap idsC, id ∈ as.flatMap idsV
 | [], [], cs, bs, _, e => by cases e; intro id hid; simp at hid
 | [], _ :: _, _, _, _, e => by cases e
 | _ :: _, [], _, _, _, e => by cases e
 | s :: l, a :: as, cs, bs, hb, e => by
  simp only [List.any_cons, Bool.or_eq_false_iff] at hb
  unfold getAllX at e
  split at e
  ·rename_i c1 b1 c2 b2 e1 e2
   cases e
   intro id hid
   rw [List.flatMap_append, List.mem_append] at hid
   rw [List.flatMap_cons, List.mem_append]
   rcases hid with hid | hid
   ·exact .inl (getX_ids hb.1 e1 id hid)
   ·exact .inr (getAllX_ids hb.2 e2 id hid)
  ·cases e
theorem frzX_h {s : AX} {a : AVal} (hh : ∀ id ∈ idsV a, h id = h' id) : frzX h s a = frzX h' s a := by
 unfold frzX
 split
 ·rename_i p x
  have := frzW_h (h := h) (h' := h') (l := [p.isKept]) (cs := [x]) (by rw [one_ids]; exact hh)
  simp only [this]
 ·rename_i l xs
  have := frzW_h (h := h) (h' := h') (l := l.map PC.isKept) (cs := xs) hh
  simp only [this]
 ·rfl
theorem frzX_ids {s : AX} {a a' : AVal} {u : Upd} (e : frzX h s a = some (a', u)) : (∀ id ∈ idsV a', id ∈ idsV a) ∧ (boxy a = false → boxy a' = false) := by
 unfold frzX at e
 split at e
 ·rename_i p x
  split at e
  ·rename_i y u1 e1
   cases e
   refine ⟨fun id hid => by have := frzW_ids e1 id (by rw [one_ids]; exact hid); rwa [one_ids] at this, fun hb => ?_⟩
   cases hk : p.isKept with
   | false => rw [hk] at e1; cases e1; exact hb
   | true =>
    rw [hk] at e1
    unfold frzW at e1
    split at e1
    ·rename_i c1 u2 cs1 us1 e2 e3
     cases e3
     cases e1
     cases hy : boxy (.c y) with
     | false => rfl
     | true => rw [(frzC_ids e2).2 hy] at hb; cases hb
    ·cases e1
  ·cases e
 ·rename_i l xs
  split at e
  ·rename_i ys u1 e1
   cases e
   exact ⟨frzW_ids e1, fun _ => rfl⟩
  ·cases e
 ·cases e; exact ⟨fun _ h => h, fun h => h⟩
theorem frzAX_h : ∀ {l : List AX} {as : List AVal}, (∀ id ∈ as.flatMap idsV, h id = h' id) → frzAX h l as = frzAX h' l as
 | [], as, _ => by cases as <;> rfl
 | _ :: _, [], _ => rfl
 | s :: l, a :: as, hh => by
  simp only [List.flatMap_cons, List.mem_append] at hh
  unfold frzAX
  rw [frzX_h fun id hi => hh id (.inl hi), frzAX_h fun id hi => hh id (.inr hi)]
theorem frzAX_ids : ∀ {l : List AX} {as as' : List AVal} {u : Upd}, frzAX h l as = some (as', u) → (∀ id ∈ as'.flatMap idsV, id ∈ as.flatMap idsV) ∧ (as.any boxy = false → as'.any boxy = false)
 | [], as, as', u, e => by cases as <;> cases e <;> exact ⟨fun _ h => h, fun h => h⟩
 | s :: l, [], as', u, e => by cases e; exact ⟨fun _ h => h, fun h => h⟩
 | s :: l, a :: as, as', u, e => by
  unfold frzAX at e
  split at e
  ·rename_i a1 u1 as1 us1 e1 e2
   cases e
   obtain ⟨k1, k2⟩ := frzX_ids e1
   obtain ⟨k3, k4⟩ := frzAX_ids e2
   refine ⟨fun id hid => ?_, fun hb => ?_⟩
   ·rw [List.flatMap_cons, List.mem_append] at hid ⊢
    exact hid.imp (k1 id) (k3 id)
   ·simp only [List.any_cons, Bool.or_eq_false_iff] at hb ⊢
    exact ⟨k2 hb.1, k4 hb.2⟩
  ·cases e
end
theorem entryX_local {as : List AX} {rs : RS} {os : List (List RC)} {X : Type} {S : Nat → XD as → Option X} {pack : X → RL (rs.cells ++ os.flatten)} : EntryLocal fun k nm args h => entryX as rs os (S k) pack nm args h := by
 intro k nm args h h' h1 h2
 cases hb : args.any boxy with
 | true => rw [h2 hb]
 | false =>
  have hh := h1 hb
  show entryX as rs os (S k) pack nm args h = entryX as rs os (S k) pack nm args h'
  unfold entryX
  rw [frzAX_h (h := h) (h' := h') fun id hid => hh id (.inl hid)]
  cases e : frzAX h' as args with
  | none => rfl
  | some p =>
   obtain ⟨args', u⟩ := p
   obtain ⟨k1, k2⟩ := frzAX_ids e
   dsimp only
   rw [getAllX_h (h := happly h u) (h' := happly h' u) (k2 hb)]
   cases e2 : getAllX (happly h' u) as args' with
   | none => rfl
   | some q =>
    obtain ⟨cs, bs⟩ := q
    dsimp only
    rw [inXL_h (h := happly h u) (h' := happly h' u) fun id hid => happly_at (hh id (.inl (k1 id (getAllX_ids (k2 hb) e2 id hid))))]
    cases inXL (happly h' u) (as.flatMap AX.cells) cs with
    | none => rfl
    | some d =>
     dsimp only
     cases hle : Nat.ble (rs.cells ++ os.flatten).length 100 with
     | false => simp
     | true =>
      have hle := Nat.le_of_ble_eq_true hle
      rw [freeN_h (h := h) (h' := h') fun i hi => hh _ (.inr (by
       simp only [inOwn, Bool.and_eq_true]
       exact ⟨Nat.ble_eq_true_of_le (by omega), by simp [Nat.blt_eq]; omega⟩))]
end Go.Ab
set_option linter.unusedVariables false
namespace Go.Ab
structure FnOK (P : Program) (r : Nat × Entry) : Prop where
 ok : EntryOK P r
 loc : EntryLocal r.2
def Fns (P : Program) : List (Nat × Entry) → Prop
 | [] => True
 | r :: l => FnOK P r ∧ Fns P l
theorem Fns.all {P : Program} : ∀ {l : List (Nat × Entry)}, Fns P l → ∀ r ∈ l, FnOK P r
 | [], _, _, h => by cases h
 | a :: l, h, r, hr => by
  rcases List.mem_cons.1 hr with rfl | hr
  ·exact h.1
  ·exact Fns.all h.2 r hr
structure EnvB (E : Env) : Prop where
 ok : EnvOK E
 loc : SumsLocal E.sums
 ord : E.P.follows .mixedOrders = true
theorem env_b {P : Program} {l : List (Nat × Entry)} {eqT : TypeId → Bool} (he : EqOK P eqT) (hm : P.follows .mixedOrders = true) (h : Fns P l) : EnvB ⟨P, eqT, sumsOf l⟩ :=
 ⟨⟨he, sumsOf_ok fun r hr => (h.all r hr).ok⟩, sumsOf_local fun r hr => (h.all r hr).loc, hm⟩
theorem env_n {P : Program} {l : List (Nat × Entry)} (hm : P.follows .mixedOrders = true) (h : Fns P l) : EnvB ⟨P, fun _ => false, sumsOf l⟩ := env_b eqOK_none hm h
theorem loops1 {P : Program} {A : Notes} {pre na nt : Nat} {c : Code} {L : LoopSum} (h : LoopOK P pre na nt (loopAt c 0) L) (hn : (loopsIn c).length = 1 := by kernel_rfl) (hl : noteOf A (loopAt c 0) = some L := by kernel_rfl) : LoopsOK P A pre na nt c :=
 loopsOK_of hn fun i hi => by
  obtain rfl : i = 0 := by omega
  exact ⟨L, hl, h⟩
theorem loops0 {P : Program} {A : Notes} {pre na nt : Nat} {c : Code} (hn : (loopsIn c).length = 0 := by kernel_rfl) : LoopsOK P A pre na nt c := loopsOK_none hn
def StepOK (E : Env) (A : Notes) (na nt : Nat) (b : Code) (inS : Spec) (outs : List (Ex × Spec)) {X Y : Type} (toX : OutD outs → X) (c : Y → inS.den → Option X) (bf : Nat → Y → Y) : Prop :=
 ∀ k rec d, c (bf k rec) d = evC E A k 1000 na nt b (stOf (1000 + loopBase) inS d) (roundK 1000 inS outs toX (c rec))
abbrev Elim (X : Type) := Nat → X → (R : Type) → (Ex → St → Option R) → Option R
theorem loop_b {E : Env} {A : Notes} {na nt : Nat} {b : Code} {inS : Spec} {outs : List (Ex × Spec)} {X Y : Type} {toX : OutD outs → X} {c : Y → inS.den → Option X} {bf : Nat → Y → Y} (hE : EnvB E) (hs : StepOK E A na nt b inS outs toX c bf) (f : Nat → Nat → Y) (elim : Elim X)
  (hX : ∀ o R K, elim (1000 + loopBase) (toX o) R K = elimD (1000 + loopBase) outs o K) (hL : LoopsOK E.P A 1000 na nt b) (h0 : ∀ k d, c (f k 0) d = none := by intros; rfl) (h1 : ∀ k n, f k (n + 1) = bf k (f k n) := by intros; rfl) :
  LoopOK E.P 1000 na nt b ⟨inS, outs, X, fun k d => c (f k k) d, elim⟩ :=
 loop_sound hE.ok hE.loc hE.ord hL toX elim hX (fun k n d => c (f k n) d) h0 (fun k n d => by rw [h1]; exact hs k (f k n) d)
def EvOK (E : Env) (A : Notes) (na : Nat) (fn : Func) (as : List AS) (rs : RS) {X : Type} (up : RL rs.cells → X) (S : Nat → AD as → Option X) : Prop :=
 ∀ k d, evF E A k 1000 na fn (absArgs as d).1 (absArgs as d).2 (outM rs up) = S k d
def EvOKX (E : Env) (A : Notes) (na : Nat) (fn : Func) (as : List AX) (rs : RS) (os : List (List RC)) {X : Type} (up : RL (rs.cells ++ os.flatten) → X) (S : Nat → XD as → Option X) : Prop :=
 ∀ k d, evF E A k 1000 na fn (absArgsX as d).1 (absArgsX as d).2 (outXM as rs os up) = S k d
theorem fn_b {E : Env} {A : Notes} {na f : Nat} {fn : Func} {as : List AS} {rs : RS} {X : Type} {S : Nat → AD as → Option X} {pack : X → RL rs.cells} {unpack : RL rs.cells → X} (hE : EnvB E) (hev : EvOK E A na fn as rs unpack S) (hL : LoopsOK E.P A 1000 na fn.ntmps (bodyOf fn))
  (hf : E.P.funcs[f]? = some fn := by kernel_rfl) (hb : fn.body.isNone = false := by kernel_rfl) (hn : (fn.name == "runtime.NumGoroutine") = false := by kernel_rfl) (hpu : ∀ d, pack (unpack d) = d := by intro d; rfl) :
  FnOK E.P (f, fun k nm args h => entry as rs (S k) pack nm args h) :=
 ⟨fun k _ _ _ _ _ hy => entry_sound hE.ok hE.loc hE.ord hf (body_loops hL) (enters hf hb hn) hpu (hev k) hy, entry_local⟩
theorem fn_x {E : Env} {A : Notes} {na f : Nat} {fn : Func} {as : List AX} {rs : RS} {os : List (List RC)} {X : Type} {S : Nat → XD as → Option X} {pack : X → RL (rs.cells ++ os.flatten)} {unpack : RL (rs.cells ++ os.flatten) → X} (hE : EnvB E) (hev : EvOKX E A na fn as rs os unpack S)
  (hL : LoopsOK E.P A 1000 na fn.ntmps (bodyOf fn)) (hf : E.P.funcs[f]? = some fn := by kernel_rfl) (hb : fn.body.isNone = false := by kernel_rfl) (hn : (fn.name == "runtime.NumGoroutine") = false := by kernel_rfl) (hna : looksBelow as na = true := by kernel_rfl) (hpu : ∀ d, pack (unpack d) = d := by intro d; rfl) :
  FnOK E.P (f, fun k nm args h => entryX as rs os (S k) pack nm args h) :=
 ⟨fun k _ _ _ _ _ hy => entryX_sound hE.ok hE.loc hE.ord hf (body_loops hL) (enters hf hb hn) hpu hna (hev k) hy, entryX_local⟩
theorem fn_nil {E : Env} {A : Notes} {na f : Nat} {fn : Func} {sh : Bool} {t : Ty} {rs : RS} {X : Type} {S : Nat → List t.den → Option X} {pack : X → RL rs.cells} {unpack : RL rs.cells → X} (hE : EnvB E) (hnil : ∀ k, evF E A k 1000 na fn [.c .nsl] (boxHp []) (outM rs unpack) = S k [])
  (hev : ∀ k xs, evF E A k 1000 na fn [.c (.nfl sh t xs)] (boxHp []) (outM rs unpack) = S k xs) (hL : LoopsOK E.P A 1000 na fn.ntmps (bodyOf fn)) (hf : E.P.funcs[f]? = some fn := by kernel_rfl) (hb : fn.body.isNone = false := by kernel_rfl) (hn : (fn.name == "runtime.NumGoroutine") = false := by kernel_rfl) (hpu : ∀ d, pack (unpack d) = d := by intro d; rfl) :
  FnOK E.P (f, fun k nm args h => entry [.c (.dat sh t)] rs (fun d => S k d.1) pack nm args h) :=
 ⟨fun k _ _ _ _ _ hy => entry_nil hE.ok hE.loc hE.ord hf (body_loops hL) (enters hf hb hn) hpu (fun x hx => (hnil k).trans hx) (fun xs x hx => (hev k xs).trans hx) hy, entry_local⟩
end Go.Ab
set_option linter.unusedVariables false
namespace Go.Ab
def add64 (k : Nat) (a b c : Int) : Option (Int × Int) :=
 bif decide (c = 0) then some (Int.ofNat ((a.toNat + b.toNat + 0) % 18446744073709551616), Int.ofNat ((a.toNat + b.toNat + 0) / 18446744073709551616)) else none
def add64E : Entry := fun k nm args h => match args with
 | [.c (.int .u64 a), .c (.int .u64 b), .c (.int .u64 c)] => .call (Int × Int) (add64 k a b c) (fun r => (.tup [(false, [.int .u64 r.1]), (false, [.int .u64 r.2])], []))
 | _ => .stuck
theorem run_add64' {P : Program} (a b : Int) (w : World) :
  (add64Entry #[.int .u64 a, .int .u64 b, .int .u64 0]).run P w = .ok (.tuple #[.int .u64 (Int.ofNat ((a.toNat + b.toNat + 0) % 18446744073709551616)), .int .u64 (Int.ofNat ((a.toNat + b.toNat + 0) / 18446744073709551616))]) w := rfl
theorem fn_add64 {P : Program} {f : Nat} {fn : Func} (hf : P.funcs[f]? = some fn := by kernel_rfl) (hname : (fn.name == "runtime.NumGoroutine") = false := by kernel_rfl) (hb : fn.body.isNone = true := by kernel_rfl)
  (hn : Extern.findNext fn = none := by kernel_rfl) (he : Extern.find fn = some add64Entry := by kernel_rfl) :
  FnOK P (f, add64E) := by
 refine ⟨fun k nm args h v u hy => ?_, fun _ _ _ _ _ _ _ => rfl⟩
 intro M w vs hh hH ok hv
 refine .inr ?_
 replace hy : Yields (add64E k nm args h) v u := hy
 unfold add64E at hy
 split at hy
 ·rename_i a b c
  obtain ⟨x, hx, rfl, rfl⟩ := hy
  match hl : vs.toList, hv with
  | [v1, v2, v3], hv =>
   obtain ⟨h1, h2, h3, _⟩ := hv
   cases h1; cases h2; cases h3
   obtain rfl : vs = #[.int .u64 a, .int .u64 b, .int .u64 c] := by cases vs; simpa using hl
   unfold add64 at hx
   obtain ⟨hc, hx⟩ := cond_some hx
   cases hx
   have hc : c = 0 := by simpa using hc
   subst hc
   refine ⟨.tuple #[.int .u64 (Int.ofNat ((a.toNat + b.toNat + 0) % 18446744073709551616)), .int .u64 (Int.ofNat ((a.toNat + b.toNat + 0) / 18446744073709551616))], w, M, ?_, ⟨rfl, rfl, rfl, hH, rfl, ok, .refl M⟩, ?_⟩
   ·rw [run_callFunc_extern hf hname hb hn he, run_add64' a b w]
    rfl
   ·exact ⟨#[.int .u64 (Int.ofNat ((a.toNat + b.toNat + 0) % 18446744073709551616)), .int .u64 (Int.ofNat ((a.toNat + b.toNat + 0) / 18446744073709551616))], rfl, rfl, rfl, trivial⟩
 ·exact hy.elim
end Go.Ab
set_option linter.unusedVariables false
set_option linter.unusedSimpArgs false
namespace Go.Ab
end Go.Ab
set_option linter.unusedVariables false
namespace Go.Ab
def entA (f : Nat) (as : List AS) (rs : RS) {X : Type} (s : Nat → AD as → Option X) (pk : X → RL rs.cells) : Nat × Entry := (f, fun k nm args h => entry as rs (s k) pk nm args h)
def entX (f : Nat) (as : List AX) (rs : RS) (os : List (List RC)) {X : Type} (s : Nat → XD as → Option X) (pk : X → RL (rs.cells ++ os.flatten)) : Nat × Entry := (f, fun k nm args h => entryX as rs os (s k) pk nm args h)
theorem fA {E : Env} (fn : Func) (A : Notes) {f : Nat} {as : List AS} {rs : RS} {X : Type} {s : Nat → AD as → Option X} {pk : X → RL rs.cells} (up : RL rs.cells → X) (hE : EnvB E) (hL : LoopsOK E.P A 1000 0 fn.ntmps (bodyOf fn))
  (hev : EvOK E A 0 fn as rs up s := by intro k d; kernel_rfl)
  (hf : E.P.funcs[f]? = some fn := by kernel_rfl) (hb : fn.body.isNone = false := by kernel_rfl) (hn : (fn.name == "runtime.NumGoroutine") = false := by kernel_rfl) (hpu : ∀ d, pk (up d) = d := by intro d; rfl) :
  FnOK E.P (entA f as rs s pk) := fn_b hE hev hL hf hb hn hpu
theorem fX {E : Env} (fn : Func) (A : Notes) (na : Nat) {f : Nat} {as : List AX} {rs : RS} {os : List (List RC)} {X : Type} {s : Nat → XD as → Option X} {pk : X → RL (rs.cells ++ os.flatten)} (up : RL (rs.cells ++ os.flatten) → X) (hE : EnvB E) (hL : LoopsOK E.P A 1000 na fn.ntmps (bodyOf fn))
  (hev : EvOKX E A na fn as rs os up s := by intro k d; kernel_rfl)
  (hf : E.P.funcs[f]? = some fn := by kernel_rfl) (hb : fn.body.isNone = false := by kernel_rfl) (hn : (fn.name == "runtime.NumGoroutine") = false := by kernel_rfl) (hna : looksBelow as na = true := by kernel_rfl) (hpu : ∀ d, pk (up d) = d := by intro d; rfl) :
  FnOK E.P (entX f as rs os s pk) := fn_x hE hev hL hf hb hn hna hpu
def entC (f : Nat) (sh : Bool) (t : Ty) (r : RC) (s : Nat → List t.den → Option r.den) : Nat × Entry :=
 (f, fun k nm args h => entry [.c (.dat sh t)] (.c r) (fun d => s k d.1) (fun x => (x, ())) nm args h)
theorem fC {E : Env} (fn : Func) (A : Notes) {f : Nat} {sh : Bool} {t : Ty} {r : RC} {s : Nat → List t.den → Option r.den} (hE : EnvB E) (hL : LoopsOK E.P A 1000 0 fn.ntmps (bodyOf fn))
  (hnil : ∀ k, evF E A k 1000 0 fn [.c .nsl] (boxHp []) (outM (.c r) (fun d => d.1)) = s k [] := by intro k; kernel_rfl)
  (hev : ∀ k xs, evF E A k 1000 0 fn [.c (.nfl sh t xs)] (boxHp []) (outM (.c r) (fun d => d.1)) = s k xs := by intro k xs; kernel_rfl)
  (hf : E.P.funcs[f]? = some fn := by kernel_rfl) (hb : fn.body.isNone = false := by kernel_rfl) (hn : (fn.name == "runtime.NumGoroutine") = false := by kernel_rfl) : FnOK E.P (entC f sh t r s) :=
 fn_nil (rs := .c r) (pack := fun x => (x, ())) (unpack := fun d => d.1) hE hnil hev hL hf hb hn
def rounds {T : Type} (z : T) (b : T → T) : Nat → T
 | 0 => z
 | n + 1 => b (rounds z b n)
theorem lp {E : Env} {A : Notes} {na nt : Nat} {b : Code} (L : LoopSum) {Y : Type} (toX : OutD L.outs → L.X) (c : Y → L.inS.den → Option L.X) (f : Nat → Nat → Y) (bf : Nat → Y → Y) (hE : EnvB E) (hL : LoopsOK E.P A 1000 na nt b)
  (hs : StepOK E A na nt b L.inS L.outs toX c bf := by intro k rec d; kernel_rfl)
  (hX : ∀ o R K, L.elim (1000 + loopBase) (toX o) R K = elimD (1000 + loopBase) L.outs o K := by intro o R K; first | rfl | (rcases o with o | o <;> rfl) | (rcases o with o | o | o <;> rfl) | (rcases o with o | o | o | o <;> rfl) | (rcases o with o | o | o | o | o <;> rfl))
  (h0 : ∀ k d, c (f k 0) d = none := by intros; rfl) (h1 : ∀ k n, f k (n + 1) = bf k (f k n) := by intros; rfl) (hf : (⟨L.inS, L.outs, L.X, fun k d => c (f k k) d, L.elim⟩ : LoopSum) = L := by rfl) : LoopOK E.P 1000 na nt b L := by
 rw [← hf]
 exact loop_b hE hs f _ hX hL h0 h1
def ins {α : Type} (b : Nat) (xs : List α) (i : Int) (ys : List α) : Option (List α) :=
 bif decide (0 ≤ i) && decide (i ≤ (xs.length : Int)) && Nat.beq ys.length 1 && roomB (xs.length + 1) b then some (xs.take i.toNat ++ (ys ++ xs.drop i.toNat)) else none
end Go.Ab
