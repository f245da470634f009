/- part 3 -/
import Derived.Test.YtdhajnjinkknkaaGreatGiAbC
import Derived.Laws.Externs
set_option linter.unusedVariables false
set_option linter.unusedSimpArgs false
set_option linter.unusedSectionVars false
namespace Go.Ab
theorem zI8 {n : Nat} : ∀ {ids : List Nat} {h : Hp}, qK h (zC4 ids) n = if n ∈ ids then some .gone else h n
 | [], _ => by simp [zC4, qK]
 | id :: ids, h => by
  show qK (yC h id .gone) (zC4 ids) n = _
  rw [zI8 (ids := ids)]
  by_cases e : n = id
  ·subst e; simp [yG]
  ·rw [yN _ _ e]; simp [e]
def zC.overX (M L : zC) (mine : List Nat) : zC := { κ := M.κ, F := fun b => M.F b ∨ L.G b, G := L.G, h := qK M.h (zC4 mine), H := L.H }
theorem zC.overX_ok {M Ml L : zC} {mine : List Nat} (ok : Ok M) (okL : Ok L) (lo : LoX M mine Ml) (ho : zCb M mine) (hand : ∀ b, qQ Ml b → zBc M mine b) (g : zAk Ml L) :
  Ok (M.overX L mine) ∧ yO M (M.overX L mine) ∧ (∀ b, qQ (M.overX L mine) b → qQ M b ∧ ¬ zBc M mine b) := by
 have hsame : ∀ b, b < M.H.size → ¬ zBc M mine b → L.H[b]? = M.H[b]? := fun b hb hn => by rw [g.same b (by rw [lo.F]; exact ⟨hb, hn⟩), lo.H]
 have hsz : M.H.size ≤ L.H.size := by have := g.size; rw [lo.H] at this; exact this
 have hG : ∀ b, L.G b → b < M.H.size → M.G b ∨ zBc M mine b := fun b hb hs => by
  rcases g.Gb b hb (by rw [lo.H]; exact hs) with h | h
  ·rw [lo.G] at h; exact .inl h
  ·exact .inr (hand b h)
 have hsF : ∀ b, M.F b → L.H[b]? = M.H[b]? := fun b h => hsame b (zFj ok ho h).1 (zFj ok ho h).2
 have x : yL M (M.overX L mine) := ⟨fun id C h => ⟨C, h, C.le_refl⟩, fun b h => .inl h, fun b h => g.G b (by rw [lo.G]; exact h), fun b h => hsF b h, fun b h => hsF b (ok.GF b h), fun b h => by
  have := g.bsz b (by rw [lo.H]; exact h)
  rw [lo.H] at this
  exact this⟩
 have hobj : ∀ id o, (M.overX L mine).h id = some o → o.owned = true → id ∉ mine ∧ M.h id = some o := fun id o h hoo => by
  have h : qK M.h (zC4 mine) id = some o := h
  rw [zI8] at h
  by_cases hm : id ∈ mine
  ·rw [if_pos hm] at h; cases h; cases hoo
  ·rw [if_neg hm] at h; exact ⟨hm, h⟩
 have hnot : ∀ id o C, id ∉ mine → M.h id = some o → o.owned = true → M.κ id = some C → ∀ b ∈ C.fp, ¬ zBc M mine b := fun id o C hm h hoo hC b hb ⟨jd, hj, D, hD, hbD⟩ => by
  obtain ⟨q, q1, q2⟩ := ho jd hj
  exact ok.disj id jd o q C D b (fun e => hm (by rw [e]; exact hj)) h q1 hoo q2 hC hD hb hbD
 have hown : ∀ b, qQ (M.overX L mine) b → qQ M b ∧ ¬ zBc M mine b := fun b ⟨id, o, C, h1, h2, h3, h4⟩ => by
  obtain ⟨k1, k2⟩ := hobj id o h1 h2
  exact ⟨⟨id, o, C, k2, h2, h3, h4⟩, hnot id o C k1 k2 h2 h3 b h4⟩
 refine ⟨⟨fun id o h => ?_, fun id h => ?_, fun i j oi oj Ci Cj b hij h1 h2 h3 h4 h5 h6 h7 h8 => ?_, fun b h => ⟨fun hf => ?_, ?_⟩, fun b h => .inr h, fun b h => ?_⟩, ⟨x, hsz, fun b hb hn => hsame b hb fun hh => hn (hh.own ho), fun b h _ => (hown b h).1, fun b h hs => ?_, fun b h hs => ?_⟩, hown⟩
 ·have h : qK M.h (zC4 mine) id = some o := h
  rw [zI8] at h
  by_cases hm : id ∈ mine
  ·rw [if_pos hm] at h
   cases h
   obtain ⟨q, q1, q2⟩ := ho id hm
   obtain ⟨C, hC, _⟩ := ok.obj id q q1
   exact ⟨C, hC, trivial⟩
  ·rw [if_neg hm] at h
   obtain ⟨C, hC, hO⟩ := ok.obj id o h
   exact ⟨C, hC, hO.ext x fun hoo b hb => hsame b (ok.own b ⟨id, o, C, h, hoo, hC, hb⟩).2 (hnot id o C hm h hoo hC b hb)⟩
 ·have h : qK M.h (zC4 mine) id = none := h
  rw [zI8] at h
  by_cases hm : id ∈ mine
  ·rw [if_pos hm] at h; cases h
  ·rw [if_neg hm] at h; exact ok.non id h
 ·exact ok.disj i j oi oj Ci Cj b hij (hobj i oi h1 h3).2 (hobj j oj h2 h4).2 h3 h4 h5 h6 h7 h8
 ·obtain ⟨k1, k2⟩ := hown b h
  have := ok.own b k1
  rcases hf with hf | hf
  ·exact this.1 hf
  ·rcases hG b hf this.2 with h | h
   ·exact this.1 (ok.GF b h)
   ·exact k2 h
 ·have h1 := (ok.own b (hown b h).1).2
  show b < L.H.size
  omega
 ·show b < L.H.size
  rcases h with h | h
  ·have := ok.Flt b h; omega
  ·exact okL.Flt b (okL.GF b h)
 ·rcases hG b h hs with h | h
  ·exact .inl h
  ·exact .inr (h.own ho)
 ·rcases h with h | h
  ·exact .inl h
  ·rcases hG b h hs with h | h
   ·exact .inl (ok.GF b h)
   ·exact .inr (h.own ho)
def zS.bare (C : zS) : zS := { C with ver := C.ver + 1, rows := [] }
def zC.revive (M : zC) (id : Nat) (C : zS) (cs : List zH) : zC := { M with κ := κset M.κ id C.bare, h := yC M.h id (.box true cs) }
theorem zC.revive_ok {M : zC} (ok : Ok M) {id : Nat} {C : zS} {B : Nat} {vals : Array Value} {e : TypeId} {cs : List zH} (hC : M.κ id = some C) (hB : C.blk = some B) (hH : M.H[B]? = some (.cells vals e (0, 0))) (hc : zQ (zV M) cs vals.toList)
  (h1 : ¬ qQ M B) (h2 : ¬ M.F B) : Ok (M.revive id C cs) ∧ yL M (M.revive id C cs) ∧ (∀ b, qQ (M.revive id C cs) b → qQ M b ∨ b = B) := by
 have hκ : (M.revive id C cs).κ id = some C.bare := κset_same _ _ _
 have x : yL M (M.revive id C cs) := ⟨fun jd D h => by
  by_cases e' : jd = id
  ·subst e'
   rw [hC] at h; cases h
   exact ⟨_, hκ, rfl, rfl, rfl, Nat.le_succ _, fun h => absurd h (by simp [zS.bare])⟩
  ·exact ⟨D, by show κset M.κ id _ jd = _; rw [κset_ne _ _ e']; exact h, D.le_refl⟩, fun _ h => h, fun _ h => h, fun _ _ => rfl, fun _ _ => rfl, fun _ _ => rfl⟩
 have hfp : C.bare.fp = [B] := by simp [zS.fp, zS.bare, hB]
 have hat : (M.revive id C cs).h id = some (.box true cs) := yG _ _ _
 refine ⟨Ok.build ok x (fun jd => jd = id) (fun jd h => yN _ _ h) (fun jd h => κset_ne _ _ h) (fun _ _ _ _ _ _ _ _ _ => rfl) (fun jd o' D k1 k2 k3 k4 b hb' => (ok.own b ⟨jd, o', D, k2, k3, k4, hb'⟩).1) (Nat.le_refl _)
  (fun jd o' e' h => ?_) (fun jd e' h => ?_) (fun jd o' D b e' k1 k2 k3 k4 => ?_) ok.GF ok.Flt, x, fun b hb' => ?_⟩
 ·subst e'
  rw [hat] at h
  cases h
  exact ⟨_, hκ, B, vals, e, hB, rfl, hH, hc.mono fun _ _ h => h.ext x, fun h => by cases h⟩
 ·subst e'
  rw [hat] at h; cases h
 ·subst e'
  rw [hκ] at k3
  cases k3
  rw [hfp, List.mem_singleton] at k4
  subst k4
  refine ⟨fun j oj Cj hj q1 q2 q3 q4 => h1 ⟨j, oj, Cj, ?_, q2, ?_, q4⟩, h2, (Array.getElem?_eq_some_iff.1 hH).1⟩
  ·rw [← q1]; exact (yN _ _ hj).symm
  ·rw [← q3]; exact (κset_ne _ _ hj).symm
 ·obtain ⟨jd, o', D, k1, k2, k3, k4⟩ := hb'
  by_cases e' : jd = id
  ·subst e'
   rw [hκ] at k3
   cases k3
   rw [hfp, List.mem_singleton] at k4
   exact .inr k4
  ·exact .inl ⟨jd, o', D, by rw [← k1]; exact (yN _ _ e').symm, k2, by rw [← k3]; exact (κset_ne _ _ e').symm, k4⟩
structure yEj (M : zC) (id : Nat) (cs : List zH) (B : Nat) : Prop where
 at' : ∃ C, M.κ id = some C ∧ C.blk = some B
 rep : ∃ vals e, M.H[B]? = some (.cells vals e (0, 0)) ∧ zQ (zV M) cs vals.toList
 own : ¬ qQ M B
 F : ¬ M.F B
def zB1 (R : Nat → List zH → Nat → Prop) : List Nat → List (List zH) → List Nat → Prop
 | [], [], [] => True
 | a :: l, b :: m, c :: n => R a b c ∧ zB1 R l m n
 | _, _, _ => False
theorem zB1.mono {R S : Nat → List zH → Nat → Prop} : ∀ {l : List Nat} {m : List (List zH)} {n : List Nat}, (∀ a b c, c ∈ n → R a b c → S a b c) → zB1 R l m n → zB1 S l m n
 | [], [], [], _, _ => trivial
 | _ :: _, _ :: _, _ :: _, h, k => ⟨h _ _ _ (List.mem_cons_self ..) k.1, zB1.mono (fun a b c hc => h a b c (List.mem_cons_of_mem _ hc)) k.2⟩
 | [], [], _ :: _, _, k => k.elim
 | [], _ :: _, _, _, k => k.elim
 | _ :: _, [], _, _, k => k.elim
 | _ :: _, _ :: _, [], _, k => k.elim
theorem qP7 : ∀ {ids : List Nat} {css : List (List zH)} {Bs : List Nat} {M : zC}, Ok M → zB1 (yEj M) ids css Bs → Bs.Nodup →
  ∃ M' : zC, M'.H = M.H ∧ M'.G = M.G ∧ M'.F = M.F ∧ M'.h = qK M.h (zHu ids css) ∧ Ok M' ∧ yL M M' ∧ (∀ b, qQ M' b → qQ M b ∨ b ∈ Bs)
 | [], [], [], M, ok, _, _ => ⟨M, rfl, rfl, rfl, rfl, ok, .refl M, fun _ h => .inl h⟩
 | id :: ids, cs :: css, B :: Bs, M, ok, h, hn => by
  obtain ⟨C, hC, hB⟩ := h.1.at'
  obtain ⟨vals, e, hH, hc⟩ := h.1.rep
  obtain ⟨k1, k2, k3⟩ := zC.revive_ok ok hC hB hH hc h.1.own h.1.F
  obtain ⟨n1, n2⟩ := List.nodup_cons.1 hn
  obtain ⟨M', a1, a2, a3, a4, a5, a6, a7⟩ := qP7 (M := M.revive id C cs) k1 (zB1.mono (fun a b c hcB hb => by
   refine ⟨?_, ?_, fun ho => ?_, hb.F⟩
   ·obtain ⟨D, q1, q2⟩ := hb.at'
    obtain ⟨D', q3, le⟩ := k2.κ _ _ q1
    exact ⟨D', q3, le.blk.trans q2⟩
   ·obtain ⟨vals, e, q1, q2⟩ := hb.rep
    exact ⟨vals, e, q1, q2.mono fun _ _ h => h.ext k2⟩
   ·rcases k3 _ ho with h | h
    ·exact hb.own h
    ·subst h; exact n1 hcB) h.2) n2
  exact ⟨M', a1, a2, a3, a4, a5, yL.trans (M := M) (M' := M.revive id C cs) (Nat.le_refl _) k2 a6, fun b hb => by
   rcases a7 b hb with h | h
   ·exact (k3 b h).imp (fun h => h) fun h => by rw [h]; exact List.mem_cons_self ..
   ·exact .inr (List.mem_cons_of_mem _ h)⟩
 | [], [], _ :: _, _, _, h, _ => h.elim
 | [], _ :: _, _, _, _, h, _ => h.elim
 | _ :: _, [], _, _, _, h, _ => h.elim
 | _ :: _, _ :: _, [], _, _, h, _ => h.elim
theorem yKi : ∀ {ids : List Nat} {css : List (List zH)} {h h' : Hp}, ids.length = css.length → (∀ n, n ∉ ids → h n = h' n) → qK h (zHu ids css) = qK h' (zHu ids css)
 | [], [], h, h', _, e => funext fun n => e n (by simp)
 | id :: ids, cs :: css, h, h', hl, e => yKi (ids := ids) (css := css) (by simpa using hl) fun n hn => by
   by_cases k : n = id
   ·subst k; rw [yG, yG]
   ·rw [yN _ _ k, yN _ _ k]; exact e n (by simp [k, hn])
 | [], _ :: _, _, _, hl, _ => by simp at hl
 | _ :: _, [], _, _, hl, _ => by simp at hl
theorem vD3 {h0 : Hp} {s : AX} {a a' : zG} {v : Value} {u : qF} {M : zC} (ok : Ok M) (hf : wB h0 M.h) (hv : zX M a v) (h : zF0 h0 s a = some (a', u)) :
  ∃ L : zC, L.H = M.H ∧ L.h = qK M.h u ∧ Ok L ∧ yO M L ∧ zX L a' v ∧ wB h0 L.h := by
 unfold zF0 at h
 split at h
 ·rename_i p x
  split at h
  ·rename_i y u1 e
   cases h
   obtain ⟨L, h1, h2, h3, h4, h5, h6⟩ := zGm (cs := [x]) (vs := [v]) ok hf ⟨hv, trivial⟩ e
   exact ⟨L, h1, h2, h3, h4, h5.1, h6⟩
  ·cases h
 ·rename_i l xs
  split at h
  ·rename_i ys u1 e
   cases h
   obtain ⟨vs, rfl, hx⟩ := hv
   obtain ⟨L, h1, h2, h3, h4, h5, h6⟩ := zGm ok hf hx e
   exact ⟨L, h1, h2, h3, h4, ⟨vs, rfl, h5⟩, h6⟩
  ·cases h
 ·cases h
  exact ⟨M, rfl, rfl, ok, .refl M, hv, hf⟩
theorem yNy {h0 : Hp} : ∀ {l : List AX} {as as' : List zG} {vs : List Value} {u : qF} {M : zC}, Ok M → wB h0 M.h → zQ (zX M) as vs → zD9 h0 l as = some (as', u) →
  ∃ L : zC, L.H = M.H ∧ L.h = qK M.h u ∧ Ok L ∧ yO M L ∧ zQ (zX L) as' vs ∧ wB h0 L.h
 | s :: l, a :: as, as', v :: vs, u, M, ok, hf, hv, h => by
  unfold zD9 at h
  split at h
  ·rename_i a1 u1 as1 us1 e1 e2
   cases h
   obtain ⟨M1, h1, h2, h3, h4, h5, h6⟩ := vD3 ok hf hv.1 e1
   obtain ⟨M2, k1, k2, k3, k4, k5, k6⟩ := yNy h3 h6 (VReps.ext h4.ext hv.2) e2
   exact ⟨M2, k1.trans h1, by rw [k2, h2, zBp], k3, h4.trans k4, ⟨h5.ext k4.ext, k5⟩, k6⟩
  ·cases h
 | [], as, as', vs, u, M, ok, hf, hv, h => by
  cases as <;> cases h <;> exact ⟨M, rfl, rfl, ok, .refl M, hv, hf⟩
 | s :: l, [], as', vs, u, M, ok, hf, hv, h => by cases h; exact ⟨M, rfl, rfl, ok, .refl M, hv, hf⟩
 | _ :: _, _ :: _, _, [], _, _, _, _, hv, _ => hv.elim
def zG0 (M L : zC) (id jd : Nat) : Prop := ∃ C D B, M.κ id = some C ∧ C.blk = some B ∧ L.κ jd = some D ∧ D.blk = some B
theorem qC4 {M L : zC} : ∀ {ls : List (Bool × List XC)} {is js out : List Nat} {us : List Value} {cs : List zH} {bs : List (Bool × Nat)}, zC9 M.h ls is = some (cs, bs) → zOp ls js = some out →
  zQ (fun id u => ∃ C B, M.κ id = some C ∧ C.blk = some B ∧ u = .pointer (some ⟨B, 0, none⟩)) is us → zQ (fun id u => ∃ C B, L.κ id = some C ∧ C.blk = some B ∧ u = .pointer (some ⟨B, 0, none⟩)) js us → zQ (zG0 M L) (vF bs) out
 | [], [], [], out, us, cs, bs, h, k, _, _ => by cases h; cases k; exact trivial
 | (io, l) :: ls, i :: is, j :: js, out, u :: us, cs, bs, h, k, p, q => by
  unfold zC9 at h
  split at h
  ·rename_i cells rest bs' h1 h2
   obtain ⟨_, h⟩ := vJ h
   cases h
   unfold zOp at k
   split at k
   ·rename_i o ho
    cases k
    have ih := qC4 h2 ho p.2 q.2
    cases io with
    | false => exact ih
    | true =>
     obtain ⟨C, B, k1, k2, k3⟩ := p.1
     obtain ⟨D, B', k4, k5, k6⟩ := q.1
     rw [k3] at k6
     cases k6
     exact ⟨⟨C, D, B, k1, k2, k4, k5⟩, ih⟩
   ·cases k
  ·cases h
 | [], _ :: _, _, _, _, _, _, h, _, _, _ => by cases h
 | _ :: _, [], _, _, _, _, _, h, _, _, _ => by cases h
 | [], [], _ :: _, _, _, _, _, _, k, _, _ => by cases k
 | _ :: _, _ :: _, [], _, _, _, _, _, k, _, _ => by cases k
 | _ :: _, _ :: _, _ :: _, _, [], _, _, _, _, p, _ => p.elim
theorem yTi {M L : zC} {s : AX} {a b : zG} {v : Value} {cs : List zH} {bs : List (Bool × Nat)} {out : List Nat} (h : s.get M.h a = some (cs, bs)) (k : s.io b = some out) (p : zX M a v) (q : s.looks = true → zX L b v) : zQ (zG0 M L) (vF bs) out := by
 unfold AX.get at h
 split at h
 ·cases h; cases k; exact trivial
 ·obtain ⟨_, h'⟩ := vJ h
  cases h'; cases k; exact trivial
 ·rename_i io l id
  unfold AX.io at k
  split at k
  ·rename_i e; cases e
  ·rename_i e; cases e
  ·rename_i io' l' jd e
   cases e
   exact qC4 (us := [v]) h k ⟨p, trivial⟩ ⟨q rfl, trivial⟩
  ·rename_i e; cases e
  ·cases k
 ·rename_i f caps g ids
  obtain ⟨hg, h'⟩ := vJ h
  unfold AX.io at k
  split at k
  ·rename_i e; cases e
  ·rename_i e; cases e
  ·rename_i e; cases e
  ·rename_i f' caps' g' js e
   cases e
   obtain ⟨cv, rfl, hc⟩ := p
   obtain ⟨cv', e', hc'⟩ := q rfl
   cases e'
   exact qC4 h' k hc hc'
  ·cases k
 ·cases h
theorem yDn {M L : zC} : ∀ {l : List AX} {as : List zG} {vs : List Value} {t : Nat → zG} {n : Nat} {cs : List zH} {bs : List (Bool × Nat)} {out : List Nat}, zBh M.h l as = some (cs, bs) → zP5 l t n = some out → zQ (zX M) as vs → (∀ i (h : i < vs.length) s, l[i]? = some s → s.looks = true → zX L (t (n + i)) vs[i]) →
  zQ (zG0 M L) (vF bs) out
 | [], [], [], t, n, cs, bs, out, h, k, _, _ => by cases h; cases k; exact trivial
 | s :: l, a :: as, v :: vs, t, n, cs, bs, out, h, k, p, q => by
  unfold zBh at h
  split at h
  ·rename_i c1 b1 c2 b2 h1 h2
   cases h
   unfold zP5 at k
   split at k
   ·rename_i o1 o2 k1 k2
    cases k
    have e : ∀ b1 b2 : List (Bool × Nat), vF (b1 ++ b2) = vF b1 ++ vF b2 := fun b1 b2 => by
     induction b1 with
     | nil => rfl
     | cons x b1 ih => obtain ⟨io, y⟩ := x; cases io <;> simp [vF, ih]
    rw [e]
    refine (yTi h1 k1 p.1 (q 0 (by simp) s rfl)).append (yDn h2 k2 p.2 fun i hi s' hs hl => ?_)
    have := q (i + 1) (by simpa using hi) s' (by simpa using hs) hl
    rw [show n + (i + 1) = n + 1 + i by omega] at this
    simpa using this
   ·cases k
  ·cases h
 | [], [], _ :: _, _, _, _, _, _, _, _, p, _ => p.elim
 | [], _ :: _, _, _, _, _, _, _, h, _, _, _ => by cases h
 | _ :: _, [], _, _, _, _, _, _, h, _, _, _ => by cases h
 | _ :: _, _ :: _, [], _, _, _, _, _, _, _, p, _ => p.elim
theorem qSo {L : zC} (okL : Ok L) : ∀ {os : List (List RC)} {ids : List Nat} {bs : List zH}, zSo L.h os ids = some bs → bs.length = os.flatten.length ∧ ids.length = os.length ∧
  ∃ us : List Value, zQ (zV L) bs us ∧ ∀ {M : zC} {cs : List zH}, M.H = L.H → zQ (zV M) cs us → zB1 (fun id cs B => (∃ cells, L.h id = some (.box true cells)) ∧ (∃ C, L.κ id = some C ∧ C.blk = some B ∧ C.rows = []) ∧ ∃ vals e, M.H[B]? = some (.cells vals e (0, 0)) ∧ zQ (zV M) cs vals.toList) ids (zF7 os cs) (ids.map fun id => ((L.κ id).bind zS.blk).getD 0)
 | [], [], bs, h => by cases h; exact ⟨rfl, rfl, [], trivial, fun _ _ => trivial⟩
 | o :: os, n :: ns, bs, h => by
  unfold zSo at h
  split at h
  ·rename_i cells rest h1 h2
   obtain ⟨hl, h⟩ := vJ h
   cases h
   have hl : cells.length = o.length := Nat.eq_of_beq_eq_true hl
   obtain ⟨C, hC, B, vals, e, q1, q2, q3, q4, _⟩ := okL.obj n _ h1
   obtain ⟨k1, k2, us, k3, k4⟩ := qSo okL h2
   refine ⟨by simp [hl, k1], by simp [k2], vals.toList ++ us, q4.append k3, fun {M cs} hH hc => ⟨⟨⟨cells, h1⟩, ⟨C, hC, ?_, q2⟩, vals, e, ?_, ?_⟩, ?_⟩⟩
   ·show C.blk = some (((L.κ n).bind zS.blk).getD 0); rw [hC]; show C.blk = some (C.blk.getD 0); rw [q1]; rfl
   ·show M.H[((L.κ n).bind zS.blk).getD 0]? = _; rw [hC, hH]; show L.H[C.blk.getD 0]? = _; rw [q1]; exact q3
   ·have h1 := zQ.take o.length hc
    have hwl := q4.length
    rw [show (vals.toList ++ us).take o.length = vals.toList from by rw [List.take_append_of_le_length (by omega), List.take_of_length_le (by omega)]] at h1
    exact h1
   ·have h1 := zQ.drop o.length hc
    have hwl := q4.length
    rw [show (vals.toList ++ us).drop o.length = us from by rw [show o.length = vals.toList.length by omega, List.drop_left]] at h1
    exact k4 hH h1
  ·cases h
 | [], _ :: _, _, h => by cases h
 | _ :: _, [], _, h => by cases h
theorem yTm {h0 : Hp} {r : RC} {c : zH} {d : r.den} (h : zDp h0 r c = some d) : ∀ id ∈ yW [r] [c], ∀ own cells, h0 id ≠ some (.box own cells) := by
  unfold zDp at h
  split at h
  all_goals (try (intro id hid; simp [yW] at hid; done))
  all_goals first
    | (cases h; done)
    | (intro id' hid own cells hb
       have := List.mem_singleton.1 hid
       subst this
       rw [hb] at h
       cases h)
    | (cases h; intro id' hid; simp [yW] at hid)
theorem qWx {L : Hp} : ∀ {l : List RC} {cs : List zH} {d : RL l}, zBd L l cs = some d → ∀ id ∈ yW l cs, ∀ own cells, L id ≠ some (.box own cells)
 | [], [], _, _, id, hid => by cases hid
 | r :: l, c :: cs, d, h, id, hid => by
  unfold zBd at h
  split at h
  ·rename_i x xs e1 e2
   rw [zWq] at hid
   rcases List.mem_append.1 hid with hid | hid
   ·exact yTm e1 id hid
   ·exact qWx e2 id hid
  ·cases h
 | [], _ :: _, _, h, _, _ => by cases h
 | _ :: _, [], _, h, _, _ => by cases h
theorem qL0 : ∀ (a b : List (Bool × Nat)), vF (a ++ b) = vF a ++ vF b
 | [], _ => rfl
 | (true, _) :: a, b => by simp [vF, qL0 a b]
 | (false, _) :: a, b => by simp [vF, qL0 a b]
theorem zZf {h : Hp} : ∀ {ls : List (Bool × List XC)} {is : List Nat} {cs : List zH} {bs : List (Bool × Nat)}, zC9 h ls is = some (cs, bs) → ∀ id ∈ vF bs, ∃ o, h id = some o ∧ o.owned = true
 | [], [], _, _, e => by cases e; intro id hid; cases hid
 | (io, l) :: ls, i :: is, cs, bs, e => by
  unfold zC9 at e
  split at e
  ·rename_i cells rest bs' h1 h2
   obtain ⟨_, e⟩ := vJ e
   cases e
   intro id hid
   cases io with
   | false => exact zZf h2 id hid
   | true =>
    rcases List.mem_cons.1 hid with rfl | hid
    ·unfold zUc at h1
     split at h1
     ·rename_i c hc
      exact ⟨_, hc, rfl⟩
     ·rename_i e' _; cases e'
     ·rename_i e' _; cases e'
     ·cases h1
    ·exact zZf h2 id hid
  ·cases e
 | [], _ :: _, _, _, e => by cases e
 | _ :: _, [], _, _, e => by cases e
theorem yVi {h : Hp} {s : AX} {a : zG} {cs : List zH} {bs : List (Bool × Nat)} (e : s.get h a = some (cs, bs)) : ∀ id ∈ vF bs, ∃ o, h id = some o ∧ o.owned = true := by
 unfold AX.get at e
 split at e
 ·cases e; intro id hid; cases hid
 ·obtain ⟨_, e⟩ := vJ e
  cases e; intro id hid; cases hid
 ·exact zZf e
 ·obtain ⟨_, e⟩ := vJ e
  exact zZf e
 ·cases e
theorem yHf {h : Hp} : ∀ {l : List AX} {as : List zG} {cs : List zH} {bs : List (Bool × Nat)}, zBh h l as = some (cs, bs) → l.length = as.length ∧ ∀ id ∈ vF bs, ∃ o, h id = some o ∧ o.owned = true
 | [], [], _, _, e => by cases e; exact ⟨rfl, fun id hid => by cases hid⟩
 | s :: l, a :: as, cs, bs, e => by
  unfold zBh at e
  split at e
  ·rename_i c1 b1 c2 b2 h1 h2
   cases e
   obtain ⟨k1, k2⟩ := yHf h2
   refine ⟨by simp [k1], fun id hid => ?_⟩
   rw [qL0] at hid
   rcases List.mem_append.1 hid with hid | hid
   ·exact yVi h1 id hid
   ·exact k2 id hid
  ·cases e
 | [], _ :: _, _, _, e => by cases e
 | _ :: _, [], _, _, e => by cases e
theorem qQ6 {h : Hp} : ∀ {l : List XC} {cs : List zH} {d : XL l}, zDs h l cs = some d → ∀ id ∈ wL l cs, ∃ o, h id = some o ∧ o.owned = true
 | [], [], _, _ => fun id hid => by cases hid
 | x :: l, c :: cs, d, e => by
  unfold zDs at e
  split at e
  ·rename_i y ys h1 h2
   cases e
   have ih := qQ6 h2
   unfold inX at h1
   split at h1
   ·exact ih
   ·rename_i t id
    intro jd hid
    rcases List.mem_cons.1 hid with rfl | hid
    ·split at h1
     ·rename_i s xs hs
      exact ⟨_, hs, rfl⟩
     ·cases h1
    ·exact ih jd hid
   ·rename_i id
    intro jd hid
    rcases List.mem_cons.1 hid with rfl | hid
    ·split at h1
     ·rename_i s xs hs
      exact ⟨_, hs, rfl⟩
     ·cases h1
    ·exact ih jd hid
   ·rename_i id
    intro jd hid
    rcases List.mem_cons.1 hid with rfl | hid
    ·split at h1
     ·rename_i xs hs
      exact ⟨_, hs, rfl⟩
     ·cases h1
    ·exact ih jd hid
   ·cases h1
  ·cases e
 | [], _ :: _, _, e => by cases e
 | _ :: _, [], _, e => by cases e
theorem qQj {a b : List Nat} (h : qK1 a b = true) : ∀ id ∈ b, id ∉ a := fun id hb ha => by
 have h := List.all_eq_true.1 h id ha
 have : b.any (Nat.beq id) = true := List.any_eq_true.2 ⟨id, hb, by simp⟩
 rw [this] at h; cases h
theorem yKq : ∀ (os : List (List RC)) (cs : List zH), (zF7 os cs).length = os.length
 | [], _ => rfl
 | _ :: os, cs => by simp [zF7, yKq os]
theorem yIw {M L : zC} {P : zC → Nat → Prop} {R : Nat → List zH → Nat → Prop} : ∀ {ids js : List Nat} {css : List (List zH)} {Bs : List Nat}, zQ (zG0 M L) ids js → zB1 R js css Bs → zB1 (fun id cs B => ∃ jd, zG0 M L id jd ∧ R jd cs B) ids css Bs
 | [], [], [], [], _, _ => trivial
 | _ :: _, _ :: _, _ :: _, _ :: _, h, k => ⟨⟨_, h.1, k.1⟩, yIw (P := P) h.2 k.2⟩
 | [], [], [], _ :: _, _, k => k.elim
 | [], [], _ :: _, _, _, k => by cases k
 | [], _ :: _, _, _, h, _ => h.elim
 | _ :: _, [], _, _, h, _ => h.elim
 | _ :: _, _ :: _, [], _, _, k => k.elim
 | _ :: _, _ :: _, _ :: _, [], _, k => k.elim
theorem yLk {P : Program} {na : Nat} {f : FuncId} (hcall : ∀ vs w, (callFunc f vs).run P w = .ok (.enter f vs) w)
  {as : List AX} {rs : RS} {os : List (List RC)} {X : Type} {S : XD as → Option X} {pack : X → RL (rs.cells ++ os.flatten)} {unpack : RL (rs.cells ++ os.flatten) → X} (hpu : ∀ d, pack (unpack d) = d) (hna : zYx as na = true)
  (hcalls : ∀ d x, S d = some x → ∀ (M : zC) (w : World) (vs : Array Value), M.h = (zEy as d).2 → M.H = w.heap → Ok M → zQ (zX M) (zEy as d).1 vs.toList → Calls P f vs w fun
   | .returned rv, w' => ∃ (M' : zC) (v : zG) (st : St), zQb as rs os unpack v st = some x ∧ M'.h = st.h ∧ M'.H = w'.heap ∧ Ok M' ∧ zAk M M' ∧ zX M' v rv ∧ w'.os = w.os ∧ w'.tape = w.tape ∧ w'.output = w.output ∧
     (∀ t, t < na → zX M' (st.t t) (vs.getD t undef))
   | _, _ => False)
  {nm : Nat} {args : List zG} {h : Hp} {v : zG} {u : qF} (hy : yD (zEf as rs os S pack nm args h) v u) : zI1 P f args h v u := by
 intro M w vs hh hH ok hv
 refine .inl ⟨hcall vs w, ?_⟩
 unfold zEf at hy
 split at hy
 ·exact hy.elim
 rename_i args' u0 hfrz
 split at hy
 ·exact hy.elim
 rename_i cs bs hget
 split at hy
 ·exact hy.elim
 rename_i d hd
 dsimp only at hy
 obtain ⟨hc, hy⟩ := zG8 hy
 simp only [Bool.and_eq_true] at hc
 obtain ⟨⟨⟨⟨⟨hc1, hc2⟩, hc3⟩, hc4⟩, hc5⟩, hc6⟩ := hc
 obtain ⟨x, hx, rfl, rfl⟩ := hy
 subst hh
 obtain ⟨M1, a1, a2, a3, a4, a5, a6⟩ := yNy ok (wB.refl _) hv hfrz
 rw [← a2] at hd hget
 obtain ⟨hlen1, hio⟩ := yHf hget
 have hrow := qQ6 hd
 have howned : zCb M1 (vF bs ++ wL (as.flatMap AX.cells) cs) := fun id hid => (List.mem_append.1 hid).elim (hio id) (hrow id)
 have hnd0 := zKx hc4
 obtain ⟨Ml, lo, b2, b3, b4, b5, b6⟩ := vFx a3 a5 hget hd hnd0 (qQj hc5) (qQj hc6) (Nat.le_of_ble_eq_true hc3) howned
 generalize hmine : vF bs ++ wL (as.flatMap AX.cells) cs = mine at *
 refine Calls.mono (hcalls d x hx Ml w vs b2 (by rw [lo.H, a1]; exact hH) b3 b5) fun e w' he => ?_
 cases e with
 | panicked _ => exact he.elim
 | outgrown => exact he.elim
 | returned rv =>
  obtain ⟨L0, v0, st, hK, c1, c2, c3, c4, c5, c6, c7, c8, c9⟩ := he
  have hK : zZv st as rs os v0 = some (pack x) := by
   unfold zQb at hK
   split at hK
   ·rename_i d' hd'
    cases hK
    rw [hd', hpu]
   ·cases hK
  unfold zZv at hK
  split at hK
  ·cases hK
  rename_i ids hids
  split at hK
  case h_2 => cases hK
  rename_i ccs bcs hcs hbcs
  obtain ⟨hndi, hK⟩ := vJ hK
  split at hK
  case h_2 => cases hK
  rename_i cs' u1 hfr
  obtain ⟨hnd, hK⟩ := vJ hK
  obtain ⟨hlen, us, d1, d2⟩ := yBg hcs c5
  rw [← c1] at hfr hK hbcs
  obtain ⟨k1, k2, us2, k3, k4⟩ := qSo c3 hbcs
  obtain ⟨L, e1, e2, e3, e4, e5, e6⟩ := zGm c3 (wB.refl _) (d1.append k3) hfr
  rw [← e2] at hK
  have g : zAk Ml L := c4.trans e4.grow
  obtain ⟨f1, f2, f3⟩ := zC.overX_ok a3 e3 lo howned b4 g
  have hsame : zQ (zG0 M1 L0) (vF bs) ids := yDn hget hids a5 fun i hi s hs hlk => by
   have hi' : i < vs.size := by simpa using hi
   have hl := a5.length
   have hlt : i < na := by
    have := List.all_eq_true.1 hna (s, i) (List.mk_mem_zipIdx_iff_getElem?.2 hs)
    simp only [hlk, Bool.not_true, Bool.false_or] at this
    exact zU7 this
   have := c9 i hlt
   rw [Nat.zero_add]
   have e : vs.getD i undef = vs.toList[i] := by simp [hi']
   rw [← e]; exact this
  have hfree : ∀ i, i < (rs.cells ++ os.flatten).length → (M1.overX L mine).h (nm + i) = none := fun i hi => by
   have h1 := qF1 hc1 i hi
   have h2 : M1.h (nm + i) = none := by
    rw [a2]
    rcases a6 (nm + i) with h | ⟨own, t, xs, h, _⟩ | ⟨ver, xs, h, _⟩
    ·rw [a2] at h; rw [h]; exact h1
    ·rw [h1] at h; cases h
    ·rw [h1] at h; cases h
   show qK M1.h (zC4 mine) (nm + i) = none
   rw [zI8, if_neg, h2]
   intro hm'
   obtain ⟨o, ho, _⟩ := howned _ hm'
   rw [h2] at ho; cases ho
  have hlow : ∀ b, qQ L b → b < M1.H.size → zBc M1 mine b := fun b hb hlt => b4 b (g.own b hb (by rw [lo.H]; exact hlt))
  have hnotF : ∀ b, qQ L b → ¬ (M1.overX L mine).F b := fun b hb h => by
   rcases h with h | h
   ·exact (zFj a3 howned h).2 (hlow b hb (a3.Flt b h))
   ·exact (e3.own b hb).1 (e3.GF b h)
  have hnotO : ∀ b, qQ L b → ¬ qQ (M1.overX L mine) b := fun b hb h => by
   obtain ⟨q1, q2⟩ := f3 b h
   exact q2 (hlow b hb (a3.own b q1).2)
  obtain ⟨Mc, g1, g2, g3, g4, g5, g6, g7, g8⟩ := qGt e3 f1 ⟨rfl, rfl⟩ hfree hK (zKx hnd) (zGr hK) (fun id hid C hC b hb => by
   obtain ⟨o, ho, hoo⟩ := zGr hK id hid
   have hown : qQ L b := ⟨id, o, C, ho, hoo, hC, hb⟩
   exact ⟨hnotO b hown, hnotF b hown, (e3.own b hown).2⟩)
  have hgot := g8 _ e5
  have hul : us.length = rs.cells.length := by rw [← d1.length, hlen]
  have hgr : zQ (zV Mc) ((zB9 nm (rs.cells ++ os.flatten) (pack x)).1.take rs.cells.length) us := by
   have := zQ.take rs.cells.length hgot
   rwa [show (us ++ us2).take rs.cells.length = us from by rw [← hul, List.take_left]] at this
  have hgb : zQ (zV Mc) ((zB9 nm (rs.cells ++ os.flatten) (pack x)).1.drop rs.cells.length) us2 := by
   have := zQ.drop rs.cells.length hgot
   rwa [show (us ++ us2).drop rs.cells.length = us2 from by rw [← hul, List.drop_left]] at this
  have hHc : Mc.H = L0.H := by rw [g1]; exact e1
  have hback := yIw (P := fun _ _ => True) hsame (k4 hHc hgb)
  have hblk : ∀ id jd B, zG0 M1 L0 id jd → (∃ C, L0.κ jd = some C ∧ C.blk = some B ∧ C.rows = []) → ∃ C, M1.κ id = some C ∧ C.blk = some B := fun id jd B ⟨C, D, B', q1, q2, q3, q4⟩ ⟨D', q5, q6, _⟩ => by
   rw [q3] at q5; cases q5
   rw [q4] at q6; cases q6
   exact ⟨C, q1, q2⟩
  have hlbox : ∀ jd B, (∃ cells, L0.h jd = some (.box true cells)) → (∃ C, L0.κ jd = some C ∧ C.blk = some B ∧ C.rows = []) → ∃ cells C, L.h jd = some (.box true cells) ∧ L.κ jd = some C ∧ B ∈ C.fp := fun jd B ⟨cells, q1⟩ ⟨C, q2, q3, _⟩ => by
   obtain ⟨C', q4, le⟩ := e4.ext.κ jd C q2
   refine ⟨cells, C', ?_, q4, ?_⟩
   ·rcases e6 jd with h | ⟨own, t, xs, h, _⟩ | ⟨ver, xs, h, _⟩
    ·rw [h, q1]
    ·rw [q1] at h; cases h
    ·rw [q1] at h; cases h
   ·have : C'.blk = some B := le.blk.trans q3
    simp [zS.fp, this]
  have hback2 : zB1 (yEj Mc) (vF bs) (zF7 os ((zB9 nm (rs.cells ++ os.flatten) (pack x)).1.drop rs.cells.length)) (ids.map fun id => ((L0.κ id).bind zS.blk).getD 0) := zB1.mono (fun id css B _ ⟨jd, q1, q2, q3, q4⟩ => by
   obtain ⟨C, p1, p2⟩ := hblk id jd B q1 q3
   obtain ⟨C', p3, le⟩ := (f2.ext.trans f2.size g6).κ id C p1
   obtain ⟨cells, D, p4, p5, p6⟩ := hlbox jd B q2 q3
   have hown : qQ L B := ⟨jd, _, D, p4, rfl, p5, p6⟩
   refine ⟨⟨C', p3, le.blk.trans p2⟩, q4, fun ho => ?_, ?_⟩
   ·rcases g7 B ho with h | ⟨kd, hkd, D', p7, p8⟩
    ·exact hnotO B hown h
    ·obtain ⟨o, p9, p10⟩ := zGr hK kd hkd
     refine e3.disj jd kd _ o D D' B (fun e => ?_) p4 p9 rfl p10 p5 p7 p6 p8
     exact qWx hK kd hkd true cells (by rw [← e]; exact p4)
   ·rw [g3]; exact hnotF B hown) hback
  have hBs : (ids.map fun id => ((L0.κ id).bind zS.blk).getD 0).Nodup := by
   have hndi := zKx hndi
   have hmem : ∀ {js : List Nat} {css : List (List zH)} {Bs : List Nat}, zB1 (fun id cs B => (∃ cells, L0.h id = some (.box true cells)) ∧ (∃ C, L0.κ id = some C ∧ C.blk = some B ∧ C.rows = []) ∧ ∃ vals e, Mc.H[B]? = some (.cells vals e (0, 0)) ∧ zQ (zV Mc) cs vals.toList) js css Bs →
     (∀ j, j ∈ js → (∃ cells, L0.h j = some (.box true cells)) ∧ ∃ C B, L0.κ j = some C ∧ C.blk = some B) := by
    intro js
    induction js with
    | nil => intro css Bs _ j hj; cases hj
    | cons a js ih =>
     intro css Bs hb j hj
     cases css with
     | nil => exact hb.elim
     | cons c css =>
      cases Bs with
      | nil => exact hb.elim
      | cons B Bs =>
       rcases List.mem_cons.1 hj with rfl | hj
       ·obtain ⟨q1, ⟨C, q2, q3, _⟩, _⟩ := hb.1
        exact ⟨q1, C, B, q2, q3⟩
       ·exact ih hb.2 j hj
   have hall := hmem (k4 hHc hgb)
   clear hback hback2 k4 hmem hgb hsame hbcs k2 hids
   revert hndi hall
   generalize ids = js
   intro hndi hall
   induction js with
   | nil => exact List.nodup_nil
   | cons a js ih =>
    obtain ⟨n1, n2⟩ := List.nodup_cons.1 hndi
    refine List.nodup_cons.2 ⟨fun hm' => ?_, ih n2 fun j hj => hall j (List.mem_cons_of_mem _ hj)⟩
    obtain ⟨j, hj, hje⟩ := List.mem_map.1 hm'
    obtain ⟨⟨c1', q1⟩, C, B, q2, q3⟩ := hall a (List.mem_cons_self ..)
    obtain ⟨⟨c2', q4⟩, D, B', q5, q6⟩ := hall j (List.mem_cons_of_mem _ hj)
    have hje : ((L0.κ j).bind zS.blk).getD 0 = ((L0.κ a).bind zS.blk).getD 0 := hje
    rw [q2, q5] at hje
    have hje : (D.blk.getD 0) = (C.blk.getD 0) := hje
    rw [q3, q6] at hje
    have hje : B' = B := hje
    subst hje
    exact c3.disj a j _ _ C D B' (fun e => n1 (by rw [e]; exact hj)) q1 q4 rfl rfl q2 q5 (by simp [zS.fp, q3]) (by simp [zS.fp, q6])
  obtain ⟨Mf, r1, r2, r3, r4, r5, r6, r7⟩ := qP7 g5 hback2 hBs
  have hBhand : ∀ b, b ∈ (ids.map fun id => ((L0.κ id).bind zS.blk).getD 0) → qQ M1 b := by
   have : ∀ {is : List Nat} {css : List (List zH)} {Bs : List Nat}, (∀ id ∈ is, id ∈ vF bs) → zB1 (fun id cs B => ∃ jd, zG0 M1 L0 id jd ∧ (∃ cells, L0.h jd = some (.box true cells)) ∧ (∃ C, L0.κ jd = some C ∧ C.blk = some B ∧ C.rows = []) ∧ ∃ vals e, Mc.H[B]? = some (.cells vals e (0, 0)) ∧ zQ (zV Mc) cs vals.toList) is css Bs → ∀ b ∈ Bs, qQ M1 b := by
    intro is
    induction is with
    | nil =>
     intro css Bs _ hb b hbB
     cases css with
     | nil => cases Bs with
      | nil => cases hbB
      | cons _ _ => exact hb.elim
     | cons _ _ => exact hb.elim
    | cons a is ih =>
     intro css Bs hm' hb b hbB
     cases css with
     | nil => exact hb.elim
     | cons c css =>
      cases Bs with
      | nil => exact hb.elim
      | cons B Bs =>
       rcases List.mem_cons.1 hbB with rfl | hbB
       ·obtain ⟨jd, q1, q2, q3, _⟩ := hb.1
        obtain ⟨C, p1, p2⟩ := hblk a jd b q1 q3
        obtain ⟨o, p3, p4⟩ := hio a (hm' a (List.mem_cons_self ..))
        exact ⟨a, o, C, p3, p4, p1, by simp [zS.fp, p2]⟩
       ·exact ih (fun id hid => hm' id (List.mem_cons_of_mem _ hid)) hb.2 b hbB
   exact this (fun _ h => h) hback
  have st2 : yO M1 Mf := by
   have hown : ∀ b, qQ Mf b → b < M1.H.size → qQ M1 b := fun b hb hlt => by
    rcases r7 b hb with hb | hb
    ·rcases g7 b hb with h | ⟨id, hid, C, hC, hbC⟩
     ·exact (f3 b h).1
     ·obtain ⟨o, ho, hoo⟩ := zGr hK id hid
      exact (hlow b ⟨id, o, C, ho, hoo, hC, hbC⟩ hlt).own howned
    ·exact hBhand b hb
   have hg1 : Mf.H = (M1.overX L mine).H := r1.trans g1
   refine ⟨(f2.ext.trans f2.size g6).trans ?_ r6, ?_, fun b hb hn => ?_, hown, fun b hb hlt => ?_, fun b hb hlt => ?_⟩
   ·rw [g1]; exact f2.size
   ·rw [hg1]; exact f2.size
   ·rw [hg1]; exact f2.frame b hb hn
   ·rw [r2, g2] at hb; exact f2.Gb b hb hlt
   ·rw [r3, g3] at hb; exact f2.Fb b hb hlt
  refine ⟨Mf, ⟨c6, c7, c8, ?_, ?_, r5, a4.trans st2⟩, ?_⟩
  ·rw [r1, g1]; show L.H = _; rw [e1, c2]
  ·rw [r4, g4]
   show qK (qK (qK M1.h (zC4 mine)) (zB9 nm (rs.cells ++ os.flatten) (pack x)).2) (zHu (vF bs) (zF7 os ((zB9 nm (rs.cells ++ os.flatten) (pack x)).1.drop rs.cells.length))) = qK M.h (u0 ++ (zC4 (wL (as.flatMap AX.cells) cs) ++ ((zB9 nm (rs.cells ++ os.flatten) (pack x)).2 ++ zHu (vF bs) (zF7 os ((zB9 nm (rs.cells ++ os.flatten) (pack x)).1.drop rs.cells.length)))))
   rw [zBp, zBp, zBp, ← a2]
   refine yKi (by rw [yKq, hsame.length, k2]) fun n hn => zH1 ?_
   rw [zI8, zI8, ← hmine]
   simp [hn]
  ·exact d2 Mf _ (hgr.mono fun _ _ h => h.ext r6)
theorem yYf {E : qC} (hE : zAh E) (hS : zA9 E.sums) (hm : E.P.follows .mixedOrders = true) {A : qA} {k pre na : Nat} {f : FuncId} {fn : Func} (hf : E.P.funcs[f]? = some fn) (hL : ∀ c, fn.body = some c → wN E.P A pre na fn.ntmps c) (hcall : ∀ vs w, (callFunc f vs).run E.P w = .ok (.enter f vs) w)
  {as : List AX} {rs : RS} {os : List (List RC)} {X : Type} {S : XD as → Option X} {pack : X → RL (rs.cells ++ os.flatten)} {unpack : RL (rs.cells ++ os.flatten) → X} (hpu : ∀ d, pack (unpack d) = d) (hna : zYx as na = true)
  (hev : ∀ d, evF E A k pre na fn (zEy as d).1 (zEy as d).2 (zQb as rs os unpack) = S d)
  {nm : Nat} {args : List zG} {h : Hp} {v : zG} {u : qF} (hy : yD (zEf as rs os S pack nm args h) v u) : zI1 E.P f args h v u :=
 yLk hcall hpu hna (fun d x hx M w vs h1 h2 h3 h4 => qLs hE hS hm hf hL ((hev d).trans hx) h1 h2 h3 h4) hy
section
variable {h h' : Hp}
theorem vFr {x : XC} {c : zH} (hh : ∀ id ∈ yS c, h id = h' id) : inX h x c = inX h' x c := by
 unfold inX
 split
 ·exact yNk hh
 ·rename_i id; rw [hh id (by simp [yS])]
 ·rename_i id; rw [hh id (by simp [yS])]
 ·rename_i id; rw [hh id (by simp [yS])]
 ·rfl
theorem yNs : ∀ {l : List XC} {cs : List zH}, (∀ id ∈ cs.flatMap yS, h id = h' id) → zDs h l cs = zDs h' l cs
 | [], [], _ => rfl
 | [], _ :: _, _ => rfl
 | _ :: _, [], _ => rfl
 | p :: l, c :: cs, hh => by
  simp only [List.flatMap_cons, List.mem_append] at hh
  unfold zDs
  rw [vFr fun id hi => hh id (.inl hi), yNs fun id hi => hh id (.inr hi)]
theorem vHf {ls : List (Bool × List XC)} : zC9 h ls [] = zC9 h' ls [] := by
 cases ls <;> rfl
theorem yPt {s : AX} {a : zG} (hb : yX a = false) : s.get h a = s.get h' a := by
 unfold AX.get
 cases s with
 | c p => cases a <;> rfl
 | agg l => cases a <;> rfl
 | ptr io l =>
  cases a with
  | c x => cases x <;> first | rfl | (exact absurd hb (by simp [yX]))
  | _ => rfl
 | fn f caps =>
  cases a with
  | c x => cases x with
   | fn g ids =>
    cases ids with
    | nil => dsimp only; rw [vHf]
    | cons _ _ => exact absurd hb (by simp [yX])
   | _ => rfl
  | _ => rfl
theorem yY4 {s : AX} {a : zG} {cs : List zH} {bs : List (Bool × Nat)} (hb : yX a = false) (e : s.get h a = some (cs, bs)) : ∀ id ∈ cs.flatMap yS, id ∈ yF a := by
 unfold AX.get at e
 split at e
 ·cases e; intro id hid; simp only [List.flatMap_cons, List.flatMap_nil, List.append_nil] at hid; exact hid
 ·obtain ⟨_, e⟩ := vJ e
  cases e; exact fun id hid => hid
 ·exact absurd hb (by simp [yX])
 ·rename_i f caps g ids
  obtain ⟨_, e⟩ := vJ e
  cases ids with
  | nil => cases caps with
   | nil => cases e; intro id hid; simp at hid
   | cons _ _ => cases e
  | cons _ _ => exact absurd hb (by simp [yX])
 ·cases e
theorem qRn : ∀ {l : List AX} {as : List zG}, as.any yX = false → zBh h l as = zBh h' l as
 | [], [], _ => rfl
 | [], _ :: _, _ => rfl
 | _ :: _, [], _ => rfl
 | s :: l, a :: as, hb => by
  simp only [List.any_cons, Bool.or_eq_false_iff] at hb
  unfold zBh
  rw [yPt (h := h) (h' := h') hb.1, qRn hb.2]
theorem yGl : ∀ {l : List AX} {as : List zG} {cs : List zH} {bs : List (Bool × Nat)}, as.any yX = false → zBh h l as = some (cs, bs) → ∀ id ∈ cs.flatMap yS, id ∈ as.flatMap yF
 | [], [], cs, bs, _, e => by cases e; intro id hid; simp at hid
 | [], _ :: _, _, _, _, e => by cases e
 | _ :: _, [], _, _, _, e => by cases e
 | s :: l, a :: as, cs, bs, hb, e => by
  simp only [List.any_cons, Bool.or_eq_false_iff] at hb
  unfold zBh at e
  split at e
  ·rename_i c1 b1 c2 b2 e1 e2
   cases e
   intro id hid
   rw [List.flatMap_append, List.mem_append] at hid
   rw [List.flatMap_cons, List.mem_append]
   rcases hid with hid | hid
   ·exact .inl (yY4 hb.1 e1 id hid)
   ·exact .inr (yGl hb.2 e2 id hid)
  ·cases e
theorem yW3 {s : AX} {a : zG} (hh : ∀ id ∈ yF a, h id = h' id) : zF0 h s a = zF0 h' s a := by
 unfold zF0
 split
 ·rename_i p x
  have := zMw (h := h) (h' := h') (l := [p.isKept]) (cs := [x]) (by rw [zM0]; exact hh)
  simp only [this]
 ·rename_i l xs
  have := zMw (h := h) (h' := h') (l := l.map PC.isKept) (cs := xs) hh
  simp only [this]
 ·rfl
theorem vFl {s : AX} {a a' : zG} {u : qF} (e : zF0 h s a = some (a', u)) : (∀ id ∈ yF a', id ∈ yF a) ∧ (yX a = false → yX a' = false) := by
 unfold zF0 at e
 split at e
 ·rename_i p x
  split at e
  ·rename_i y u1 e1
   cases e
   refine ⟨fun id hid => by have := zMn e1 id (by rw [zM0]; exact hid); rwa [zM0] at this, fun hb => ?_⟩
   cases hk : p.isKept with
   | false => rw [hk] at e1; cases e1; exact hb
   | true =>
    rw [hk] at e1
    unfold jE at e1
    split at e1
    ·rename_i c1 u2 cs1 us1 e2 e3
     cases e3
     cases e1
     cases hy : yX (.c y) with
     | false => rfl
     | true => rw [(qJa e2).2 hy] at hb; cases hb
    ·cases e1
  ·cases e
 ·rename_i l xs
  split at e
  ·rename_i ys u1 e1
   cases e
   exact ⟨zMn e1, fun _ => rfl⟩
  ·cases e
 ·cases e; exact ⟨fun _ h => h, fun h => h⟩
theorem yFf : ∀ {l : List AX} {as : List zG}, (∀ id ∈ as.flatMap yF, h id = h' id) → zD9 h l as = zD9 h' l as
 | [], as, _ => by cases as <;> rfl
 | _ :: _, [], _ => rfl
 | s :: l, a :: as, hh => by
  simp only [List.flatMap_cons, List.mem_append] at hh
  unfold zD9
  rw [yW3 fun id hi => hh id (.inl hi), yFf fun id hi => hh id (.inr hi)]
theorem yCi : ∀ {l : List AX} {as as' : List zG} {u : qF}, zD9 h l as = some (as', u) → (∀ id ∈ as'.flatMap yF, id ∈ as.flatMap yF) ∧ (as.any yX = false → as'.any yX = false)
 | [], as, as', u, e => by cases as <;> cases e <;> exact ⟨fun _ h => h, fun h => h⟩
 | s :: l, [], as', u, e => by cases e; exact ⟨fun _ h => h, fun h => h⟩
 | s :: l, a :: as, as', u, e => by
  unfold zD9 at e
  split at e
  ·rename_i a1 u1 as1 us1 e1 e2
   cases e
   obtain ⟨k1, k2⟩ := vFl e1
   obtain ⟨k3, k4⟩ := yCi e2
   refine ⟨fun id hid => ?_, fun hb => ?_⟩
   ·rw [List.flatMap_cons, List.mem_append] at hid ⊢
    exact hid.imp (k1 id) (k3 id)
   ·simp only [List.any_cons, Bool.or_eq_false_iff] at hb ⊢
    exact ⟨k2 hb.1, k4 hb.2⟩
  ·cases e
end
theorem yFa {as : List AX} {rs : RS} {os : List (List RC)} {X : Type} {S : Nat → XD as → Option X} {pack : X → RL (rs.cells ++ os.flatten)} : zVa fun k nm args h => zEf as rs os (S k) pack nm args h := by
 intro k nm args h h' h1 h2
 cases hb : args.any yX with
 | true => rw [h2 hb]
 | false =>
  have hh := h1 hb
  show zEf as rs os (S k) pack nm args h = zEf as rs os (S k) pack nm args h'
  unfold zEf
  rw [yFf (h := h) (h' := h') fun id hid => hh id (.inl hid)]
  cases e : zD9 h' as args with
  | none => rfl
  | some p =>
   obtain ⟨args', u⟩ := p
   obtain ⟨k1, k2⟩ := yCi e
   dsimp only
   rw [qRn (h := qK h u) (h' := qK h' u) (k2 hb)]
   cases e2 : zBh (qK h' u) as args' with
   | none => rfl
   | some q =>
    obtain ⟨cs, bs⟩ := q
    dsimp only
    rw [yNs (h := qK h u) (h' := qK h' u) fun id hid => zH1 (hh id (.inl (k1 id (yGl (k2 hb) e2 id hid))))]
    cases zDs (qK h' u) (as.flatMap AX.cells) cs with
    | none => rfl
    | some d =>
     dsimp only
     cases hle : Nat.ble (rs.cells ++ os.flatten).length 100 with
     | false => simp
     | true =>
      have hle := Nat.le_of_ble_eq_true hle
      rw [qLl (h := h) (h' := h') fun i hi => hh _ (.inr (by
       simp only [zCj, Bool.and_eq_true]
       exact ⟨Nat.ble_eq_true_of_le (by omega), by simp [Nat.blt_eq]; omega⟩))]
structure zK (P : Program) (r : Nat × zJ) : Prop where
 ok : qQf P r
 loc : zVa r.2
def Fns (P : Program) : List (Nat × zJ) → Prop
 | [] => True
 | r :: l => zK P r ∧ Fns P l
theorem Fns.all {P : Program} : ∀ {l : List (Nat × zJ)}, Fns P l → ∀ r ∈ l, zK P r
 | [], _, _, h => by cases h
 | a :: l, h, r, hr => by
  rcases List.mem_cons.1 hr with rfl | hr
  ·exact h.1
  ·exact Fns.all h.2 r hr
structure qJ (E : qC) : Prop where
 ok : zAh E
 loc : zA9 E.sums
 ord : E.P.follows .mixedOrders = true
theorem yBc {P : Program} {l : List (Nat × zJ)} {eqT : TypeId → Bool} (he : zQt P eqT) (hm : P.follows .mixedOrders = true) (h : Fns P l) : qJ ⟨P, eqT, qL l⟩ :=
 ⟨⟨he, yMc fun r hr => (h.all r hr).ok⟩, qQ2 fun r hr => (h.all r hr).loc, hm⟩
theorem zN {P : Program} {l : List (Nat × zJ)} (hm : P.follows .mixedOrders = true) (h : Fns P l) : qJ ⟨P, fun _ => false, qL l⟩ := yBc yVu hm h
theorem loops1 {P : Program} {A : qA} {pre na nt : Nat} {c : Code} {L : qG} (h : qE P pre na nt (zZ c 0) L) (hn : (zC0 c).length = 1 := by kernel_rfl) (hl : zO2 A (zZ c 0) = some L := by kernel_rfl) : wN P A pre na nt c :=
 zGk hn fun i hi => by
  obtain rfl : i = 0 := by omega
  exact ⟨L, hl, h⟩
theorem zL {P : Program} {A : qA} {pre na nt : Nat} {c : Code} (hn : (zC0 c).length = 0 := by kernel_rfl) : wN P A pre na nt c := vGi hn
def yKa (E : qC) (A : qA) (na nt : Nat) (b : Code) (inS : zF) (outs : List (Ex × zF)) {X Y : Type} (toX : zCn outs → X) (c : Y → inS.den → Option X) (bf : Nat → Y → Y) : Prop :=
 ∀ k rec d, c (bf k rec) d = evC E A k 1000 na nt b (zT (1000 + zAi) inS d) (yKy 1000 inS outs toX (c rec))
abbrev yX2 (X : Type) := Nat → X → (R : Type) → (Ex → St → Option R) → Option R
theorem yZ8 {E : qC} {A : qA} {na nt : Nat} {b : Code} {inS : zF} {outs : List (Ex × zF)} {X Y : Type} {toX : zCn outs → X} {c : Y → inS.den → Option X} {bf : Nat → Y → Y} (hE : qJ E) (hs : yKa E A na nt b inS outs toX c bf) (f : Nat → Nat → Y) (elim : yX2 X)
  (hX : ∀ o R K, elim (1000 + zAi) (toX o) R K = zJ4 (1000 + zAi) outs o K) (hL : wN E.P A 1000 na nt b) (h0 : ∀ k d, c (f k 0) d = none := by intros; rfl) (h1 : ∀ k n, f k (n + 1) = bf k (f k n) := by intros; rfl) :
  qE E.P 1000 na nt b ⟨inS, outs, X, fun k d => c (f k k) d, elim⟩ :=
 yVf hE.ok hE.loc hE.ord hL toX elim hX (fun k n d => c (f k n) d) h0 (fun k n d => by rw [h1]; exact hs k (f k n) d)
def qEl (E : qC) (A : qA) (na : Nat) (fn : Func) (as : List AS) (rs : RS) {X : Type} (up : RL rs.cells → X) (S : Nat → AD as → Option X) : Prop :=
 ∀ k d, evF E A k 1000 na fn (zDn as d).1 (zDn as d).2 (zBr rs up) = S k d
def qZl (E : qC) (A : qA) (na : Nat) (fn : Func) (as : List AX) (rs : RS) (os : List (List RC)) {X : Type} (up : RL (rs.cells ++ os.flatten) → X) (S : Nat → XD as → Option X) : Prop :=
 ∀ k d, evF E A k 1000 na fn (zEy as d).1 (zEy as d).2 (zQb as rs os up) = S k d
theorem vA5 {E : qC} {A : qA} {na f : Nat} {fn : Func} {as : List AS} {rs : RS} {X : Type} {S : Nat → AD as → Option X} {pack : X → RL rs.cells} {unpack : RL rs.cells → X} (hE : qJ E) (hev : qEl E A na fn as rs unpack S) (hL : wN E.P A 1000 na fn.ntmps (qD fn))
  (hf : E.P.funcs[f]? = some fn := by kernel_rfl) (hb : fn.body.isNone = false := by kernel_rfl) (hn : (fn.name == "runtime.NumGoroutine") = false := by kernel_rfl) (hpu : ∀ d, pack (unpack d) = d := by intro d; rfl) :
  zK E.P (f, fun k nm args h => zCm as rs (S k) pack nm args h) :=
 ⟨fun k _ _ _ _ _ hy => yVh hE.ok hE.loc hE.ord hf (body_loops hL) (qAo hf hb hn) hpu (hev k) hy, qUa⟩
theorem yRs {E : qC} {A : qA} {na f : Nat} {fn : Func} {as : List AX} {rs : RS} {os : List (List RC)} {X : Type} {S : Nat → XD as → Option X} {pack : X → RL (rs.cells ++ os.flatten)} {unpack : RL (rs.cells ++ os.flatten) → X} (hE : qJ E) (hev : qZl E A na fn as rs os unpack S)
  (hL : wN E.P A 1000 na fn.ntmps (qD fn)) (hf : E.P.funcs[f]? = some fn := by kernel_rfl) (hb : fn.body.isNone = false := by kernel_rfl) (hn : (fn.name == "runtime.NumGoroutine") = false := by kernel_rfl) (hna : zYx as na = true := by kernel_rfl) (hpu : ∀ d, pack (unpack d) = d := by intro d; rfl) :
  zK E.P (f, fun k nm args h => zEf as rs os (S k) pack nm args h) :=
 ⟨fun k _ _ _ _ _ hy => yYf hE.ok hE.loc hE.ord hf (body_loops hL) (qAo hf hb hn) hpu hna (hev k) hy, yFa⟩
theorem yZ4 {E : qC} {A : qA} {na f : Nat} {fn : Func} {sh : Bool} {t : Ty} {rs : RS} {X : Type} {S : Nat → List t.den → Option X} {pack : X → RL rs.cells} {unpack : RL rs.cells → X} (hE : qJ E) (hnil : ∀ k, evF E A k 1000 na fn [.c .nsl] (zBn []) (zBr rs unpack) = S k [])
  (hev : ∀ k xs, evF E A k 1000 na fn [.c (.nfl sh t xs)] (zBn []) (zBr rs unpack) = S k xs) (hL : wN E.P A 1000 na fn.ntmps (qD fn)) (hf : E.P.funcs[f]? = some fn := by kernel_rfl) (hb : fn.body.isNone = false := by kernel_rfl) (hn : (fn.name == "runtime.NumGoroutine") = false := by kernel_rfl) (hpu : ∀ d, pack (unpack d) = d := by intro d; rfl) :
  zK E.P (f, fun k nm args h => zCm [.c (.dat sh t)] rs (fun d => S k d.1) pack nm args h) :=
 ⟨fun k _ _ _ _ _ hy => yXy hE.ok hE.loc hE.ord hf (body_loops hL) (qAo hf hb hn) hpu (fun x hx => (hnil k).trans hx) (fun xs x hx => (hev k xs).trans hx) hy, qUa⟩
def zIf (k : Nat) (a b c : Int) : Option (Int × Int) :=
 bif decide (c = 0) then some (Int.ofNat ((a.toNat + b.toNat + 0) % 18446744073709551616), Int.ofNat ((a.toNat + b.toNat + 0) / 18446744073709551616)) else none
def zV9 : zJ := fun k nm args h => match args with
 | [.c (.int .u64 a), .c (.int .u64 b), .c (.int .u64 c)] => .call (Int × Int) (zIf k a b c) (fun r => (.tup [(false, [.int .u64 r.1]), (false, [.int .u64 r.2])], []))
 | _ => .stuck
theorem vFa {P : Program} (a b : Int) (w : World) :
  (add64Entry #[.int .u64 a, .int .u64 b, .int .u64 0]).run P w = .ok (.tuple #[.int .u64 (Int.ofNat ((a.toNat + b.toNat + 0) % 18446744073709551616)), .int .u64 (Int.ofNat ((a.toNat + b.toNat + 0) / 18446744073709551616))]) w := rfl
theorem yTw {P : Program} {f : Nat} {fn : Func} (hf : P.funcs[f]? = some fn := by kernel_rfl) (hname : (fn.name == "runtime.NumGoroutine") = false := by kernel_rfl) (hb : fn.body.isNone = true := by kernel_rfl)
  (hn : Extern.findNext fn = none := by kernel_rfl) (he : Extern.find fn = some add64Entry := by kernel_rfl) :
  zK P (f, zV9) := by
 refine ⟨fun k nm args h v u hy => ?_, fun _ _ _ _ _ _ _ => rfl⟩
 intro M w vs hh hH ok hv
 refine .inr ?_
 replace hy : yD (zV9 k nm args h) v u := hy
 unfold zV9 at hy
 split at hy
 ·rename_i a b c
  obtain ⟨x, hx, rfl, rfl⟩ := hy
  match hl : vs.toList, hv with
  | [v1, v2, v3], hv =>
   obtain ⟨h1, h2, h3, _⟩ := hv
   cases h1; cases h2; cases h3
   obtain rfl : vs = #[.int .u64 a, .int .u64 b, .int .u64 c] := by cases vs; simpa using hl
   unfold zIf at hx
   obtain ⟨hc, hx⟩ := vJ hx
   cases hx
   have hc : c = 0 := by simpa using hc
   subst hc
   refine ⟨.tuple #[.int .u64 (Int.ofNat ((a.toNat + b.toNat + 0) % 18446744073709551616)), .int .u64 (Int.ofNat ((a.toNat + b.toNat + 0) / 18446744073709551616))], w, M, ?_, ⟨rfl, rfl, rfl, hH, rfl, ok, .refl M⟩, ?_⟩
   ·rw [run_callFunc_extern hf hname hb hn he, vFa a b w]
    rfl
   ·exact ⟨#[.int .u64 (Int.ofNat ((a.toNat + b.toNat + 0) % 18446744073709551616)), .int .u64 (Int.ofNat ((a.toNat + b.toNat + 0) / 18446744073709551616))], rfl, rfl, rfl, trivial⟩
 ·exact hy.elim
def zR (f : Nat) (as : List AS) (rs : RS) {X : Type} (s : Nat → AD as → Option X) (pk : X → RL rs.cells) : Nat × zJ := (f, fun k nm args h => zCm as rs (s k) pk nm args h)
def wU (f : Nat) (as : List AX) (rs : RS) (os : List (List RC)) {X : Type} (s : Nat → XD as → Option X) (pk : X → RL (rs.cells ++ os.flatten)) : Nat × zJ := (f, fun k nm args h => zEf as rs os (s k) pk nm args h)
theorem fA {E : qC} (fn : Func) (A : qA) {f : Nat} {as : List AS} {rs : RS} {X : Type} {s : Nat → AD as → Option X} {pk : X → RL rs.cells} (up : RL rs.cells → X) (hE : qJ E) (hL : wN E.P A 1000 0 fn.ntmps (qD fn))
  (hev : qEl E A 0 fn as rs up s := by intro k d; kernel_rfl)
  (hf : E.P.funcs[f]? = some fn := by kernel_rfl) (hb : fn.body.isNone = false := by kernel_rfl) (hn : (fn.name == "runtime.NumGoroutine") = false := by kernel_rfl) (hpu : ∀ d, pk (up d) = d := by intro d; rfl) :
  zK E.P (zR f as rs s pk) := vA5 hE hev hL hf hb hn hpu
theorem fX {E : qC} (fn : Func) (A : qA) (na : Nat) {f : Nat} {as : List AX} {rs : RS} {os : List (List RC)} {X : Type} {s : Nat → XD as → Option X} {pk : X → RL (rs.cells ++ os.flatten)} (up : RL (rs.cells ++ os.flatten) → X) (hE : qJ E) (hL : wN E.P A 1000 na fn.ntmps (qD fn))
  (hev : qZl E A na fn as rs os up s := by intro k d; kernel_rfl)
  (hf : E.P.funcs[f]? = some fn := by kernel_rfl) (hb : fn.body.isNone = false := by kernel_rfl) (hn : (fn.name == "runtime.NumGoroutine") = false := by kernel_rfl) (hna : zYx as na = true := by kernel_rfl) (hpu : ∀ d, pk (up d) = d := by intro d; rfl) :
  zK E.P (wU f as rs os s pk) := yRs hE hev hL hf hb hn hna hpu
def zIw (f : Nat) (sh : Bool) (t : Ty) (r : RC) (s : Nat → List t.den → Option r.den) : Nat × zJ :=
 (f, fun k nm args h => zCm [.c (.dat sh t)] (.c r) (fun d => s k d.1) (fun x => (x, ())) nm args h)
theorem fC {E : qC} (fn : Func) (A : qA) {f : Nat} {sh : Bool} {t : Ty} {r : RC} {s : Nat → List t.den → Option r.den} (hE : qJ E) (hL : wN E.P A 1000 0 fn.ntmps (qD fn))
  (hnil : ∀ k, evF E A k 1000 0 fn [.c .nsl] (zBn []) (zBr (.c r) (fun d => d.1)) = s k [] := by intro k; kernel_rfl)
  (hev : ∀ k xs, evF E A k 1000 0 fn [.c (.nfl sh t xs)] (zBn []) (zBr (.c r) (fun d => d.1)) = s k xs := by intro k xs; kernel_rfl)
  (hf : E.P.funcs[f]? = some fn := by kernel_rfl) (hb : fn.body.isNone = false := by kernel_rfl) (hn : (fn.name == "runtime.NumGoroutine") = false := by kernel_rfl) : zK E.P (zIw f sh t r s) :=
 yZ4 (rs := .c r) (pack := fun x => (x, ())) (unpack := fun d => d.1) hE hnil hev hL hf hb hn
def vX {T : Type} (z : T) (b : T → T) : Nat → T
 | 0 => z
 | n + 1 => b (vX z b n)
theorem lp {E : qC} {A : qA} {na nt : Nat} {b : Code} (L : qG) {Y : Type} (toX : zCn L.outs → L.X) (c : Y → L.inS.den → Option L.X) (f : Nat → Nat → Y) (bf : Nat → Y → Y) (hE : qJ E) (hL : wN E.P A 1000 na nt b)
  (hs : yKa E A na nt b L.inS L.outs toX c bf := by intro k rec d; kernel_rfl)
  (hX : ∀ o R K, L.elim (1000 + zAi) (toX o) R K = zJ4 (1000 + zAi) L.outs o K := by intro o R K; first | rfl | (rcases o with o | o <;> rfl) | (rcases o with o | o | o <;> rfl) | (rcases o with o | o | o | o <;> rfl) | (rcases o with o | o | o | o | o <;> rfl))
  (h0 : ∀ k d, c (f k 0) d = none := by intros; rfl) (h1 : ∀ k n, f k (n + 1) = bf k (f k n) := by intros; rfl) (hf : (⟨L.inS, L.outs, L.X, fun k d => c (f k k) d, L.elim⟩ : qG) = L := by rfl) : qE E.P 1000 na nt b L := by
 rw [← hf]
 exact yZ8 hE hs f _ hX hL h0 h1
def ins {α : Type} (b : Nat) (xs : List α) (i : Int) (ys : List α) : Option (List α) :=
 bif decide (0 ≤ i) && decide (i ≤ (xs.length : Int)) && Nat.beq ys.length 1 && qR (xs.length + 1) b then some (xs.take i.toNat ++ (ys ++ xs.drop i.toNat)) else none
end Go.Ab
