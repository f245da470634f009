/- part 36 -/
import Derived.Test.YtdhajnjinkknkaaGreatGiPCHost
set_option linter.unusedVariables false
set_option linter.unusedSimpArgs false
namespace Go.Ab.Gi
open Go.Ab
theorem leP_iff {q p : PayT} : leP q p = true ↔ q.2.1 < p.2.1 ∨ (q.2.1 = p.2.1 ∧ q.2.2.2.2.1 ≤ p.2.2.2.2.1) := by
 unfold leP; simp
theorem ltP_iff {q p : PayT} : ltP q p = true ↔ q.2.1 < p.2.1 ∨ (q.2.1 = p.2.1 ∧ q.2.2.2.2.1 < p.2.2.2.2.1) := by
 unfold ltP; simp
theorem leP_trans {a b c : PayT} (h : leP a b = true) (g : leP b c = true) : leP a c = true := by
 rw [leP_iff] at *; omega
theorem leP_of_not {a b : PayT} (h : ¬ leP a b = true) : leP b a = true := by
 rw [leP_iff] at *; omega
theorem leP_of_lt {a b : PayT} (h : ltP a b = true) : leP a b = true := by
 rw [ltP_iff] at h; rw [leP_iff]; omega
theorem leP_of_nlt {a b : PayT} (h : ¬ ltP a b = true) : leP b a = true := by
 rw [ltP_iff] at h; rw [leP_iff]; omega
theorem insert_perm (f : PayT → Bool) (l : List PayT) (p : PayT) : List.Perm (l.takeWhile f ++ (p :: l.dropWhile f)) (p :: l) := by
 have := List.perm_middle (a := p) (l₁ := l.takeWhile f) (l₂ := l.dropWhile f)
 rwa [List.takeWhile_append_dropWhile] at this
theorem insert_sorted {l : List PayT} (hs : Sorted l) (p : PayT) (f : PayT → Bool) (h1 : ∀ q, f q = true → leP q p = true) (h2 : ∀ q, ¬ f q = true → leP p q = true) : Sorted (l.takeWhile f ++ (p :: l.dropWhile f)) := by
 have hs' := hs
 unfold Sorted at hs hs' ⊢
 rw [← List.takeWhile_append_dropWhile (p := f) (l := l)] at hs
 obtain ⟨a1, a2, a3⟩ := List.pairwise_append.1 hs
 have htw : ∀ q ∈ l.takeWhile f, f q = true := fun q hq => List.all_eq_true.1 (List.all_takeWhile (p := f) (l := l)) q hq
 have hdw : ∀ q ∈ l.dropWhile f, leP p q = true := by
  cases hd : l.dropWhile f with
  | nil => intro q hq; cases hq
  | cons x m =>
   have hx : ¬ f x = true := by
    have hne : l.dropWhile f ≠ [] := by rw [hd]; simp
    have := List.head_dropWhile_not f hne
    have e : (l.dropWhile f).head hne = x := by simp only [hd, List.head_cons]
    rw [e] at this
    simp [this]
   intro q hq
   rcases List.mem_cons.1 hq with rfl | hq
   ·exact h2 _ hx
   ·rw [hd] at a2
    exact leP_trans (h2 x hx) ((List.pairwise_cons.1 a2).1 q hq)
 refine List.pairwise_append.2 ⟨a1, List.pairwise_cons.2 ⟨hdw, a2⟩, fun a ha b hb => ?_⟩
 rcases List.mem_cons.1 hb with rfl | hb
 ·exact h1 a (htw a ha)
 ·exact a3 a ha b hb
theorem putL_sorted {l : List PayT} (hs : Sorted l) (p : PayT) : Sorted (putL l p) := insert_sorted hs p _ (fun _ h => h) (fun _ h => leP_of_not h)
theorem frontL_sorted {l : List PayT} (hs : Sorted l) (p : PayT) : Sorted (frontL l p) := insert_sorted hs p _ (fun _ h => leP_of_lt h) (fun _ h => leP_of_nlt h)
theorem putL_perm (l : List PayT) (p : PayT) : List.Perm (putL l p) (p :: l) := insert_perm _ l p
theorem frontL_perm (l : List PayT) (p : PayT) : List.Perm (frontL l p) (p :: l) := insert_perm _ l p
theorem Sorted.cut {l : List PayT} (h : Sorted l) (x : Nat) : Sorted (cutL l x) := List.Pairwise.sublist (cutL_sub l x) h
theorem addI_asc {l : List Int} (ha : Asc l) {id : Int} (hn : id ∉ l) : Asc (addI l id) := by
 unfold addI
 have ha' := ha
 unfold Asc at ha ha' ⊢
 rw [← List.takeWhile_append_dropWhile (p := fun x => decide (x < id)) (l := l)] at ha
 obtain ⟨a1, a2, a3⟩ := List.pairwise_append.1 ha
 have htw : ∀ q ∈ l.takeWhile (fun x => decide (x < id)), q < id := fun q hq => by simpa using List.all_eq_true.1 (List.all_takeWhile (p := fun x => decide (x < id)) (l := l)) q hq
 have hdw : ∀ q ∈ l.dropWhile (fun x => decide (x < id)), id < q := by
  cases hd : l.dropWhile (fun x => decide (x < id)) with
  | nil => intro q hq; cases hq
  | cons x m =>
   have hxm : x ∈ l := (List.dropWhile_sublist _).subset (by rw [hd]; exact List.mem_cons_self ..)
   have hx : ¬ x < id := by
    have hne : l.dropWhile (fun x => decide (x < id)) ≠ [] := by rw [hd]; simp
    have := List.head_dropWhile_not (fun x => decide (x < id)) hne
    have e : (l.dropWhile (fun x => decide (x < id))).head hne = x := by simp only [hd, List.head_cons]
    rw [e] at this
    simpa using this
   have hne : x ≠ id := fun e => hn (e ▸ hxm)
   intro q hq
   rcases List.mem_cons.1 hq with rfl | hq
   ·omega
   ·rw [hd] at a2
    have := (List.pairwise_cons.1 a2).1 q hq
    omega
 refine List.pairwise_append.2 ⟨a1, List.pairwise_cons.2 ⟨hdw, a2⟩, fun a ha b hb => ?_⟩
 rcases List.mem_cons.1 hb with rfl | hb
 ·exact htw a ha
 ·exact a3 a ha b hb
theorem addI_perm (l : List Int) (id : Int) : List.Perm (addI l id) (id :: l) := by
 have := List.perm_middle (a := id) (l₁ := l.takeWhile (fun x => decide (x < id))) (l₂ := l.dropWhile (fun x => decide (x < id)))
 rwa [List.takeWhile_append_dropWhile] at this
theorem Waits.sub {n : Nat} {m m' : List PayT} {ids : List Int} (h : Waits n m ids) (hs : List.Sublist m' m) : Waits n m' ids :=
 ⟨List.Pairwise.sublist hs h.dist, by have := hs.length_le; have := h.len; omega, List.Pairwise.sublist hs h.sort, fun p hp => h.may p (hs.subset hp), fun p hp => h.time p (hs.subset hp), fun p hp => h.were p (hs.subset hp), h.asc, h.pos, h.idl⟩
theorem Waits.turn {n : Nat} {m : List PayT} {ids : List Int} (h : Waits n m ids) {x : Nat} (hx : x < m.length) {p : PayT} {m' : List PayT} (hp : List.Perm m' (p :: cutL m x)) (hs : Sorted m') (h1 : p.1 = (m.getD x pd).1)
  (h2 : May n p) (h3 : 0 ≤ p.2.2.2.2.2.1 ∧ p.2.2.2.2.2.1 ≤ p.2.2.2.2.2.2 ∧ p.2.2.2.2.2.2 ≤ 1048576) : Waits n m' ids := by
 have hc := cutL_sub m x
 have hl := cutL_length hx
 have hd : Dist (p :: cutL m x) := by
  refine List.pairwise_cons.2 ⟨fun q hq => ?_, h.dist.cut x⟩
  rw [h1]
  have hd := h.dist
  unfold Dist at hd
  rw [split_at m x pd hx] at hd
  have hd2 := List.pairwise_append.1 hd
  have hd3 := List.pairwise_cons.1 hd2.2.1
  unfold cutL at hq
  rcases List.mem_append.1 hq with hq | hq
  ·exact fun e => hd2.2.2 _ hq _ (List.mem_cons_self ..) e.symm
  ·exact hd3.1 _ hq
 have hlen := hp.length_eq
 rw [List.length_cons] at hlen
 refine ⟨hd.perm hp, by have := h.len; omega, hs, fun q hq => ?_, fun q hq => ?_, fun q hq => ?_, h.asc, h.pos, h.idl⟩
 all_goals rcases List.mem_cons.1 (hp.subset hq) with rfl | hq'
 ·exact h2
 ·exact h.may q (hc.subset hq')
 ·exact h3
 ·exact h.time q (hc.subset hq')
 ·rw [h1]; exact h.were _ (getD_mem hx)
 ·exact h.were q (hc.subset hq')
theorem pay_waits {r : RulesT} {s : StR} (hr : RulesOK r) (h : Inv r s) {who : Int} {f : MsgT} (h0 : (payS r s who f).1 = 0) : Waits s.B.1.length (payS r s who f).2.1 (payS r s who f).2.2 := by
 have hw := h.waits
 have hn := h.n
 have ht := h.tk
 unfold payS at h0 ⊢
 cases hc : decide (f.2.2.1 ≥ 0) && decide (f.2.2.1 ≤ r.1 - 1) with
 | false => rw [hc] at h0; cases h0
 | true =>
 cases hc2 : decide (f.2.2.2.2.1 ≥ 1) && decide (f.2.2.2.2.1 ≤ 3) with
 | false => rw [hc, hc2] at h0; cases h0
 | true =>
 cases hc3 : decide (checkS r s.t (payF who f) = 0) with
 | false => rw [hc, hc2, hc3] at h0; exact absurd h0 (of_decide_eq_false hc3)
 | true =>
 cases hc4 : decide (f.2.1 ∈ s.ids) with
 | true => rw [hc, hc2, hc3, hc4] at h0; cases h0
 | false =>
 cases hc5 : decide (200 ≤ s.ids.length) with
 | true => rw [hc, hc2, hc3, hc4, hc5] at h0; cases h0
 | false =>
 cases hc6 : (posL s.m f.2.1).isSome with
 | true => rw [hc, hc2, hc3, hc4, hc5, hc6] at h0; cases h0
 | false =>
 cases hc7 : decide (40 ≤ s.m.length) with
 | true => rw [hc, hc2, hc3, hc4, hc5, hc6, hc7] at h0; cases h0
 | false =>
 show Waits s.B.1.length (putL s.m (payF who f)) (addI s.ids f.2.1)
 have hni : f.2.1 ∉ s.ids := of_decide_eq_false hc4
 have hi := of_decide_eq_false hc5
 have hm := of_decide_eq_false hc7
 have hchk := of_decide_eq_true hc3
 have hip : isPayB r.1 s.t (payF who f) = true := by
  unfold checkS at hchk
  cases hb : isPayB r.1 s.t (payF who f) with
  | true => rfl
  | false => rw [hb] at hchk; cases hchk
 unfold isPayB at hip
 simp only [Bool.and_eq_true, decide_eq_true_eq, Bool.not_eq_true', decide_eq_false_iff_not] at hip
 obtain ⟨⟨p1, p2⟩, ⟨p3, p4⟩, p5, p6, p7, p8, p9, p10, p11, p12, p13, p14⟩ := hip
 have hpm := putL_perm s.m (payF who f)
 have hpi := addI_perm s.ids f.2.1
 have hlen := hpm.length_eq
 have hlen2 := hpi.length_eq
 rw [List.length_cons] at hlen hlen2
 have hmay : May s.B.1.length (payF who f) := ⟨p1, by omega, p3, by omega, p9, p6, p7, p8, p10⟩
 have hin : ∀ x, x ∈ s.ids → x ∈ addI s.ids f.2.1 := fun x hx => hpi.symm.subset (List.mem_cons_of_mem _ hx)
 have hdist : Dist (payF who f :: s.m) := List.pairwise_cons.2 ⟨fun q hq e => hni (by have := hw.were q hq; rw [← e] at this; exact this), hw.dist⟩
 refine ⟨hdist.perm hpm, by omega, putL_sorted hw.sort _, fun q hq => ?_, fun q hq => ?_, fun q hq => ?_, addI_asc hw.asc hni, fun x hx => ?_, by omega⟩
 ·rcases List.mem_cons.1 (hpm.subset hq) with rfl | hq'
  ·exact hmay
  ·exact hw.may q hq'
 ·rcases List.mem_cons.1 (hpm.subset hq) with rfl | hq'
  ·exact ⟨p11, p12, p14⟩
  ·exact hw.time q hq'
 ·rcases List.mem_cons.1 (hpm.subset hq) with rfl | hq'
  ·exact hpi.symm.subset (List.mem_cons_self ..)
  ·exact hin _ (hw.were q hq')
 ·rcases List.mem_cons.1 (hpi.subset hx) with rfl | hx'
  ·exact p5
  ·exact hw.pos x hx'
theorem wait_waits {r : RulesT} {s : StR} (h : Inv r s) {who : Int} {f : MsgT} (h0 : (waitS r s who f).1 = 0) : Waits s.B.1.length (waitS r s who f).2.1 s.ids := by
 have hw := h.waits
 unfold waitS at h0 ⊢
 cases hx : posL s.m f.2.1 with
 | none => rw [hx] at h0; cases h0
 | some x =>
 rw [hx] at h0
 have hx1 := (posL_some hx).1
 have hmem : s.m.getD x pd ∈ s.m := getD_mem hx1
 have hm := hw.may _ hmem
 have ht := hw.time _ hmem
 simp only at h0 ⊢
 cases hc : decide ((s.m.getD x pd).2.1 = who) with
 | false => rw [hc] at h0; cases h0
 | true =>
 rw [hc] at h0
 simp only [Bool.not_true, cond_false] at h0 ⊢
 cases hc2 : decide (f.1 = 2) with
 | true => exact hw.sub (cutL_sub _ _)
 | false =>
 rw [hc2] at h0
 simp only [cond_false] at h0 ⊢
 cases hc3 : decide (f.1 = 4) with
 | true =>
  rw [hc3] at h0
  simp only [cond_true] at h0 ⊢
  cases hc4 : decide (f.2.2.1 ≥ 1) && decide (f.2.2.1 ≤ 3) with
  | false => rw [hc4] at h0; cases h0
  | true =>
  cases hc5 : decide (mayS r.2.2.1 r.2.2.2.1 s.t f.2.2.1 = 0) with
  | false => rw [hc4, hc5] at h0; exact absurd h0 (of_decide_eq_false hc5)
  | true =>
  simp only [Bool.and_eq_true, decide_eq_true_eq] at hc4
  obtain ⟨m1, m2, m3, m4, m5, m6, m7, m8, m9⟩ := hm
  exact hw.turn hx1 (putL_perm _ _) (putL_sorted (hw.sort.cut x) _) rfl ⟨m1, m2, m3, m4, m5, m6, m7, hc4.1, hc4.2⟩ ht
 | false =>
  rw [hc3] at h0
  simp only [cond_false] at h0 ⊢
  cases hc4 : decide (f.2.2.1 = 0) with
  | true => exact hw.turn hx1 (frontL_perm _ _) (frontL_sorted (hw.sort.cut x) _) rfl hm ht
  | false =>
   cases hc5 : decide (f.2.2.1 = 1) with
   | true => exact hw.turn hx1 (putL_perm _ _) (putL_sorted (hw.sort.cut x) _) rfl hm ht
   | false => rw [hc4, hc5] at h0; cases h0
end Go.Ab.Gi
