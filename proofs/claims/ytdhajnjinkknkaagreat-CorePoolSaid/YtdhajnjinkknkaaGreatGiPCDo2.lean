/- part 39 -/
import Derived.Test.YtdhajnjinkknkaaGreatGiPCDo
set_option linter.unusedVariables false
set_option linter.unusedSimpArgs false
namespace Go.Ab.Gi
open Go.Ab
theorem query_is {k : Nat} (hk : 1000 ≤ k) {r : RulesT} {s : StR} (h : Inv r s) {who : Int} (hw : 0 ≤ who ∧ who < r.1) : ∃ o, core_query k s.st who = some o := by
 have hm := h.waits.len
 have hn := h.n
 have hb : boundOk who s.B.1.length = true := boundOk_true hw.1 (by omega)
 unfold core_query
 have e1 : s.st.2.1 = s.B.1 := rfl
 have e2 : s.st.2.2.2.2.2.2.2.1 = s.m := rfl
 rw [e1, e2, hb, view_Of_eq (by omega) (by unfold Small; omega)]
 exact ⟨_, rfl⟩
structure Did (k : Nat) (r : RulesT) (s : StR) (c : CmdT) (t : StR) (o : List OutT) (e : Int) : Prop where
 inv : Inv r t
 bad : e ≠ 0 → t = s ∧ o = []
 to : e = 0 → t.to = s.to + (if c.2.1 = 10 then c.2.2.2.1 else if c.2.1 = 11 then -c.2.2.2.1 else 0)
 still : t = s ∨ (t.ov = false → nextL k t.B (mayL t.m t.t) = none)
theorem Inv.settled {r : RulesT} {s : StR} (h : Inv r s) (ho : s.ov = false) {C : BT} (hc : BooksT C) (kc : KeptC s.B C) {m : List PayT} (hm : List.Sublist m s.m) : Inv r { s with B := C, m := m } := by
  have hl := kc.len
  exact {
    tk := h.tk
    bk := hc
    n := by show ((C.1.length : Nat) : Int) = r.1; rw [hl]; exact h.n
    hol := by show s.ho.length = C.1.length; rw [hl]; exact h.hol
    laid := by show ∀ i, i < C.1.length → _; rw [hl]; exact h.laid
    cred := by show ∀ i, i < C.1.length → _; rw [hl]; intro i hi; show (C.1.getD i ad).2.1 = _; rw [kc.cred i hi]; exact h.cred i hi
    most := by show ∀ i, i < C.1.length → _; rw [hl]; intro i hi; show (C.1.getD i ad).2.1 ≤ _; rw [kc.cred i hi]; exact h.most i hi
    waits := by show Waits C.1.length m s.ids; rw [hl]; exact h.waits.sub hm
    sum := by show sumN (fun i => (C.1.getD i ad).1) C.1.length = s.to; rw [hl, kc.sum]; exact h.sum
    tot := h.tot
    over := h.over
    none := fun e => by rw [show s.ov = true from e] at ho; cases ho }
theorem tickC_is {k : Nat} (hk : 1000 ≤ k) {r : RulesT} (hr : RulesOK r) {s : StR} (h : Inv r s) (ho : s.ov = false) (c : CmdT) (hc : c.2.1 = 14) :
    ∃ t o, (hour_Tick k r.1 r.2.1 r.2.2.1 r.2.2.2.1 r.2.2.2.2 s.t s.B.1 s.B.2.1 s.B.2.2.1 s.B.2.2.2 s.pr s.ho s.m s.ids s.to s.ov).bind (fun x4 => some ((g0_11 x4), x4.2.2.2.2.2.2.2.2.2.2.2, (0 : Int))) = some (t.st, o, (0 : Int)) ∧ Did k r s c t o 0 := by
  have hcl := hr.cl
  have hpe := hr.pe
  have htk := h.tk
  have hn := h.n
  have hlt : s.t ≠ r.2.2.2.1 := by
    have := h.over
    rw [ho] at this
    exact of_decide_eq_false this.symm
  have hbk := h.bk
  have hm := h.waits.len
  rw [ho]
  obtain ⟨C, m', ov, o, e1, e2, e3, e4, e5⟩ := tick_core (k := k) (by omega) hbk h.waits.dist h.waits.may (by omega) r.1 r.2.1 r.2.2.1 r.2.2.2.1 r.2.2.2.2 s.t (by omega) (by omega) s.pr s.ho s.ids s.to
  rw [e1]
  simp only [Option.bind_some]
  have hl := e3.len
  refine ⟨{ s with t := s.t + 1, B := C, m := m', ov := ov }, o, rfl, ?_, fun e => absurd rfl e, fun _ => ?_, .inr e4⟩
  · exact {
      tk := by show 0 ≤ s.t + 1 ∧ s.t + 1 ≤ _; omega
      bk := e2.bk
      n := by show ((C.1.length : Nat) : Int) = r.1; rw [hl]; exact h.n
      hol := by show s.ho.length = C.1.length; rw [hl]; exact h.hol
      laid := by show ∀ i, i < C.1.length → _; rw [hl]; exact h.laid
      cred := by show ∀ i, i < C.1.length → _; rw [hl]; intro i hi; show (C.1.getD i ad).2.1 = _; rw [e3.cred i hi]; exact h.cred i hi
      most := by show ∀ i, i < C.1.length → _; rw [hl]; intro i hi; show (C.1.getD i ad).2.1 ≤ _; rw [e3.cred i hi]; exact h.most i hi
      waits := by show Waits C.1.length m' s.ids; rw [hl]; exact h.waits.sub e2.sub
      sum := by show sumN (fun i => (C.1.getD i ad).1) C.1.length = s.to; rw [hl, e3.sum]; exact h.sum
      tot := h.tot
      over := e2.over
      none := e2.none }
  · show s.to = _
    rw [if_neg (by omega), if_neg (by omega)]
    omega
theorem tail_is {k : Nat} (hk : 1000 ≤ k) {r : RulesT} (hr : RulesOK r) {t : StR} (h : Inv r t) (ho : t.ov = false) (who : Int) {l : List OutT} (hl : l.length ≤ 2) (f : MsgT) :
    ∃ u o, ((hour_Settle k t.t t.B.1 t.B.2.1 t.B.2.2.1 t.B.2.2.2 t.pr t.ho t.m t.ids t.to t.ov (decide (f.1 = 13))).bind fun x5 =>
      bif roomB (l.length + x5.2.2.2.2.2.2.2.2.2.2.2.length) 64 then (let y0 : List OutT := (l ++ x5.2.2.2.2.2.2.2.2.2.2.2)
       bif decide (f.1 = 1) then ((row_Find k x5.2.2.2.2.2.2.2.1 f.2.1).bind fun x6 =>
        bif decide (x6 ≥ 0) then ((core_desk_tells_v3 k (j1_17 ((0 : Int), dk r t who l) y0) 19 [f.2.1]).bind fun x7 =>
         some ((g0_11 x5), x7.2.2.2.2.2.2.2.2.2.2.2.2.2.2.2.2.2, (0 : Int)))
        else some ((g0_11 x5), y0, 0))
       else some ((g0_11 x5), y0, 0))
      else none) = some (u.st, o, (0 : Int)) ∧ Inv r u ∧ u.to = t.to ∧ nextL k u.B (mayL u.m u.t) = none := by
  have hm := h.waits.len
  obtain ⟨C, m', d, e1, e2, e3, e4, e5, e6, e7⟩ := hour_Settle_core (k := k) (by omega) h.bk h.waits.dist h.waits.may (by omega) t.t t.pr t.ho t.ids t.to t.ov (decide (f.1 = 13))
  rw [e1]
  have hd : d.length ≤ 40 := by
    have := e6.length_eq
    rw [List.length_append] at this
    omega
  have hm' := e5.length_le
  have htl := toldL_length d
  simp only [Option.bind_some]
  rw [roomB_true (n := l.length + (toldL d).length) (by omega) (by omega)]
  simp only [cond_true]
  have hu := h.settled ho e3 e4 e5
  have fin : ∀ o : List OutT, ∃ u o', some (({ t with B := C, m := m' } : StR).st, o, (0 : Int)) = some (u.st, o', (0 : Int)) ∧ Inv r u ∧ u.to = t.to ∧ nextL k u.B (mayL u.m u.t) = none := fun o => ⟨{ t with B := C, m := m' }, o, rfl, hu, rfl, e7⟩
  cases decide (f.1 = 1) with
  | false => exact fin _
  | true =>
    simp only [cond_true]
    rw [row_Find_eq (by omega) (by omega)]
    simp only [Option.bind_some]
    cases decide (posI m' f.2.1 ≥ 0) with
    | false => exact fin _
    | true =>
      simp only [cond_true]
      have ej : j1_17 ((0 : Int), dk r t who l) (l ++ toldL d) = dk r t who (l ++ toldL d) := rfl
      rw [ej, tells_eq (by rw [List.length_append]; omega)]
      exact fin _
theorem do_is {k : Nat} (hk : 1000 ≤ k) {r : RulesT} (hr : RulesOK r) {s : StR} (h : Inv r s) (c : CmdT) :
  ∃ t o e, core_Do k r s.st c = some (t.st, o, e) ∧ Did k r s c t o e := by
 unfold core_Do
 obtain ⟨e, he, hm⟩ := may_is (k := k) (by omega) r s c
 rw [he]
 simp only [Option.bind_some]
 by_cases h0 : e = 0
 ·obtain ⟨hw, hov⟩ := hm h0
  rw [decide_eq_true h0]
  simp only [Bool.not_true, cond_false]
  by_cases h9 : c.2.1 = 9
  ·rw [decide_eq_true h9]
   have hw' : 0 ≤ c.1 ∧ c.1 < r.1 := by omega
   obtain ⟨o, ho⟩ := query_is hk h hw'
   simp only [cond_true]
   rw [ho]
   refine ⟨s, o, 0, rfl, h, fun e => absurd rfl e, fun _ => ?_, .inl rfl⟩
   rw [if_neg (by omega), if_neg (by omega)]
   omega
  ·rw [decide_eq_false h9]
   simp only [cond_false]
   have ho : s.ov = false := by
    cases g : s.ov with
    | false => rfl
    | true => exact absurd (hov g) h9
   have fin : ∀ {t : StR} {l : List OutT}, Dealt r s c.2 t l → ∀ {x : Option (StateT × List OutT × Int)}, (∃ u o, x = some (u.st, o, (0 : Int)) ∧ Inv r u ∧ u.to = t.to ∧ nextL k u.B (mayL u.m u.t) = none) → ∃ t o e, x = some (t.st, o, e) ∧ Did k r s c t o e := by
    intro t l hd x ⟨u, o, g1, g2, g3, g4⟩
    exact ⟨u, o, 0, g1, g2, fun e => absurd rfl e, fun _ => g3.trans hd.to, .inr fun _ => g4⟩
   by_cases hp : c.1 = -1
   ·rw [decide_eq_true hp]
    have hf : 10 ≤ c.2.1 ∧ c.2.1 ≤ 14 := by omega
    obtain ⟨e, d, g1, g2⟩ := does2_is hk hr h c.1 (f := c.2) hf
    have ed : f0_5 r (f0_11 s.st c.1) = dk2 r s c.1 := rfl
    simp only [Bool.not_true, cond_false]
    rw [ed, g1]
    simp only [Option.bind_some]
    by_cases hz : e = 0
    ·obtain ⟨t, l, rfl, hd⟩ := g2 hz
     rw [decide_eq_true hz]
     simp only [Bool.not_true, cond_false]
     by_cases h14 : c.2.1 = 14
     ·rw [decide_eq_true h14]
      simp only [cond_true]
      obtain ⟨t, o, q1, q2⟩ := tickC_is hk hr h ho c h14
      exact ⟨t, o, 0, q1, q2⟩
     ·rw [decide_eq_false h14]
      simp only [cond_false]
      exact fin hd (tail_is hk hr hd.inv (hd.ov.trans ho) c.1 hd.few c.2)
    ·rw [decide_eq_false hz]
     exact ⟨s, [], e, rfl, h, fun _ => ⟨rfl, rfl⟩, fun e' => absurd e' hz, .inl rfl⟩
   ·rw [decide_eq_false hp]
    have hf : 1 ≤ c.2.1 ∧ c.2.1 ≤ 8 := by omega
    have hw' : 0 ≤ c.1 ∧ c.1 < r.1 := by omega
    have ed : core_desk_tells_v2 k (f0_5 r (f0_11 s.st c.1)) 15 [] = some (dk r s c.1 [noteO c.1 15 0]) := rfl
    obtain ⟨e, d, g1, g2⟩ := does_is hk hr h ho hw' (f := c.2) hf (noteO c.1 15 0)
    simp only [Bool.not_false, cond_true]
    rw [ed]
    simp only [Option.bind_some]
    rw [g1]
    simp only [Option.bind_some]
    by_cases hz : e = 0
    ·obtain ⟨t, l, rfl, hd⟩ := g2 hz
     rw [decide_eq_true hz, decide_eq_false (show ¬ c.2.1 = 14 by omega)]
     simp only [Bool.not_true, cond_false]
     exact fin hd (tail_is hk hr hd.inv (hd.ov.trans ho) c.1 hd.few c.2)
    ·rw [decide_eq_false hz]
     exact ⟨s, [], e, rfl, h, fun _ => ⟨rfl, rfl⟩, fun e' => absurd e' hz, .inl rfl⟩
 ·rw [decide_eq_false h0]
  exact ⟨s, [], e, rfl, h, fun _ => ⟨rfl, rfl⟩, fun e' => absurd e' h0, .inl rfl⟩
theorem step_is {k : Nat} (hk : 1000 ≤ k) {r : RulesT} (hr : RulesOK r) {s : StR} (h : Inv r s) (c : CmdT) :
  ∃ t o e, girolaw23_step k r s.st c = some (t.st, o, e) ∧ Did k r s c t o e := by
 obtain ⟨t, o, e, h1, h2⟩ := do_is hk hr h c
 unfold girolaw23_step
 rw [h1]
 simp only [Option.bind_some]
 by_cases hz : e = 0
 ·rw [decide_eq_true hz]
  exact ⟨t, o, e, rfl, h2⟩
 ·rw [decide_eq_false hz]
  obtain ⟨e1, e2⟩ := h2.bad hz
  subst e1; subst e2
  exact ⟨t, [], e, rfl, h2⟩
end Go.Ab.Gi
