/- part 45 -/
import Derived.Test.YtdhajnjinkknkaaGreatGiPCPool
set_option linter.unusedVariables false
set_option linter.unusedSimpArgs false
namespace Go.Ab.Gi
open Go.Ab
theorem tail2 {k : Nat} (hk : 1000 ≤ k) {r : RulesT} (hr : RulesOK r) {t : StR} (h : Inv r t) (ho : t.ov = false) (who : Int) {l : List OutT} (hl : l.length ≤ 2) {f : MsgT} (hf : ¬ f.1 = 13) :
    ∃ C m' d o, ((hour_Settle k t.t t.B.1 t.B.2.1 t.B.2.2.1 t.B.2.2.2 t.pr t.ho t.m t.ids t.to t.ov (decide (f.1 = 13))).bind fun x5 =>
      bif roomB (l.length + x5.2.2.2.2.2.2.2.2.2.2.2.length) 64 then (let y0 : List OutT := (l ++ x5.2.2.2.2.2.2.2.2.2.2.2)
       bif decide (f.1 = 1) then ((row_Find k x5.2.2.2.2.2.2.2.1 f.2.1).bind fun x6 =>
        bif decide (x6 ≥ 0) then ((core_desk_tells_v3 k (j1_17 ((0 : Int), dk r t who l) y0) 19 [f.2.1]).bind fun x7 =>
         some ((g0_11 x5), x7.2.2.2.2.2.2.2.2.2.2.2.2.2.2.2.2.2, (0 : Int)))
        else some ((g0_11 x5), y0, 0))
       else some ((g0_11 x5), y0, 0))
      else none) = some (({ t with B := C, m := m' } : StR).st, o, (0 : Int)) ∧ Loop k t.t t.B t.m d C m' ∧ Inv r { t with B := C, m := m' } := by
  have hm := h.waits.len
  obtain ⟨C, m', d, e1, e2, e3, e4, e5, e6, e7⟩ := hour_Settle_core (k := k) (by omega) h.bk h.waits.dist h.waits.may (by omega) t.t t.pr t.ho t.ids t.to t.ov (decide (f.1 = 13))
  rw [e1]
  rw [decide_eq_false hf] at e2
  have hloop := settle_few (by omega) h.bk h.waits.dist (by omega) t.t e2
  have hd : d.length ≤ 40 := by
    have := e6.length_eq
    rw [List.length_append] at this
    omega
  have hm' := e5.length_le
  have htl := toldL_length d
  simp only [Option.bind_some]
  rw [roomB_true (n := l.length + (toldL d).length) (by omega) (by omega)]
  simp only [cond_true]
  have hu := h.settled ho e3 e4 e5
  have fin : ∀ o : List OutT, ∃ C' m'' d' o', some (({ t with B := C, m := m' } : StR).st, o, (0 : Int)) = some (({ t with B := C', m := m'' } : StR).st, o', (0 : Int)) ∧ Loop k t.t t.B t.m d' C' m'' ∧ Inv r { t with B := C', m := m'' } := fun o => ⟨C, m', d, o, rfl, hloop, hu⟩
  cases decide (f.1 = 1) with
  | false => exact fin _
  | true =>
    simp only [cond_true]
    rw [row_Find_eq (by omega) (by omega)]
    simp only [Option.bind_some]
    cases decide (posI m' f.2.1 ≥ 0) with
    | false => exact fin _
    | true =>
      simp only [cond_true]
      have ej : j1_17 ((0 : Int), dk r t who l) (l ++ toldL d) = dk r t who (l ++ toldL d) := rfl
      rw [ej, tells_eq (by rw [List.length_append]; omega)]
      exact fin _
theorem may_party {k : Nat} {r : RulesT} {s : StR} (ho : s.ov = false) {who : Int} (hw : 0 ≤ who ∧ who < r.1) {f : MsgT} (hf : 1 ≤ f.1 ∧ f.1 ≤ 8) (hm : msg_Is k f = some true) : core_may k r s.st (who, f) = some 0 := by
 unfold core_may
 rw [host_eq, asked_eq]
 simp only [Option.bind_some]
 rw [hm, decide_eq_true (show f.1 ≥ 1 by omega), decide_eq_true (show f.1 ≤ 14 by omega), decide_eq_false (show ¬ f.1 ≥ 10 by omega), decide_eq_true (show who ≥ 0 by omega), decide_eq_true (show who < r.1 by omega)]
 have eo : s.st.2.2.2.2.2.2.2.2.2.2 = s.ov := rfl
 rw [eo, ho]
 rfl
theorem do_party {k : Nat} (hk : 1000 ≤ k) {r : RulesT} (hr : RulesOK r) {s : StR} (ho : s.ov = false) {who : Int} (hw : 0 ≤ who ∧ who < r.1) {f : MsgT} (hf : 1 ≤ f.1 ∧ f.1 ≤ 8) (hm : msg_Is k f = some true) {e : Int} {d : DeskT}
  (hd : core_desk_does k (dk r s who [noteO who 15 0]) f = some (e, d)) :
  (e ≠ 0 → core_Do k r s.st (who, f) = some (s.st, [], e)) ∧
  (e = 0 → ∀ t l, d = dk r t who l → l.length ≤ 2 → Inv r t → t.ov = false → ∃ C m' dn o, core_Do k r s.st (who, f) = some (({ t with B := C, m := m' } : StR).st, o, 0) ∧ Loop k t.t t.B t.m dn C m' ∧ Inv r { t with B := C, m := m' }) := by
 have ed : core_desk_tells_v2 k (f0_5 r (f0_11 s.st who)) 15 [] = some (dk r s who [noteO who 15 0]) := rfl
 unfold core_Do
 rw [may_party ho hw hf hm]
 simp only [Option.bind_some]
 rw [decide_eq_false (show ¬ f.1 = 9 by omega), decide_eq_false (show ¬ who = -1 by omega)]
 simp only [decide_true, Bool.not_true, Bool.not_false, cond_true, cond_false]
 rw [ed]
 simp only [Option.bind_some]
 rw [hd]
 simp only [Option.bind_some]
 constructor
 ·intro hz
  rw [decide_eq_false hz]
  rfl
 ·intro hz t l hdd hl hi ht
  subst hdd
  rw [decide_eq_true hz, decide_eq_false (show ¬ f.1 = 14 by omega)]
  simp only [Bool.not_true, cond_false]
  exact tail2 hk hr hi ht who hl (by omega)
theorem do_price {k : Nat} (hk : 1000 ≤ k) {r : RulesT} (hr : RulesOK r) {s : StR} (h : Inv r s) (ho : s.ov = false) {f : MsgT} (hf : f.1 = 12) (hm : msg_Is k f = some true) (h0 : (priceS r s f.2.1 f.2.2.1).1 = 0) :
  ∃ C m' dn o, core_Do k r s.st (-1, f) = some (({ (priceS r s f.2.1 f.2.2.1).2 with B := C, m := m' } : StR).st, o, 0) ∧ Loop k (priceS r s f.2.1 f.2.2.1).2.t (priceS r s f.2.1 f.2.2.1).2.B (priceS r s f.2.1 f.2.2.1).2.m dn C m' ∧ Inv r { (priceS r s f.2.1 f.2.2.1).2 with B := C, m := m' } := by
 have ed : f0_5 r (f0_11 s.st (-1)) = dk2 r s (-1) := rfl
 have hmay : core_may k r s.st (-1, f) = some 0 := by
  unfold core_may
  rw [host_eq, asked_eq]
  simp only [Option.bind_some]
  rw [hm, decide_eq_true (show f.1 ≥ 1 by omega), decide_eq_true (show f.1 ≤ 14 by omega), decide_eq_true (show f.1 ≥ 10 by omega)]
  have eo : s.st.2.2.2.2.2.2.2.2.2.2 = s.ov := rfl
  rw [eo, ho]
  rfl
 obtain ⟨d, e1, e2⟩ := price_eq hk hr h (-1) f.2.1 f.2.2.1
 have hd : core_desk_does_v2 k (dk2 r s (-1)) f = some (0, d) := by
  unfold core_desk_does_v2
  rw [hf]
  have : (core_desk_price_v2 k (dk2 r s (-1)) f.2.1 f.2.2.1).bind (fun x10 => some (x10.1, x10.2)) = some (0, d) := by rw [e1, h0]; rfl
  exact this
 have := e2 h0
 subst this
 unfold core_Do
 rw [hmay]
 simp only [Option.bind_some]
 rw [decide_eq_false (show ¬ f.1 = 9 by omega)]
 simp only [decide_true, Bool.not_true, Bool.not_false, cond_true, cond_false]
 rw [ed, hd]
 simp only [Option.bind_some]
 rw [decide_eq_false (show ¬ f.1 = 14 by omega)]
 simp only [decide_true, Bool.not_true, cond_false]
 have hrest := priceS_rest r s f.2.1 f.2.2.1
 exact tail2 hk hr (price_inv h h0) (hrest.2.1.trans ho) (-1) (l := []) (by decide) (by omega)
theorem step_of {k : Nat} {r : RulesT} {s : StR} {c : CmdT} {x : StateT} {o : List OutT} (h : core_Do k r s.st c = some (x, o, 0)) : girolaw23_step k r s.st c = some (x, o, 0) := by
 unfold girolaw23_step
 rw [h]
 rfl
end Go.Ab.Gi
