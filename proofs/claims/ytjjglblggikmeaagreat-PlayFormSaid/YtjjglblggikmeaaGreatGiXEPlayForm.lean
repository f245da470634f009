/- part 12 -/
import Derived.Test.YtjjglblggikmeaaGreatGiXR
import Derived.Test.YtjjglblggikmeaaGreatRows
import Derived.Test.YtjjglblggikmeaaGreatGiXPPlayForm
import Derived.ProofKit
import Derived.OpenShut
import Derived.ChangeOld
import Derived.Carry
import Derived.SizedLaws
set_option maxRecDepth 100000
namespace Go.Proofs.YtjjglblggikmeaaGreat
open Go.ChangeShapes Go.WideShapes Go.ChangeAt Go.RowKit Go.Ab.Gi
theorem playForm_own : ownKnob Tryz.prog.godebug = none := by kernel_rfl
theorem playForm_laidOut : laidOutB Tryz.prog = true := by kernel_rfl
theorem playForm_lifted (os : Os) (started : os.Started) (H : Type) (enc : TypeId × Value → H) :
    ReturnsInHanded {} Tryz.checked os 11 .any (Rows.playFormSpec.pre6 enc Tryz.prog Tryz.f11 Rows.playFormRow.domain false) (Rows.playFormSpec.post enc Tryz.prog Tryz.f11 false true false false) := by
  refine returnsInHanded_of_change_sized (C := Tryz.checked) playForm_own started (by kernel_rfl) Tryz.func11
    (ChangeSpec.witness6 (enc := enc) (C := Tryz.checked) false ⟨#[], #[.int .i64 0, .int .i64 0, .slice none 0 0], []⟩ 8 (by kernel_rfl) (by kernel_rfl) (by kernel_rfl) (by kernel_rfl)) ?_
  intro W base args ds gs before hval0 hW hcnd hwt _
  have hval : ∀ (j : Nat) t v, Tryz.f11.params[j]? = some t → args[j]? = some v → Value.okWide Tryz.prog W .any base t v := hval0
  have hW' := hW
  obtain ⟨p, q, hA0, hV, rfl, hfz, hnd⟩ := hW
  have hA : DataW.TrodAll enc Tryz.prog W 0 (fun _ => true) true Tryz.f11.params.toList args.toList ds p := hA0
  rw [Tryz.params11] at hA hval
  have hA1 := hA
  obtain ⟨v0, vs0, d0, ds0, p0, q0, hargs, rfl, rfl, h0, r0⟩ := trodAll_cons hA
  obtain ⟨v1, vs1, d1, ds1, p1, q1, rfl, rfl, rfl, h1, r1⟩ := trodAll_cons r0
  obtain ⟨v2, vs2, d2, ds2, p2, q2, rfl, rfl, rfl, h2, r2⟩ := trodAll_cons r1
  obtain ⟨rfl, rfl, rfl⟩ := trodAll_nil r2
  obtain rfl : args = #[v0, v1, v2] := by cases args; simp_all
  obtain ⟨rfl, rfl⟩ := trodVars_none hV
  have k0 := h0
  have lt0 : ∀ x ∈ p0, x.block < W.heap.size := by obtain ⟨m, hm⟩ := k0; exact DataW.trod_lt m _ _ _ hm
  have k1 := h1
  have lt1 : ∀ x ∈ p1, x.block < W.heap.size := by obtain ⟨m, hm⟩ := k1; exact DataW.trod_lt m _ _ _ hm
  have k2 := h2
  have lt2 : ∀ x ∈ p2, x.block < W.heap.size := by obtain ⟨m, hm⟩ := k2; exact DataW.trod_lt m _ _ _ hm
  obtain ⟨x, hx, hb, hwf⟩ := Go.Ab.lawArgs true (ts := [3, 3, 43]) (tys := [(.int .i64), (.int .i64), (.sl (.int .u8))]) (asp := as_girolaw26_PlayForm) (by kernel_rfl) (by kernel_rfl) (fun j t v h1 h2 => hval j t v (by simpa using h1) (by simpa using h2)) hA1
  rw [Tryz.params11] at hwt
  simp only [List.cons_append, List.nil_append, DataW.weightsEach, List.all_append, Bool.and_eq_true] at hwt
  have hbulk : (x.2.2.1 : List Int).length ≤ 140737488355328 := by
    obtain ⟨A, n, c, e1, e2, _⟩ := hx.2.2.1
    have := Go.Ab.bulk_len (e := 5) (by kernel_rfl) h2 hwt.2.2.1 (Option.some.inj e1)
    rw [show Tryz.prog.bytesOf 5 = 1 by kernel_rfl, e2] at this
    have hr : reachBytes = 140737488351232 := rfl
    rw [hr] at this
    omega
  obtain ⟨k, hk⟩ := pure_girolaw26_PlayForm x hwf hbulk
  refine (Go.Ab.law_calls B_girolaw26_PlayForm.ok B_girolaw26_PlayForm.loc mixed_orders (f := 11) (fn := Tryz.f11) (by kernel_rfl) (Go.Ab.body_loops Go.Ab.loops0) (fun _ => rfl) ((girolaw26_PlayForm_ev k x).trans hk) hb hx).mono fun e W' ⟨he, bel⟩ => ?_
  subst he
  exact ⟨_, rfl, _, _, _, [], _, [], hW', trodAll_mk1 (shut_bool Tryz.underlying4 _), (trodAll_cons_mk (Below.trod playForm_laidOut (by kernel_rfl) (of_decide_eq_true (by kernel_rfl)) k0 bel lt0) (trodAll_cons_mk (Below.trod playForm_laidOut (by kernel_rfl) (of_decide_eq_true (by kernel_rfl)) k1 bel lt1) (trodAll_cons_mk (Below.trod playForm_laidOut (by kernel_rfl) (of_decide_eq_true (by kernel_rfl)) k2 bel lt2) trodAll_mk0))), rfl, bel.frame _, fun h => by cases h⟩
theorem playForm_facts : joinedFacts Tryz.pinned.checked.prog 11 Tryz.f11 Rows.playFormSpec Rows.playFormRow = true := by kernel_rfl
theorem playForm_named : Tryz.pinned.checked.prog.funcNamed Rows.playFormRow.func = some 11 := by kernel_rfl
theorem playForm_holds : Rows.PlayFormSaid :=
  OpenClaim.holds_of_wide 11 Tryz.f11 rfl rfl rfl rfl rfl rfl rfl ⟨rfl, rfl, rfl, rfl, rfl⟩ rfl rfl rfl rfl rfl playForm_named Tryz.func11 playForm_facts
    (of_decide_eq_true (by kernel_rfl)) (by unfold Func.isWrapper; first | (rw [if_pos (by decide +kernel)]; kernel_rfl) | (rw [if_neg (by decide +kernel)]; exact ⟨rfl, rfl⟩))
    (fun os started H enc _ => playForm_lifted os started H enc)
end Go.Proofs.YtjjglblggikmeaaGreat
