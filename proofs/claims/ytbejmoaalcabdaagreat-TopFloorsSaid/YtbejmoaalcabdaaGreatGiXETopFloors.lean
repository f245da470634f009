/- part 46 -/
import Derived.Test.YtbejmoaalcabdaaGreatGiXR
import Derived.Test.YtbejmoaalcabdaaGreatRows
import Derived.Test.YtbejmoaalcabdaaGreatGiXPTopFloors
import Derived.ProofKit
import Derived.OpenShut
import Derived.ChangeOld
import Derived.Carry
set_option maxRecDepth 100000
namespace Go.Proofs.YtbejmoaalcabdaaGreat
open Go.ChangeShapes Go.WideShapes Go.ChangeAt Go.RowKit Go.Ab.Gi
theorem topFloors_own : ownKnob Tryz.prog.godebug = none := by kernel_rfl
theorem topFloors_laidOut : laidOutB Tryz.prog = true := by kernel_rfl
theorem topFloors_lifted (os : Os) (started : os.Started) (H : Type) (enc : TypeId × Value → H) :
    ReturnsInHanded {} Tryz.checked os 5 .any (Rows.topFloorsSpec.pre6 enc Tryz.prog Tryz.f5 Rows.topFloorsRow.domain false) (Rows.topFloorsSpec.post enc Tryz.prog Tryz.f5 false true false false) := by
  refine returnsInHanded_of_change (C := Tryz.checked) topFloors_own started (by kernel_rfl) Tryz.func5
    (ChangeSpec.witness6 (enc := enc) (C := Tryz.checked) false ⟨#[], #[.int .i64 0, .slice none 0 0], []⟩ 8 (by kernel_rfl) (by kernel_rfl) (by kernel_rfl) (by kernel_rfl)) ?_
  intro W base args ds gs before hval0 hW hcnd _
  have hval : ∀ (j : Nat) t v, Tryz.f5.params[j]? = some t → args[j]? = some v → Value.okWide Tryz.prog W .any base t v := hval0
  have hW' := hW
  obtain ⟨p, q, hA0, hV, rfl, hfz, hnd⟩ := hW
  have hA : DataW.TrodAll enc Tryz.prog W 0 (fun _ => true) true Tryz.f5.params.toList args.toList ds p := hA0
  rw [Tryz.params5] at hA hval
  have hA1 := hA
  obtain ⟨v0, vs0, d0, ds0, p0, q0, hargs, rfl, rfl, h0, r0⟩ := trodAll_cons hA
  obtain ⟨v1, vs1, d1, ds1, p1, q1, rfl, rfl, rfl, h1, r1⟩ := trodAll_cons r0
  obtain ⟨rfl, rfl, rfl⟩ := trodAll_nil r1
  obtain rfl : args = #[v0, v1] := by cases args; simp_all
  obtain ⟨rfl, rfl⟩ := trodVars_none hV
  have k0 := h0
  have lt0 : ∀ x ∈ p0, x.block < W.heap.size := by obtain ⟨m, hm⟩ := k0; exact DataW.trod_lt m _ _ _ hm
  have k1 := h1
  have lt1 : ∀ x ∈ p1, x.block < W.heap.size := by obtain ⟨m, hm⟩ := k1; exact DataW.trod_lt m _ _ _ hm
  obtain ⟨x, hx, hb, hwf⟩ := Go.Ab.lawArgs false (ts := [3, 34]) (tys := [(.int .i64), (.sl (.pair (.int .i64) (.pair (.int .i64) (.pair (.int .i64) (.pair (.int .i64) (.pair (.int .i64) (.pair (.int .i64) (.pair (.int .i64) (.int .i64)))))))))]) (asp := qK0) (by kernel_rfl) (by kernel_rfl) (fun j t v h1 h2 => hval j t v (by simpa using h1) (by simpa using h2)) hA1
  obtain ⟨k, hk⟩ := vDh x hwf
  refine (Go.Ab.law_calls zVz.ok zVz.loc zK (f := 5) (fn := Tryz.f5) (by kernel_rfl) (Go.Ab.body_loops (Go.Ab.loops1 vGj)) (fun _ => rfl) ((vAt k x).trans hk) hb hx).mono fun e W' ⟨he, bel⟩ => ?_
  subst he
  exact ⟨_, rfl, _, _, _, [], _, [], hW', trodAll_mk1 (shut_bool Tryz.underlying4 _), (trodAll_cons_mk (Below.trod topFloors_laidOut (by kernel_rfl) (of_decide_eq_true (by kernel_rfl)) k0 bel lt0) (trodAll_cons_mk (Below.trod topFloors_laidOut (by kernel_rfl) (of_decide_eq_true (by kernel_rfl)) k1 bel lt1) trodAll_mk0)), rfl, bel.frame _, fun h => by cases h⟩
theorem topFloors_facts : joinedFacts Tryz.pinned.checked.prog 5 Tryz.f5 Rows.topFloorsSpec Rows.topFloorsRow = true := by kernel_rfl
theorem topFloors_named : Tryz.pinned.checked.prog.funcNamed Rows.topFloorsRow.func = some 5 := by kernel_rfl
theorem topFloors_holds : Rows.TopFloorsSaid :=
  OpenClaim.holds_of_wide 5 Tryz.f5 rfl rfl rfl rfl rfl rfl rfl ⟨rfl, rfl, rfl, rfl, rfl⟩ rfl rfl rfl rfl rfl topFloors_named Tryz.func5 topFloors_facts
    (of_decide_eq_true (by kernel_rfl)) (by unfold Func.isWrapper; first | (rw [if_pos (by decide +kernel)]; kernel_rfl) | (rw [if_neg (by decide +kernel)]; exact ⟨rfl, rfl⟩))
    (fun os started H enc _ => topFloors_lifted os started H enc)
end Go.Proofs.YtbejmoaalcabdaaGreat
