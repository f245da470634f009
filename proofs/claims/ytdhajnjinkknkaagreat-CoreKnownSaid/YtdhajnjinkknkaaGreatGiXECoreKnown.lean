/- The row of the law CoreKnown, printed (abprint.py). -/
import Derived.Test.YtdhajnjinkknkaaGreatGiXR
import Derived.Test.YtdhajnjinkknkaaGreatRows
import Derived.Test.YtdhajnjinkknkaaGreatGiXPCoreKnown
import Derived.ProofKit
import Derived.OpenShut
import Derived.ChangeOld
import Derived.Carry
set_option maxRecDepth 100000
namespace Go.Proofs.YtdhajnjinkknkaaGreat
open Go.ChangeShapes Go.WideShapes Go.ChangeAt Go.RowKit Go.Ab.Gi

theorem coreKnown_own : ownKnob Tryz.prog.godebug = none := by kernel_rfl
theorem coreKnown_laidOut : laidOutB Tryz.prog = true := by kernel_rfl
theorem coreKnown_lifted (os : Os) (started : os.Started) (H : Type) (enc : TypeId × Value → H) :
    ReturnsInHanded {} Tryz.checked os 6 .any (Rows.coreKnownSpec.pre6 enc Tryz.prog Tryz.f6 Rows.coreKnownRow.domain false) (Rows.coreKnownSpec.post enc Tryz.prog Tryz.f6 false true false false) := by
  refine returnsInHanded_of_change (C := Tryz.checked) coreKnown_own started (by kernel_rfl) Tryz.func6
    (ChangeSpec.witness6 (enc := enc) (C := Tryz.checked) false ⟨#[], #[.int .i64 0], []⟩ 8 (by kernel_rfl) (by kernel_rfl) (by kernel_rfl) (by kernel_rfl)) ?_
  intro W base args ds gs before hval0 hW hcnd _
  have hval : ∀ (j : Nat) t v, Tryz.f6.params[j]? = some t → args[j]? = some v → Value.okWide Tryz.prog W .any base t v := hval0
  have hW' := hW
  obtain ⟨p, q, hA0, hV, rfl, hfz, hnd⟩ := hW
  have hA : DataW.TrodAll enc Tryz.prog W 0 (fun _ => true) true Tryz.f6.params.toList args.toList ds p := hA0
  rw [Tryz.params6] at hA hval
  have hA1 := hA
  obtain ⟨v0, vs0, d0, ds0, p0, q0, hargs, rfl, rfl, h0, r0⟩ := trodAll_cons hA
  obtain ⟨rfl, rfl, rfl⟩ := trodAll_nil r0
  obtain rfl : args = #[v0] := by cases args; simp_all
  obtain ⟨rfl, rfl⟩ := trodVars_none hV
  have k0 := h0
  have lt0 : ∀ x ∈ p0, x.block < W.heap.size := by obtain ⟨m, hm⟩ := k0; exact DataW.trod_lt m _ _ _ hm
  obtain ⟨x, hx, hb, hwf⟩ := Go.Ab.lawArgs false (ts := [3]) (tys := [(.int .i64)]) (asp := as_girolaw23_CoreKnown) (by kernel_rfl) (by kernel_rfl) (fun j t v h1 h2 => hval j t v (by simpa using h1) (by simpa using h2)) hA1
  obtain ⟨k, hk⟩ := pure_girolaw23_CoreKnown x hwf
  refine (Go.Ab.law_calls B_girolaw23_CoreKnown.ok B_girolaw23_CoreKnown.loc mixed_orders (f := 6) (fn := Tryz.f6) (by kernel_rfl) (Go.Ab.body_loops Go.Ab.loops0) (fun _ => rfl) ((girolaw23_CoreKnown_ev k x).trans hk) hb hx).mono fun e W' ⟨he, bel⟩ => ?_
  subst he
  exact ⟨_, rfl, _, _, _, [], _, [], hW', trodAll_mk1 (shut_bool Tryz.underlying4 _), (trodAll_cons_mk (Below.trod coreKnown_laidOut (by kernel_rfl) (of_decide_eq_true (by kernel_rfl)) k0 bel lt0) trodAll_mk0), rfl, bel.frame _, fun h => by cases h⟩
theorem coreKnown_holds : Rows.CoreKnownSaid :=
  OpenClaim.holds_of_wide 6 Tryz.f6 rfl rfl rfl rfl rfl rfl rfl ⟨rfl, rfl, rfl, rfl, rfl⟩ rfl rfl rfl rfl rfl (by kernel_rfl) Tryz.func6 (by kernel_rfl)
    (of_decide_eq_true (by kernel_rfl)) (by unfold Func.isWrapper; first | (rw [if_pos (by decide +kernel)]; kernel_rfl) | (rw [if_neg (by decide +kernel)]; exact ⟨rfl, rfl⟩))
    (fun os started H enc _ => coreKnown_lifted os started H enc)
end Go.Proofs.YtdhajnjinkknkaaGreat
