/- part 77 -/
import Derived.Test.YtpgcgnfpnjolpaaGreatGiXR
import Derived.Test.YtpgcgnfpnjolpaaGreatRows
import Derived.Test.YtpgcgnfpnjolpaaGreatGiXPCoreIs
import Derived.ProofKit
import Derived.OpenShut
import Derived.ChangeOld
import Derived.Carry
import Derived.SizedLaws
set_option maxRecDepth 100000
namespace Go.Proofs.YtpgcgnfpnjolpaaGreat
open Go.ChangeShapes Go.WideShapes Go.ChangeAt Go.RowKit Go.Ab.Gi
theorem coreIs_own:ownKnob Tryz.prog.godebug=none:=by kernel_rfl
theorem coreIs_laidOut:laidOutB Tryz.prog=true:=by kernel_rfl
theorem coreIs_lifted (os:Os)(started:os.Started)(H:Type)(enc:TypeId×Value→H):
    ReturnsInHanded {} Tryz.checked os 3 .any (Rows.coreIsSpec.pre6 enc Tryz.prog Tryz.f3 Rows.coreIsRow.domain false) (Rows.coreIsSpec.post enc Tryz.prog Tryz.f3 false true false false):=by
  refine returnsInHanded_of_change_sized (C:=Tryz.checked) coreIs_own started (by kernel_rfl) Tryz.func3
    (ChangeSpec.witness6 (enc:=enc) (C:=Tryz.checked) false ⟨#[],#[.agg #[.int .i64 0,.slice none 0 0,.int .i64 0,.int .i64 0,.int .i64 0],.agg #[.int .i64 0,.slice none 0 0,.slice none 0 0,.slice none 0 0,.slice none 0 0,.slice none 0 0,.slice none 0 0,.slice none 0 0,.slice none 0 0,.int .i64 0,.bool false]],[]⟩ 8 (by kernel_rfl) (by kernel_rfl) (by kernel_rfl) (by kernel_rfl)) ?_
  intro W base args ds gs before xT hW aak nX _
  have ku:∀(j:Nat) t v,Tryz.f3.params[j]? =some t→args[j]? =some v→Value.okWide Tryz.prog W .any base t v:=xT
  have hW':=hW
  obtain⟨p,q,hA0,hV,rfl,qo,cc⟩:=hW
  have hA:DataW.TrodAll enc Tryz.prog W 0 (fun _=>true) true Tryz.f3.params.toList args.toList ds p:=hA0
  rw[Tryz.params3] at hA ku nX
  have hA1:=hA
  obtain⟨v0,vs0,d0,ds0,p0,q0,bH,rfl,rfl,h0,r0⟩:=trodAll_cons hA
  obtain⟨v1,vs1,d1,ds1,p1,q1,rfl,rfl,rfl,h1,r1⟩:=trodAll_cons r0
  obtain⟨rfl,rfl,rfl⟩:=trodAll_nil r1
  obtain rfl:args=#[v0,v1]:=by cases args;simp_all
  obtain⟨rfl,rfl⟩:=trodVars_none hV
  have k0:=h0
  have lt0:∀x∈p0,x.block<W.heap.size:=by obtain⟨m,hm⟩:=k0;exact DataW.trod_lt m _ _ _ hm
  have k1:=h1
  have lt1:∀x∈p1,x.block<W.heap.size:=by obtain⟨m,hm⟩:=k1;exact DataW.trod_lt m _ _ _ hm
  obtain⟨x,hx,hb,rH⟩:=Go.Ab.lawArgs false (ts:=[24,32]) (tys:=[(.pair (.int .i64) (.pair (.sl (.pair (.int .i64) (.int .i64))) (.pair (.int .i64) (.pair (.int .i64) (.int .i64))))),(.pair (.int .i64) (.pair (.pair (.sl (.pair (.int .i64) (.pair (.int .i64) (.int .i64)))) (.pair (.sl (.sl (.int .i64))) (.pair (.sl (.int .i64)) (.sl (.sl (.int .i64)))))) (.pair (.sl (.int .i64)) (.pair (.sl (.sl (.int .i64))) (.pair (.sl (.pair (.int .i64) (.pair (.int .i64) (.pair (.int .i64) (.pair (.int .i64) (.pair (.int .i64) (.pair (.int .i64) (.int .i64)))))))) (.pair (.sl (.int .i64)) (.pair (.int .i64) .bool)))))))]) (asp:=Ig) (by kernel_rfl) (by kernel_rfl) (fun j t v h1 h2=>ku j t v (by simpa using h1) (by simpa using h2)) hA1 nX
  obtain⟨k,hk⟩:=yQy x rH
  refine(Go.Ab.law_calls SA.ok SA.loc dQ (f:=3) (fn:=Tryz.f3) (by kernel_rfl) (Go.Ab.body_loops Go.Ab.loops0) (fun _=>rfl) ((yJm k x).trans hk) hb hx).mono fun e W' ⟨he,Ih⟩=>?_
  subst he
  exact⟨_,rfl,_,_,_,[],_,[],hW',trodAll_mk1 (shut_bool Tryz.underlying4 _),(trodAll_cons_mk (Below.trod coreIs_laidOut (by kernel_rfl) (of_decide_eq_true (by kernel_rfl)) k0 Ih lt0) (trodAll_cons_mk (Below.trod coreIs_laidOut (by kernel_rfl) (of_decide_eq_true (by kernel_rfl)) k1 Ih lt1) trodAll_mk0)),rfl,Ih.frame _,fun h=>by cases h⟩
theorem coreIs_facts:joinedFacts Tryz.pinned.checked.prog 3 Tryz.f3 Rows.coreIsSpec Rows.coreIsRow=true:=by kernel_rfl
theorem coreIs_named:Tryz.pinned.checked.prog.funcNamed Rows.coreIsRow.func=some 3:=by kernel_rfl
theorem coreIs_holds:Rows.CoreIsSaid:=
  OpenClaim.holds_of_wide 3 Tryz.f3 rfl rfl rfl rfl rfl rfl rfl ⟨rfl,rfl,rfl,rfl,rfl⟩ rfl rfl rfl rfl rfl coreIs_named Tryz.func3 coreIs_facts
    (of_decide_eq_true (by kernel_rfl)) (by unfold Func.isWrapper;first|(rw[if_pos (by decide+kernel)];kernel_rfl)|(rw[if_neg (by decide+kernel)];exact⟨rfl,rfl⟩))
    (fun os started H enc _=>coreIs_lifted os started H enc)
end Go.Proofs.YtpgcgnfpnjolpaaGreat
