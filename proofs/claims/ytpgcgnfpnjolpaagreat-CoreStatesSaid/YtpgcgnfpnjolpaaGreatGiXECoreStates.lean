/- part 74 -/
import Derived.Test.YtpgcgnfpnjolpaaGreatGiXR
import Derived.Test.YtpgcgnfpnjolpaaGreatRows
import Derived.Test.YtpgcgnfpnjolpaaGreatGiXPCoreStates
import Derived.ProofKit
import Derived.OpenShut
import Derived.ChangeOld
import Derived.Carry
import Derived.SizedLaws
set_option maxRecDepth 100000
namespace Go.Proofs.YtpgcgnfpnjolpaaGreat
open Go.ChangeShapes Go.WideShapes Go.ChangeAt Go.RowKit Go.Ab.Gi
theorem coreStates_own:ownKnob Tryz.prog.godebug=none:=by kernel_rfl
theorem coreStates_laidOut:laidOutB Tryz.prog=true:=by kernel_rfl
theorem coreStates_lifted (os:Os)(started:os.Started)(H:Type)(enc:TypeId×Value→H):
    ReturnsInHanded {} Tryz.checked os 4 .any (Rows.coreStatesSpec.pre6 enc Tryz.prog Tryz.f4 Rows.coreStatesRow.domain false) (Rows.coreStatesSpec.post enc Tryz.prog Tryz.f4 false true false false):=by
  refine returnsInHanded_of_change_sized (C:=Tryz.checked) coreStates_own started (by kernel_rfl) Tryz.func4
    (ChangeSpec.witness6 (enc:=enc) (C:=Tryz.checked) false ⟨#[],#[.agg #[.int .i64 0,.slice none 0 0,.int .i64 0,.int .i64 0,.int .i64 0],.agg #[.int .i64 0,.slice none 0 0,.slice none 0 0,.slice none 0 0,.slice none 0 0,.slice none 0 0,.slice none 0 0,.slice none 0 0,.slice none 0 0,.int .i64 0,.bool false],.agg #[.int .i64 0,.int .i64 0,.int .i64 0,.int .i64 0,.int .i64 0,.int .i64 0,.int .i64 0,.int .i64 0]],[]⟩ 8 (by kernel_rfl) (by kernel_rfl) (by kernel_rfl) (by kernel_rfl)) ?_
  intro W base args ds gs before HU hW aas uW _
  have fT:∀(j:Nat) t v,Tryz.f4.params[j]? =some t→args[j]? =some v→Value.okWide Tryz.prog W .any base t v:=HU
  have hW':=hW
  obtain⟨p,q,hA0,hV,rfl,zb,di⟩:=hW
  have hA:DataW.TrodAll enc Tryz.prog W 0 (fun _=>true) true Tryz.f4.params.toList args.toList ds p:=hA0
  rw[Tryz.params4] at hA fT uW
  have hA1:=hA
  obtain⟨v0,vs0,d0,ds0,p0,q0,cy,rfl,rfl,h0,r0⟩:=trodAll_cons hA
  obtain⟨v1,vs1,d1,ds1,p1,q1,rfl,rfl,rfl,h1,r1⟩:=trodAll_cons r0
  obtain⟨v2,vs2,d2,ds2,p2,q2,rfl,rfl,rfl,h2,r2⟩:=trodAll_cons r1
  obtain⟨rfl,rfl,rfl⟩:=trodAll_nil r2
  obtain rfl:args=#[v0,v1,v2]:=by cases args;simp_all
  obtain⟨rfl,rfl⟩:=trodVars_none hV
  have k0:=h0
  have lt0:∀x∈p0,x.block<W.heap.size:=by obtain⟨m,hm⟩:=k0;exact DataW.trod_lt m _ _ _ hm
  have k1:=h1
  have lt1:∀x∈p1,x.block<W.heap.size:=by obtain⟨m,hm⟩:=k1;exact DataW.trod_lt m _ _ _ hm
  have k2:=h2
  have lt2:∀x∈p2,x.block<W.heap.size:=by obtain⟨m,hm⟩:=k2;exact DataW.trod_lt m _ _ _ hm
  obtain⟨x,hx,hb,Ae⟩:=Go.Ab.lawArgs true (ts:=[24,32,41]) (tys:=[(.pair (.int .i64) (.pair (.sl (.pair (.int .i64) (.int .i64))) (.pair (.int .i64) (.pair (.int .i64) (.int .i64))))),(.pair (.int .i64) (.pair (.pair (.sl (.pair (.int .i64) (.pair (.int .i64) (.int .i64)))) (.pair (.sl (.sl (.int .i64))) (.pair (.sl (.int .i64)) (.sl (.sl (.int .i64)))))) (.pair (.sl (.int .i64)) (.pair (.sl (.sl (.int .i64))) (.pair (.sl (.pair (.int .i64) (.pair (.int .i64) (.pair (.int .i64) (.pair (.int .i64) (.pair (.int .i64) (.pair (.int .i64) (.int .i64)))))))) (.pair (.sl (.int .i64)) (.pair (.int .i64) .bool))))))),(.pair (.int .i64) (.pair (.int .i64) (.pair (.int .i64) (.pair (.int .i64) (.pair (.int .i64) (.pair (.int .i64) (.pair (.int .i64) (.int .i64))))))))]) (asp:=R8) (by kernel_rfl) (by kernel_rfl) (fun j t v h1 h2=>fT j t v (by simpa using h1) (by simpa using h2)) hA1 uW
  obtain⟨k,hk⟩:=yYb x Ae
  refine(Go.Ab.law_calls yMk.ok yMk.loc fl (f:=4) (fn:=Tryz.f4) (by kernel_rfl) (Go.Ab.body_loops Go.Ab.loops0) (fun _=>rfl) ((vI2 k x).trans hk) hb hx).mono fun e W' ⟨he,Ma⟩=>?_
  subst he
  exact⟨_,rfl,_,_,_,[],_,[],hW',trodAll_mk1 (shut_bool Tryz.underlying4 _),(trodAll_cons_mk (Below.trod coreStates_laidOut (by kernel_rfl) (of_decide_eq_true (by kernel_rfl)) k0 Ma lt0) (trodAll_cons_mk (Below.trod coreStates_laidOut (by kernel_rfl) (of_decide_eq_true (by kernel_rfl)) k1 Ma lt1) (trodAll_cons_mk (Below.trod coreStates_laidOut (by kernel_rfl) (of_decide_eq_true (by kernel_rfl)) k2 Ma lt2) trodAll_mk0))),rfl,Ma.frame _,fun h=>by cases h⟩
theorem coreStates_facts:joinedFacts Tryz.pinned.checked.prog 4 Tryz.f4 Rows.coreStatesSpec Rows.coreStatesRow=true:=by kernel_rfl
theorem coreStates_named:Tryz.pinned.checked.prog.funcNamed Rows.coreStatesRow.func=some 4:=by kernel_rfl
theorem coreStates_holds:Rows.CoreStatesSaid:=
  OpenClaim.holds_of_wide 4 Tryz.f4 rfl rfl rfl rfl rfl rfl rfl ⟨rfl,rfl,rfl,rfl,rfl⟩ rfl rfl rfl rfl rfl coreStates_named Tryz.func4 coreStates_facts
    (of_decide_eq_true (by kernel_rfl)) (by unfold Func.isWrapper;first|(rw[if_pos (by decide+kernel)];kernel_rfl)|(rw[if_neg (by decide+kernel)];exact⟨rfl,rfl⟩))
    (fun os started H enc _=>coreStates_lifted os started H enc)
end Go.Proofs.YtpgcgnfpnjolpaaGreat
