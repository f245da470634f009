/- part 106 -/
import Derived.Test.YtnojdbmhfbhdjaaGreatGiXR
import Derived.Test.YtnojdbmhfbhdjaaGreatRows
import Derived.Test.YtnojdbmhfbhdjaaGreatGiXPGateBytes
import Derived.ProofKit
import Derived.OpenShut
import Derived.ChangeOld
import Derived.Carry
import Derived.SizedLaws
set_option maxRecDepth 100000
namespace Go.Proofs.YtnojdbmhfbhdjaaGreat
open Go.ChangeShapes Go.WideShapes Go.ChangeAt Go.RowKit Go.Ab.Gi
theorem gateBytes_own:ownKnob Tryz.prog.godebug=none:=by kernel_rfl
theorem gateBytes_laidOut:laidOutB Tryz.prog=true:=by kernel_rfl
theorem gateBytes_lifted (os:Os)(started:os.Started)(H:Type)(enc:TypeId×Value→H):
    ReturnsInHanded {} Tryz.checked os 3 .any (Rows.gateBytesSpec.pre6 enc Tryz.prog Tryz.f3 Rows.gateBytesRow.domain false) (Rows.gateBytesSpec.post enc Tryz.prog Tryz.f3 false true false false):=by
  refine returnsInHanded_of_change_sized (C:=Tryz.checked) gateBytes_own started (by kernel_rfl) Tryz.func3
    (ChangeSpec.witness6 (enc:=enc) (C:=Tryz.checked) false ⟨#[],#[.slice none 0 0,.slice none 0 0,.slice none 0 0],[]⟩ 8 (by kernel_rfl) (by kernel_rfl) (by kernel_rfl) (by kernel_rfl)) ?_
  intro W base args ds gs before Nm hW ahd Bm _
  have iP:∀(j:Nat) t v,Tryz.f3.params[j]? =some t→args[j]? =some v→Value.okWide Tryz.prog W .any base t v:=Nm
  have hW':=hW
  obtain⟨p,q,hA0,hV,rfl,D4,dM⟩:=hW
  have hA:DataW.TrodAll enc Tryz.prog W 0 (fun _=>true) true Tryz.f3.params.toList args.toList ds p:=hA0
  rw[Tryz.params3] at hA iP Bm
  have hA1:=hA
  obtain⟨v0,vs0,d0,ds0,p0,q0,cJ,rfl,rfl,h0,r0⟩:=trodAll_cons hA
  obtain⟨v1,vs1,d1,ds1,p1,q1,rfl,rfl,rfl,h1,r1⟩:=trodAll_cons r0
  obtain⟨v2,vs2,d2,ds2,p2,q2,rfl,rfl,rfl,h2,r2⟩:=trodAll_cons r1
  obtain⟨rfl,rfl,rfl⟩:=trodAll_nil r2
  obtain rfl:args=#[v0,v1,v2]:=by cases args;simp_all
  obtain⟨rfl,rfl⟩:=trodVars_none hV
  have k0:=h0
  have lt0:∀x∈p0,x.block<W.heap.size:=by obtain⟨m,hm⟩:=k0;exact DataW.trod_lt m _ _ _ hm
  have k1:=h1
  have lt1:∀x∈p1,x.block<W.heap.size:=by obtain⟨m,hm⟩:=k1;exact DataW.trod_lt m _ _ _ hm
  have k2:=h2
  have lt2:∀x∈p2,x.block<W.heap.size:=by obtain⟨m,hm⟩:=k2;exact DataW.trod_lt m _ _ _ hm
  obtain⟨x,hx,hb,Ew⟩:=Go.Ab.lawArgs false (ts:=[22,22,23]) (tys:=[(.sl (.int .u8)),(.sl (.int .u8)),(.sl (.pair (.int .i64) (.pair (.int .i64) (.pair (.int .i64) (.pair (.int .i64) (.pair (.int .i64) (.pair (.int .i64) (.pair (.int .i64) (.int .i64)))))))))]) (asp:=yDa) (by kernel_rfl) (by kernel_rfl) (fun j t v h1 h2=>iP j t v (by simpa using h1) (by simpa using h2)) hA1 Bm
  obtain⟨k,hk⟩:=abq x Ew
  refine(Go.Ab.law_calls qN1.ok qN1.loc gO (f:=3) (fn:=Tryz.f3) (by kernel_rfl) (Go.Ab.body_loops (Go.Ab.loops1 abr)) (fun _=>rfl) ((abt k x).trans hk) hb hx).mono fun e W' ⟨he,R4⟩=>?_
  subst he
  exact⟨_,rfl,_,_,_,[],_,[],hW',trodAll_mk1 (shut_bool Tryz.underlying4 _),(trodAll_cons_mk (Below.trod gateBytes_laidOut (by kernel_rfl) (of_decide_eq_true (by kernel_rfl)) k0 R4 lt0) (trodAll_cons_mk (Below.trod gateBytes_laidOut (by kernel_rfl) (of_decide_eq_true (by kernel_rfl)) k1 R4 lt1) (trodAll_cons_mk (Below.trod gateBytes_laidOut (by kernel_rfl) (of_decide_eq_true (by kernel_rfl)) k2 R4 lt2) trodAll_mk0))),rfl,R4.frame _,fun h=>by cases h⟩
theorem gateBytes_facts:joinedFacts Tryz.pinned.checked.prog 3 Tryz.f3 Rows.gateBytesSpec Rows.gateBytesRow=true:=by kernel_rfl
theorem gateBytes_named:Tryz.pinned.checked.prog.funcNamed Rows.gateBytesRow.func=some 3:=by kernel_rfl
theorem gateBytes_holds:Rows.GateBytesSaid:=
  OpenClaim.holds_of_wide 3 Tryz.f3 rfl rfl rfl rfl rfl rfl rfl ⟨rfl,rfl,rfl,rfl,rfl⟩ rfl rfl rfl rfl rfl gateBytes_named Tryz.func3 gateBytes_facts
    (of_decide_eq_true (by kernel_rfl)) (by unfold Func.isWrapper;first|(rw[if_pos (by decide+kernel)];kernel_rfl)|(rw[if_neg (by decide+kernel)];exact⟨rfl,rfl⟩))
    (fun os started H enc _=>gateBytes_lifted os started H enc)
end Go.Proofs.YtnojdbmhfbhdjaaGreat
