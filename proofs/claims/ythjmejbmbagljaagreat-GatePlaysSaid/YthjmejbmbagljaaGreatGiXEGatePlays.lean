/- part 102 -/
import Derived.Test.YthjmejbmbagljaaGreatGiXR
import Derived.Test.YthjmejbmbagljaaGreatRows
import Derived.Test.YthjmejbmbagljaaGreatGiXPGatePlays
import Derived.ProofKit
import Derived.OpenShut
import Derived.ChangeOld
import Derived.Carry
import Derived.SizedLaws
set_option maxRecDepth 100000
namespace Go.Proofs.YthjmejbmbagljaaGreat
open Go.ChangeShapes Go.WideShapes Go.ChangeAt Go.RowKit Go.Ab.Gi
theorem gatePlays_own:ownKnob Tryz.prog.godebug=none:=by kernel_rfl
theorem gatePlays_laidOut:laidOutB Tryz.prog=true:=by kernel_rfl
theorem gatePlays_lifted (os:Os)(started:os.Started)(H:Type)(enc:TypeId×Value→H):
    ReturnsInHanded {} Tryz.checked os 3 .any (Rows.gatePlaysSpec.pre6 enc Tryz.prog Tryz.f3 Rows.gatePlaysRow.domain false) (Rows.gatePlaysSpec.post enc Tryz.prog Tryz.f3 false true false false):=by
  refine returnsInHanded_of_change_sized (C:=Tryz.checked) gatePlays_own started (by kernel_rfl) Tryz.func3
    (ChangeSpec.witness6 (enc:=enc) (C:=Tryz.checked) false ⟨#[],#[.int .i64 0,.int .i64 0,.int .i64 0,.slice none 0 0],[]⟩ 8 (by kernel_rfl) (by kernel_rfl) (by kernel_rfl) (by kernel_rfl)) ?_
  intro W base args ds gs before NL hW ahQ Br _
  have iQ:∀(j:Nat) t v,Tryz.f3.params[j]? =some t→args[j]? =some v→Value.okWide Tryz.prog W .any base t v:=NL
  have hW':=hW
  obtain⟨p,q,hA0,hV,rfl,Ec,dJ⟩:=hW
  have hA:DataW.TrodAll enc Tryz.prog W 0 (fun _=>true) true Tryz.f3.params.toList args.toList ds p:=hA0
  rw[Tryz.params3] at hA iQ Br
  have hA1:=hA
  obtain⟨v0,vs0,d0,ds0,p0,q0,cJ,rfl,rfl,h0,r0⟩:=trodAll_cons hA
  obtain⟨v1,vs1,d1,ds1,p1,q1,rfl,rfl,rfl,h1,r1⟩:=trodAll_cons r0
  obtain⟨v2,vs2,d2,ds2,p2,q2,rfl,rfl,rfl,h2,r2⟩:=trodAll_cons r1
  obtain⟨v3,vs3,d3,ds3,p3,q3,rfl,rfl,rfl,h3,r3⟩:=trodAll_cons r2
  obtain⟨rfl,rfl,rfl⟩:=trodAll_nil r3
  obtain rfl:args=#[v0,v1,v2,v3]:=by cases args;simp_all
  obtain⟨rfl,rfl⟩:=trodVars_none hV
  have k0:=h0
  have lt0:∀x∈p0,x.block<W.heap.size:=by obtain⟨m,hm⟩:=k0;exact DataW.trod_lt m _ _ _ hm
  have k1:=h1
  have lt1:∀x∈p1,x.block<W.heap.size:=by obtain⟨m,hm⟩:=k1;exact DataW.trod_lt m _ _ _ hm
  have k2:=h2
  have lt2:∀x∈p2,x.block<W.heap.size:=by obtain⟨m,hm⟩:=k2;exact DataW.trod_lt m _ _ _ hm
  have k3:=h3
  have lt3:∀x∈p3,x.block<W.heap.size:=by obtain⟨m,hm⟩:=k3;exact DataW.trod_lt m _ _ _ hm
  obtain⟨x,hx,hb,EG⟩:=Go.Ab.lawArgs false (ts:=[3,3,3,22]) (tys:=[(.int .i64),(.int .i64),(.int .i64),(.sl (.pair (.int .i64) (.pair (.int .i64) (.pair (.sl (.int .u8)) (.pair (.int .i64) (.int .i64))))))]) (asp:=qRm) (by kernel_rfl) (by kernel_rfl) (fun j t v h1 h2=>iQ j t v (by simpa using h1) (by simpa using h2)) hA1 Br
  obtain⟨k,hk⟩:=vUj x EG
  refine(Go.Ab.law_calls qQm.ok qQm.loc gJ (f:=3) (fn:=Tryz.f3) (by kernel_rfl) (Go.Ab.body_loops (Go.Ab.loops1 abK)) (fun _=>rfl) ((abL k x).trans hk) hb hx).mono fun e W' ⟨he,NM⟩=>?_
  subst he
  exact⟨_,rfl,_,_,_,[],_,[],hW',trodAll_mk1 (shut_bool Tryz.underlying4 _),(trodAll_cons_mk (Below.trod gatePlays_laidOut (by kernel_rfl) (of_decide_eq_true (by kernel_rfl)) k0 NM lt0) (trodAll_cons_mk (Below.trod gatePlays_laidOut (by kernel_rfl) (of_decide_eq_true (by kernel_rfl)) k1 NM lt1) (trodAll_cons_mk (Below.trod gatePlays_laidOut (by kernel_rfl) (of_decide_eq_true (by kernel_rfl)) k2 NM lt2) (trodAll_cons_mk (Below.trod gatePlays_laidOut (by kernel_rfl) (of_decide_eq_true (by kernel_rfl)) k3 NM lt3) trodAll_mk0)))),rfl,NM.frame _,fun h=>by cases h⟩
theorem gatePlays_facts:joinedFacts Tryz.pinned.checked.prog 3 Tryz.f3 Rows.gatePlaysSpec Rows.gatePlaysRow=true:=by kernel_rfl
theorem gatePlays_named:Tryz.pinned.checked.prog.funcNamed Rows.gatePlaysRow.func=some 3:=by kernel_rfl
theorem gatePlays_holds:Rows.GatePlaysSaid:=
  OpenClaim.holds_of_wide 3 Tryz.f3 rfl rfl rfl rfl rfl rfl rfl ⟨rfl,rfl,rfl,rfl,rfl⟩ rfl rfl rfl rfl rfl gatePlays_named Tryz.func3 gatePlays_facts
    (of_decide_eq_true (by kernel_rfl)) (by unfold Func.isWrapper;first|(rw[if_pos (by decide+kernel)];kernel_rfl)|(rw[if_neg (by decide+kernel)];exact⟨rfl,rfl⟩))
    (fun os started H enc _=>gatePlays_lifted os started H enc)
end Go.Proofs.YthjmejbmbagljaaGreat
