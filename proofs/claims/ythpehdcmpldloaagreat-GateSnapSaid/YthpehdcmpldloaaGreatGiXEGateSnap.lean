/- part 102 -/
import Derived.Test.YthpehdcmpldloaaGreatGiXR
import Derived.Test.YthpehdcmpldloaaGreatRows
import Derived.Test.YthpehdcmpldloaaGreatGiXPGateSnap
import Derived.ProofKit
import Derived.OpenShut
import Derived.ChangeOld
import Derived.Carry
import Derived.SizedLaws
set_option maxRecDepth 100000
namespace Go.Proofs.YthpehdcmpldloaaGreat
open Go.ChangeShapes Go.WideShapes Go.ChangeAt Go.RowKit Go.Ab.Gi
theorem gateSnap_own:ownKnob Tryz.prog.godebug=none:=by kernel_rfl
theorem gateSnap_laidOut:laidOutB Tryz.prog=true:=by kernel_rfl
theorem gateSnap_lifted (os:Os)(started:os.Started)(H:Type)(enc:TypeId×Value→H):
    ReturnsInHanded {} Tryz.checked os 5 .any (Rows.gateSnapSpec.pre6 enc Tryz.prog Tryz.f5 Rows.gateSnapRow.domain false) (Rows.gateSnapSpec.post enc Tryz.prog Tryz.f5 false true false false):=by
  refine returnsInHanded_of_change_sized (C:=Tryz.checked) gateSnap_own started (by kernel_rfl) Tryz.func5
    (ChangeSpec.witness6 (enc:=enc) (C:=Tryz.checked) false ⟨#[],#[.int .i64 0,.slice none 0 0,.slice none 0 0,.int .i64 0],[]⟩ 8 (by kernel_rfl) (by kernel_rfl) (by kernel_rfl) (by kernel_rfl)) ?_
  intro W base args ds gs before K3 hW ab3 za _
  have lE:∀(j:Nat) t v,Tryz.f5.params[j]? =some t→args[j]? =some v→Value.okWide Tryz.prog W .any base t v:=K3
  have hW':=hW
  obtain⟨p,q,hA0,hV,rfl,Cr,dE⟩:=hW
  have hA:DataW.TrodAll enc Tryz.prog W 0 (fun _=>true) true Tryz.f5.params.toList args.toList ds p:=hA0
  rw[Tryz.params5] at hA lE za
  have hA1:=hA
  obtain⟨v0,vs0,d0,ds0,p0,q0,cI,rfl,rfl,h0,r0⟩:=trodAll_cons hA
  obtain⟨v1,vs1,d1,ds1,p1,q1,rfl,rfl,rfl,h1,r1⟩:=trodAll_cons r0
  obtain⟨v2,vs2,d2,ds2,p2,q2,rfl,rfl,rfl,h2,r2⟩:=trodAll_cons r1
  obtain⟨v3,vs3,d3,ds3,p3,q3,rfl,rfl,rfl,h3,r3⟩:=trodAll_cons r2
  obtain⟨rfl,rfl,rfl⟩:=trodAll_nil r3
  obtain rfl:args=#[v0,v1,v2,v3]:=by cases args;simp_all
  obtain⟨rfl,rfl⟩:=trodVars_none hV
  have k0:=h0
  have lt0:∀x∈p0,x.block<W.heap.size:=by obtain⟨m,hm⟩:=k0;exact DataW.trod_lt m _ _ _ hm
  have k1:=h1
  have lt1:∀x∈p1,x.block<W.heap.size:=by obtain⟨m,hm⟩:=k1;exact DataW.trod_lt m _ _ _ hm
  have k2:=h2
  have lt2:∀x∈p2,x.block<W.heap.size:=by obtain⟨m,hm⟩:=k2;exact DataW.trod_lt m _ _ _ hm
  have k3:=h3
  have lt3:∀x∈p3,x.block<W.heap.size:=by obtain⟨m,hm⟩:=k3;exact DataW.trod_lt m _ _ _ hm
  obtain⟨x,hx,hb,tg⟩:=Go.Ab.lawArgs false (ts:=[3,65,65,2]) (tys:=[(.int .i64),(.sl (.pair (.int .i64) (.pair (.int .i64) (.pair (.int .i64) (.pair (.int .i64) (.pair (.int .i64) (.pair (.int .i64) (.pair (.int .i64) (.int .i64))))))))),(.sl (.pair (.int .i64) (.pair (.int .i64) (.pair (.int .i64) (.pair (.int .i64) (.pair (.int .i64) (.pair (.int .i64) (.pair (.int .i64) (.int .i64))))))))),(.int .i64)]) (asp:=Yj) (by kernel_rfl) (by kernel_rfl) (fun j t v h1 h2=>lE j t v (by simpa using h1) (by simpa using h2)) hA1 za
  obtain⟨k,hk⟩:=vX6 x tg
  refine(Go.Ab.law_calls PM.ok PM.loc gE (f:=5) (fn:=Tryz.f5) (by kernel_rfl) (Go.Ab.body_loops (Go.Ab.loopsOK_of (n:=2) (by kernel_rfl) fun i hi=>match i,hi with|0,_=>⟨PN,by kernel_rfl,vQ6⟩|1,_=>⟨PO,by kernel_rfl,vPu⟩|i+2,hi=>absurd hi (by omega))) (fun _=>rfl) ((vO4 k x).trans hk) hb hx).mono fun e W' ⟨he,K4⟩=>?_
  subst he
  exact⟨_,rfl,_,_,_,[],_,[],hW',trodAll_mk1 (shut_bool Tryz.underlying4 _),(trodAll_cons_mk (Below.trod gateSnap_laidOut (by kernel_rfl) (of_decide_eq_true (by kernel_rfl)) k0 K4 lt0) (trodAll_cons_mk (Below.trod gateSnap_laidOut (by kernel_rfl) (of_decide_eq_true (by kernel_rfl)) k1 K4 lt1) (trodAll_cons_mk (Below.trod gateSnap_laidOut (by kernel_rfl) (of_decide_eq_true (by kernel_rfl)) k2 K4 lt2) (trodAll_cons_mk (Below.trod gateSnap_laidOut (by kernel_rfl) (of_decide_eq_true (by kernel_rfl)) k3 K4 lt3) trodAll_mk0)))),rfl,K4.frame _,fun h=>by cases h⟩
theorem gateSnap_facts:joinedFacts Tryz.pinned.checked.prog 5 Tryz.f5 Rows.gateSnapSpec Rows.gateSnapRow=true:=by kernel_rfl
theorem gateSnap_named:Tryz.pinned.checked.prog.funcNamed Rows.gateSnapRow.func=some 5:=by kernel_rfl
theorem gateSnap_holds:Rows.GateSnapSaid:=
  OpenClaim.holds_of_wide 5 Tryz.f5 rfl rfl rfl rfl rfl rfl rfl ⟨rfl,rfl,rfl,rfl,rfl⟩ rfl rfl rfl rfl rfl gateSnap_named Tryz.func5 gateSnap_facts
    (of_decide_eq_true (by kernel_rfl)) (by unfold Func.isWrapper;first|(rw[if_pos (by decide+kernel)];kernel_rfl)|(rw[if_neg (by decide+kernel)];exact⟨rfl,rfl⟩))
    (fun os started H enc _=>gateSnap_lifted os started H enc)
end Go.Proofs.YthpehdcmpldloaaGreat
