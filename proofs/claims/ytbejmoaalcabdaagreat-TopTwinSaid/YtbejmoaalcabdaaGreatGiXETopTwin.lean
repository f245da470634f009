/- part 82 -/
import Derived.Test.YtbejmoaalcabdaaGreatGiXR
import Derived.Test.YtbejmoaalcabdaaGreatRows
import Derived.Test.YtbejmoaalcabdaaGreatGiXPTopTwin
import Derived.ProofKit
import Derived.OpenShut
import Derived.ChangeOld
import Derived.Carry
import Derived.SizedLaws
set_option maxRecDepth 100000
namespace Go.Proofs.YtbejmoaalcabdaaGreat
open Go.ChangeShapes Go.WideShapes Go.ChangeAt Go.RowKit Go.Ab.Gi
theorem topTwin_own:ownKnob Tryz.prog.godebug=none:=by kernel_rfl
theorem topTwin_laidOut:laidOutB Tryz.prog=true:=by kernel_rfl
theorem topTwin_lifted (os:Os)(started:os.Started)(H:Type)(enc:TypeId×Value→H):
    ReturnsInHanded {} Tryz.checked os 3 .any (Rows.topTwinSpec.pre6 enc Tryz.prog Tryz.f3 Rows.topTwinRow.domain false) (Rows.topTwinSpec.post enc Tryz.prog Tryz.f3 false true false false):=by
  refine returnsInHanded_of_change_sized (C:=Tryz.checked) topTwin_own started (by kernel_rfl) Tryz.func3
    (ChangeSpec.witness6 (enc:=enc) (C:=Tryz.checked) false ⟨#[],#[.int .i64 0,.int .i64 0,.slice none 0 0],[]⟩ 8 (by kernel_rfl) (by kernel_rfl) (by kernel_rfl) (by kernel_rfl)) ?_
  intro W base args ds gs before JR hW abY xU _
  have lk:∀(j:Nat) t v,Tryz.f3.params[j]? =some t→args[j]? =some v→Value.okWide Tryz.prog W .any base t v:=JR
  have hW':=hW
  obtain⟨p,q,hA0,hV,rfl,BJ,dA⟩:=hW
  have hA:DataW.TrodAll enc Tryz.prog W 0 (fun _=>true) true Tryz.f3.params.toList args.toList ds p:=hA0
  rw[Tryz.params3] at hA lk xU
  have hA1:=hA
  obtain⟨v0,vs0,d0,ds0,p0,q0,cG,rfl,rfl,h0,r0⟩:=trodAll_cons hA
  obtain⟨v1,vs1,d1,ds1,p1,q1,rfl,rfl,rfl,h1,r1⟩:=trodAll_cons r0
  obtain⟨v2,vs2,d2,ds2,p2,q2,rfl,rfl,rfl,h2,r2⟩:=trodAll_cons r1
  obtain⟨rfl,rfl,rfl⟩:=trodAll_nil r2
  obtain rfl:args=#[v0,v1,v2]:=by cases args;simp_all
  obtain⟨rfl,rfl⟩:=trodVars_none hV
  have k0:=h0
  have lt0:∀x∈p0,x.block<W.heap.size:=by obtain⟨m,hm⟩:=k0;exact DataW.trod_lt m _ _ _ hm
  have k1:=h1
  have lt1:∀x∈p1,x.block<W.heap.size:=by obtain⟨m,hm⟩:=k1;exact DataW.trod_lt m _ _ _ hm
  have k2:=h2
  have lt2:∀x∈p2,x.block<W.heap.size:=by obtain⟨m,hm⟩:=k2;exact DataW.trod_lt m _ _ _ hm
  obtain⟨x,hx,hb,Cd⟩:=Go.Ab.lawArgs true (ts:=[3,3,22]) (tys:=[(.int .i64),(.int .i64),(.sl (.pair (.int .i64) (.pair (.int .i64) (.pair (.sl (.int .u8)) (.pair (.int .i64) (.int .i64))))))]) (asp:=Wr) (by kernel_rfl) (by kernel_rfl) (fun j t v h1 h2=>lk j t v (by simpa using h1) (by simpa using h2)) hA1 xU
  obtain⟨k,hk⟩:=vFx x Cd
  refine(Go.Ab.law_calls Oi.ok Oi.loc fW (f:=3) (fn:=Tryz.f3) (by kernel_rfl) (Go.Ab.body_loops (Go.Ab.loopsOK_of (n:=2) (by kernel_rfl) fun i hi=>match i,hi with|0,_=>⟨Oj,by kernel_rfl,Ws⟩|1,_=>⟨Ol,by kernel_rfl,Wt⟩|i+2,hi=>absurd hi (by omega))) (fun _=>rfl) ((vRc k x).trans hk) hb hx).mono fun e W' ⟨he,Om⟩=>?_
  subst he
  exact⟨_,rfl,_,_,_,[],_,[],hW',trodAll_mk1 (shut_bool Tryz.underlying4 _),(trodAll_cons_mk (Below.trod topTwin_laidOut (by kernel_rfl) (of_decide_eq_true (by kernel_rfl)) k0 Om lt0) (trodAll_cons_mk (Below.trod topTwin_laidOut (by kernel_rfl) (of_decide_eq_true (by kernel_rfl)) k1 Om lt1) (trodAll_cons_mk (Below.trod topTwin_laidOut (by kernel_rfl) (of_decide_eq_true (by kernel_rfl)) k2 Om lt2) trodAll_mk0))),rfl,Om.frame _,fun h=>by cases h⟩
theorem topTwin_facts:joinedFacts Tryz.pinned.checked.prog 3 Tryz.f3 Rows.topTwinSpec Rows.topTwinRow=true:=by kernel_rfl
theorem topTwin_named:Tryz.pinned.checked.prog.funcNamed Rows.topTwinRow.func=some 3:=by kernel_rfl
theorem topTwin_holds:Rows.TopTwinSaid:=
  OpenClaim.holds_of_wide 3 Tryz.f3 rfl rfl rfl rfl rfl rfl rfl ⟨rfl,rfl,rfl,rfl,rfl⟩ rfl rfl rfl rfl rfl topTwin_named Tryz.func3 topTwin_facts
    (of_decide_eq_true (by kernel_rfl)) (by unfold Func.isWrapper;first|(rw[if_pos (by decide+kernel)];kernel_rfl)|(rw[if_neg (by decide+kernel)];exact⟨rfl,rfl⟩))
    (fun os started H enc _=>topTwin_lifted os started H enc)
end Go.Proofs.YtbejmoaalcabdaaGreat
