/- part 60 -/
import Derived.Test.YtbejmoaalcabdaaGreatGiXR
import Derived.Test.YtbejmoaalcabdaaGreatRows
import Derived.Test.YtbejmoaalcabdaaGreatGiXPTopClose
import Derived.ProofKit
import Derived.OpenShut
import Derived.ChangeOld
import Derived.Carry
set_option maxRecDepth 100000
namespace Go.Proofs.YtbejmoaalcabdaaGreat
open Go.ChangeShapes Go.WideShapes Go.ChangeAt Go.RowKit Go.Ab.Gi
theorem topClose_own:ownKnob Tryz.prog.godebug=none:=by kernel_rfl
theorem topClose_laidOut:laidOutB Tryz.prog=true:=by kernel_rfl
theorem topClose_lifted (os:Os)(started:os.Started)(H:Type)(enc:TypeId×Value→H):
    ReturnsInHanded {} Tryz.checked os 6 .any (Rows.topCloseSpec.pre6 enc Tryz.prog Tryz.f6 Rows.topCloseRow.domain false) (Rows.topCloseSpec.post enc Tryz.prog Tryz.f6 false true false false):=by
  refine returnsInHanded_of_change (C:=Tryz.checked) topClose_own started (by kernel_rfl) Tryz.func6
    (ChangeSpec.witness6 (enc:=enc) (C:=Tryz.checked) false ⟨#[],#[.int .i64 0,.slice none 0 0],[]⟩ 8 (by kernel_rfl) (by kernel_rfl) (by kernel_rfl) (by kernel_rfl)) ?_
  intro W base args ds gs before FY hW aal _
  have kt:∀(j:Nat) t v,Tryz.f6.params[j]? =some t→args[j]? =some v→Value.okWide Tryz.prog W .any base t v:=FY
  have hW':=hW
  obtain⟨p,q,hA0,hV,rfl,uv,dd⟩:=hW
  have hA:DataW.TrodAll enc Tryz.prog W 0 (fun _=>true) true Tryz.f6.params.toList args.toList ds p:=hA0
  rw[Tryz.params6] at hA kt
  have Q3:=hA
  obtain⟨v0,vs0,d0,ds0,p0,q0,cJ,rfl,rfl,h0,r0⟩:=trodAll_cons hA
  obtain⟨v1,vs1,d1,ds1,p1,q1,rfl,rfl,rfl,h1,r1⟩:=trodAll_cons r0
  obtain⟨rfl,rfl,rfl⟩:=trodAll_nil r1
  obtain rfl:args=#[v0,v1]:=by cases args;simp_all
  obtain⟨rfl,rfl⟩:=trodVars_none hV
  have k0:=h0
  have lt0:∀x∈p0,x.block<W.heap.size:=by obtain⟨m,hm⟩:=k0;exact DataW.trod_lt m _ _ _ hm
  have k1:=h1
  have lt1:∀x∈p1,x.block<W.heap.size:=by obtain⟨m,hm⟩:=k1;exact DataW.trod_lt m _ _ _ hm
  obtain⟨x,hx,hb,yp⟩:=Go.Ab.lawArgs false (ts:=[3,34]) (tys:=[(.int .i64),(.sl (.pair (.int .i64) (.pair (.int .i64) (.pair (.int .i64) (.pair (.int .i64) (.pair (.int .i64) (.pair (.int .i64) (.pair (.int .i64) (.int .i64)))))))))]) (asp:=Q6) (by kernel_rfl) (by kernel_rfl) (fun j t v h1 h2=>kt j t v (by simpa using h1) (by simpa using h2)) Q3
  obtain⟨k,hk⟩:=vIg x yp
  refine(Go.Ab.law_calls xh.ok xh.loc zM (f:=6) (fn:=Tryz.f6) (by kernel_rfl) (Go.Ab.body_loops (Go.Ab.loopsOK_of (n:=5) (by kernel_rfl) fun i hi=>match i,hi with|0,_=>⟨J0,by kernel_rfl,vHm⟩|1,_=>⟨J1,by kernel_rfl,yW0⟩|2,_=>⟨J2,by kernel_rfl,yV7⟩|3,_=>⟨J3,by kernel_rfl,vA9⟩|4,_=>⟨J4,by kernel_rfl,vKd⟩|i+5,hi=>absurd hi (by omega))) (fun _=>rfl) ((vGm k x).trans hk) hb hx).mono fun e W' ⟨he,Q7⟩=>?_
  subst he
  exact⟨_,rfl,_,_,_,[],_,[],hW',trodAll_mk1 (shut_bool Tryz.underlying4 _),(trodAll_cons_mk (Below.trod topClose_laidOut (by kernel_rfl) (of_decide_eq_true (by kernel_rfl)) k0 Q7 lt0) (trodAll_cons_mk (Below.trod topClose_laidOut (by kernel_rfl) (of_decide_eq_true (by kernel_rfl)) k1 Q7 lt1) trodAll_mk0)),rfl,Q7.frame _,fun h=>by cases h⟩
theorem topClose_facts:joinedFacts Tryz.pinned.checked.prog 6 Tryz.f6 Rows.topCloseSpec Rows.topCloseRow=true:=by kernel_rfl
theorem topClose_named:Tryz.pinned.checked.prog.funcNamed Rows.topCloseRow.func=some 6:=by kernel_rfl
theorem topClose_holds:Rows.TopCloseSaid:=
  OpenClaim.holds_of_wide 6 Tryz.f6 rfl rfl rfl rfl rfl rfl rfl ⟨rfl,rfl,rfl,rfl,rfl⟩ rfl rfl rfl rfl rfl topClose_named Tryz.func6 topClose_facts
    (of_decide_eq_true (by kernel_rfl)) (by unfold Func.isWrapper;first|(rw[if_pos (by decide+kernel)];kernel_rfl)|(rw[if_neg (by decide+kernel)];exact⟨rfl,rfl⟩))
    (fun os started H enc _=>topClose_lifted os started H enc)
end Go.Proofs.YtbejmoaalcabdaaGreat
